/- Functions of the program as typed functions, and that the machine runs as they say (part 2). No further condition. -/
import Derived.Test.YtikifjdbaggajaaK2
import Derived.Test.YtikifjdbaggajaaProg
import Derived.Test.YtikifjdbaggajaaChecked
import Derived.KernelRfl
import Derived.Test.YtikifjdbaggajaaG1
set_option linter.unusedVariables false
set_option linter.unusedSimpArgs false
/- Functions of the program, as typed functions, and that the machine runs as they say. -/
namespace Go.Zq
open Go.Proofs
/- loop.example/g01109/impl.IsGraph -/
def A33_5 : AC := (AC.cond (O.t 48) (AC.seq (AC.reg [] [(I.mk (some 2) none false (X.v (A.mov (O.k (V.bool false)))))] []) AC.ret) AC.skip)
def A33_4 : AC := (AC.seq (AC.reg [] [(I.mk (some 17) none false (X.v (A.idxA (O.t 4) (O.k (V.int IntKind.i64 (Int.ofNat 0))) 2 1))), (I.mk (some 18) none false (X.v (A.load Sh.s (O.t 17)))), (I.mk (some 19) none false (X.v (A.bin BinOp.lss (O.t 18) (O.k (V.int IntKind.i64 (Int.ofNat 0)))))), (I.mk (some 20) none false (X.v (A.mov (O.t 19)))), (I.mk (some 21) (some (20, false)) false (X.v (A.idxA (O.t 4) (O.k (V.int IntKind.i64 (Int.ofNat 0))) 2 1))), (I.mk (some 22) (some (20, false)) false (X.v (A.load Sh.s (O.t 21)))), (I.mk (some 23) (some (20, false)) false (X.v (A.idxA (O.t 4) (O.k (V.int IntKind.i64 (Int.ofNat 1))) 2 1))), (I.mk (some 24) (some (20, false)) false (X.v (A.load Sh.s (O.t 23)))), (I.mk (some 25) (some (20, false)) false (X.v (A.bin BinOp.geq (O.t 22) (O.t 24)))), (I.mk (some 26) none false (X.v (A.pick (O.t 20) (O.k (V.bool true)) (O.t 25)))), (I.mk (some 27) none false (X.v (A.mov (O.t 26)))), (I.mk (some 28) (some (27, false)) false (X.v (A.idxA (O.t 4) (O.k (V.int IntKind.i64 (Int.ofNat 1))) 2 1))), (I.mk (some 29) (some (27, false)) false (X.v (A.load Sh.s (O.t 28)))), (I.mk (some 30) (some (27, false)) false (X.v (A.fld (O.t 1) 0 0))), (I.mk (some 31) (some (27, false)) false (X.v (A.load Sh.s (O.t 30)))), (I.mk (some 32) (some (27, false)) false (X.v (A.bin BinOp.geq (O.t 29) (O.t 31)))), (I.mk (some 33) none false (X.v (A.pick (O.t 27) (O.k (V.bool true)) (O.t 32)))), (I.mk (some 34) none false (X.v (A.mov (O.t 33)))), (I.mk (some 35) (some (34, false)) false (X.v (A.mov (O.t 3)))), (I.mk (some 36) (some (34, false)) false (X.v (A.bin BinOp.gtr (O.t 35) (O.k (V.int IntKind.i64 (Int.ofNat 0)))))), (I.mk (some 37) (some (34, false)) false (X.v (A.mov (O.t 36)))), (I.mk (some 38) (some (37, true)) false (X.v (A.fld (O.t 1) 1 1))), (I.mk (some 39) (some (37, true)) false (X.v (A.load Sh.p (O.t 38)))), (I.mk (some 40) (some (37, true)) false (X.v (A.mov (O.t 3)))), (I.mk (some 41) (some (37, true)) false (X.v (A.bin BinOp.sub (O.t 40) (O.k (V.int IntKind.i64 (Int.ofNat 1)))))), (I.mk (some 42) (some (37, true)) false (X.v (A.idx (O.t 39) (O.t 41) 2))), (I.mk (some 43) (some (37, true)) false (X.v (A.sliceA (O.t 42) 2 Sh.s))), (I.mk (some 44) (some (37, true)) false (X.v (A.sliceA (O.t 4) 2 Sh.s))), (I.mk (some 45) (some (37, true)) false (X.call (O.k (V.fn 61 [] [])) [(O.t 43), (O.t 44)])), (I.mk (some 46) (some (37, true)) false (X.v (A.bin BinOp.geq (O.t 45) (O.k (V.int IntKind.i64 (Int.ofNat 0)))))), (I.mk (some 47) (some (34, false)) false (X.v (A.pick (O.t 37) (O.t 46) (O.k (V.bool false))))), (I.mk (some 48) none false (X.v (A.pick (O.t 34) (O.k (V.bool true)) (O.t 47))))] []) A33_5)
def A33_6 : AC := (AC.reg [] [(I.mk (some 49) none false (X.v (A.bin BinOp.add (O.t 12) (O.k (V.int IntKind.i64 (Int.ofNat 1)))))), (I.mk (some 12) none false (X.v (A.mov (O.t 49))))] [])
def A33_3 : AC := (AC.seq (AC.block 1 (AC.seq (AC.reg [.clr [4]] [(I.mk (some 14) none false (X.v (A.mov (O.t 12)))), (I.mk (some 15) none false (X.v (A.idx (O.t 10) (O.t 12) 2))), (I.mk (some 16) none false (X.v (A.load (Sh.ag [Sh.s, Sh.s]) (O.t 15)))), (I.mk (some 4) none false (X.alloc (V.agg [(V.int IntKind.i64 (Int.ofNat 0)), (V.int IntKind.i64 (Int.ofNat 0))]))), (I.mk (some 3) none false (X.v (A.mov (O.t 14)))), (I.mk none none false (X.store (Sh.ag [Sh.s, Sh.s]) (O.t 4) (O.t 16)))] []) A33_4)) A33_6)
def A33_2 : AC := (AC.seq (AC.cond (O.t 13) AC.skip (AC.exit 0)) A33_3)
def A33_1 : AC := (AC.seq (AC.reg [] [(I.mk (some 13) none false (X.v (A.bin BinOp.lss (O.t 12) (O.t 11))))] []) A33_2)
def A33_7 : AC := (AC.seq (AC.reg [] [(I.mk (some 2) none false (X.v (A.mov (O.k (V.bool true)))))] []) AC.ret)
def A33_9 : AC := (AC.cond (O.t 8) (AC.seq (AC.reg [] [(I.mk (some 2) none false (X.v (A.mov (O.k (V.bool false)))))] []) AC.ret) AC.skip)
def A33_11 : AC := (AC.block 0 (AC.loop A33_1))
def A33_10 : AC := (AC.seq (AC.seq (AC.reg [] [(I.mk (some 9) none false (X.v (A.fld (O.t 1) 1 1))), (I.mk (some 10) none false (X.v (A.load Sh.p (O.t 9)))), (I.mk (some 11) none false (X.v (A.len (O.t 10)))), (I.mk (some 12) none false (X.v (A.mov (O.k (V.int IntKind.i64 (Int.ofNat 0))))))] []) A33_11) A33_7)
def A33_8 : AC := (AC.seq (AC.seq (AC.reg [] [(I.mk (some 5) none false (X.v (A.fld (O.t 1) 0 0))), (I.mk (some 6) none false (X.v (A.load Sh.s (O.t 5)))), (I.mk (some 7) none false (X.call (O.k (V.fn 60 [] [])) [(O.t 6), (O.k (V.int IntKind.i64 (Int.ofNat 0))), (O.k (V.int IntKind.i64 (Int.ofNat 8)))])), (I.mk (some 8) none false (X.v (A.un UnOp.not (O.t 7))))] []) A33_9) A33_10)
def A33 : AC := (AC.seq (AC.reg [.clr [1]] [(I.mk (some 1) none false (X.box (O.t 0))), (I.mk (some 2) none false (X.v (A.mov (O.k (V.bool false)))))] []) A33_8)
def an33 : List An := [{ id := 0, pre := [.clr [1]], ep := [] }, { id := 5, pre := [.clr [4]], ep := [] }]
theorem c33 : cC Try.prog Try.f33.ntmps an33 (Try.f33.body.getD .skip) = some A33 := by rfl
structure H33 (D : Den) (σ : Sig) (F : Nat) : Prop where
  c60 : ∀ x0 x1 x2 r, i_within F x0 x1 x2 = some r → D 60 [Enc.enc x0, Enc.enc x1, Enc.enc x2] = some (Enc.enc (r : Bool))
  g60 : σ 60 = some (0, false)
  c61 : ∀ x0 x1 r, slices_Compare F x0 x1 = some r → D 61 [Enc.enc x0, Enc.enc x1] = some (Enc.enc (r : Int))
  g61 : σ 61 = some (0, false)
abbrev R33 (r : Bool) : (Nat → V) → Prop := RR Try.prog [.tmp 2] 0 false (Enc.enc (r : Bool))
section
variable {D : Den} {σ : Sig} {F : Nat} {r : Bool}
def i_IsGraph_j3 (F : Nat) (g_1 : (Int × (List (Int × Int)))) (t12_9 : Int) (c1 : Int → Option Bool) (t48_19 : Bool) : Option Bool :=
  bif t48_19 then
    some false
  else
    c1 (w64 (t12_9 + 1))
theorem t_f33_j3 (H : H33 D σ F) (g_1 : (Int × (List (Int × Int)))) (t12_9 : Int) (c1 : Int → Option Bool) (Hc1 : ∀ (t12_9 : Int) (s : Nat → V), Facts [(1, (.ref (.bx 1) 0 [] (.agg [(.int .i64 g_1.1), (Enc.enc (g_1.2 : List (Int × Int)))]))), (2, (.bool false)), (10, (Enc.enc (g_1.2 : List (Int × Int)))), (11, (.int .i64 (g_1.2.length : Int))), (12, (.int .i64 t12_9))] s → c1 t12_9 = some r → Run D σ (R33 r) (.run A33_1 [.lp A33_1, .bk 0, .sq A33_7]) s) (t48_19 : Bool) (s : Nat → V) (hs : Facts [(1, (.ref (.bx 1) 0 [] (.agg [(.int .i64 g_1.1), (Enc.enc (g_1.2 : List (Int × Int)))]))), (2, (.bool false)), (10, (Enc.enc (g_1.2 : List (Int × Int)))), (11, (.int .i64 (g_1.2.length : Int))), (12, (.int .i64 t12_9)), (48, (.bool t48_19))] s) (h : i_IsGraph_j3 F g_1 t12_9 c1 t48_19 = some r) : Run D σ (R33 r) (.nrm [.sq A33_5, .bk 1, .sq A33_6, .lp A33_1, .bk 0, .sq A33_7]) s := by
  unfold i_IsGraph_j3 at h
  obtain ⟨h1, h2, h10, h11, h12, h48⟩ := hs
  refine .nsq ?_
  refine run_cond (t := t48_19) h48 h (fun h => ?_) (fun h => ?_)
  · refine .seq ?_
    refine run_reg ?_
    refine e_end ?_
    refine g_v0 (.bool false) rfl rfl ?_
    refine g_end ?_
    refine e_end ?_
    refine renew [(1, (.ref (.bx 1) 0 [] (.agg [(.int .i64 g_1.1), (Enc.enc (g_1.2 : List (Int × Int)))]))), (2, (.bool false)), (10, (Enc.enc (g_1.2 : List (Int × Int)))), (11, (.int .i64 (g_1.2.length : Int))), (12, (.int .i64 t12_9))] ⟨h1, rfl, h10, h11, h12⟩ ?_
    rintro s ⟨h1, h2, h10, h11, h12⟩
    refine .nsq ?_
    refine .ret ?_
    have hr := Option.some.inj h
    subst hr
    exact rrA (res_tmp h2) rfl
  · refine .skip ?_
    refine .nbk ?_
    refine .nsq ?_
    refine run_reg ?_
    refine e_end ?_
    refine g_v1 (t := 12) (u := (.int .i64 t12_9)) (.int .i64 (w64 (t12_9 + 1))) h12 rfl rfl ?_
    refine g_v1 (t := 49) (u := (.int .i64 (w64 (t12_9 + 1)))) (.int .i64 (w64 (t12_9 + 1))) rfl rfl rfl ?_
    refine g_end ?_
    refine e_end ?_
    refine renew [(1, (.ref (.bx 1) 0 [] (.agg [(.int .i64 g_1.1), (Enc.enc (g_1.2 : List (Int × Int)))]))), (2, (.bool false)), (10, (Enc.enc (g_1.2 : List (Int × Int)))), (11, (.int .i64 (g_1.2.length : Int))), (12, (.int .i64 (w64 (t12_9 + 1))))] ⟨h1, h2, h10, h11, rfl⟩ ?_
    rintro s ⟨h1, h2, h10, h11, h12⟩
    refine .nlp ?_
    exact Hc1 (w64 (t12_9 + 1)) _ ⟨h1, h2, h10, h11, h12⟩ h
def i_IsGraph_l1 (F : Nat) (g_1 : (Int × (List (Int × Int))))  : Nat → Int → Option Bool
  | 0, _ => none
  | k + 1, t12_9 =>
    bif decide (t12_9 < (g_1.2.length : Int)) then
      (idx g_1.2 t12_9).bind fun e_16 =>
      bif decide (e_16.1 < 0) then
        i_IsGraph_j3 F g_1 t12_9 (i_IsGraph_l1 F g_1 k) true
      else
        bif decide (e_16.1 ≥ e_16.2) then
          i_IsGraph_j3 F g_1 t12_9 (i_IsGraph_l1 F g_1 k) true
        else
          bif decide (e_16.2 ≥ g_1.1) then
            i_IsGraph_j3 F g_1 t12_9 (i_IsGraph_l1 F g_1 k) true
          else
            bif decide (t12_9 > 0) then
              (idx g_1.2 (w64 (t12_9 - 1))).bind fun e_20 =>
              (slices_Compare F [e_20.1, e_20.2] [e_16.1, e_16.2]).bind fun r_21 =>
              i_IsGraph_j3 F g_1 t12_9 (i_IsGraph_l1 F g_1 k) (decide (r_21 ≥ 0))
            else
              i_IsGraph_j3 F g_1 t12_9 (i_IsGraph_l1 F g_1 k) false
    else
      some true
theorem t_f33_l1 (H : H33 D σ F) (g_1 : (Int × (List (Int × Int))))  : ∀ (k : Nat) (t12_9 : Int) (s : Nat → V), Facts [(1, (.ref (.bx 1) 0 [] (.agg [(.int .i64 g_1.1), (Enc.enc (g_1.2 : List (Int × Int)))]))), (2, (.bool false)), (10, (Enc.enc (g_1.2 : List (Int × Int)))), (11, (.int .i64 (g_1.2.length : Int))), (12, (.int .i64 t12_9))] s → i_IsGraph_l1 F g_1 k t12_9 = some r → Run D σ (R33 r) (.run A33_1 [.lp A33_1, .bk 0, .sq A33_7]) s := by
  intro k
  induction k with
  | zero => intro t12_9 s _ h; exact nomatch (h : (none : Option _) = some r)
  | succ k ih =>
    intro t12_9 s hs h
    rw [i_IsGraph_l1] at h
    obtain ⟨h1, h2, h10, h11, h12⟩ := hs
    refine .seq ?_
    refine run_reg ?_
    refine e_end ?_
    refine g_v2 (t1 := 12) (t2 := 11) (u1 := (.int .i64 t12_9)) (u2 := (.int .i64 (g_1.2.length : Int))) (.bool (decide (t12_9 < (g_1.2.length : Int)))) h12 h11 rfl rfl ?_
    refine g_end ?_
    refine e_end ?_
    refine renew [(1, (.ref (.bx 1) 0 [] (.agg [(.int .i64 g_1.1), (Enc.enc (g_1.2 : List (Int × Int)))]))), (2, (.bool false)), (10, (Enc.enc (g_1.2 : List (Int × Int)))), (11, (.int .i64 (g_1.2.length : Int))), (12, (.int .i64 t12_9)), (13, (.bool (decide (t12_9 < (g_1.2.length : Int)))))] ⟨h1, h2, h10, h11, h12, rfl⟩ ?_
    rintro s ⟨h1, h2, h10, h11, h12, h13⟩
    refine .nsq ?_
    refine .seq ?_
    refine run_cond (t := decide (t12_9 < (g_1.2.length : Int))) h13 h (fun h => ?_) (fun h => ?_)
    · refine .skip ?_
      refine .nsq ?_
      refine .seq ?_
      refine .block ?_
      refine .seq ?_
      refine run_reg ?_
      refine e_clr ?_
      refine e_end ?_
      refine g_v1 (t := 12) (u := (.int .i64 t12_9)) (.int .i64 t12_9) (keep_clear (s := s) (pk := [4]) h12 rfl rfl) rfl rfl ?_
      obtain ⟨e_16, E_e_16, h⟩ := bind_some h
      refine g_v (.ref .sh 0 [] (.agg [(.int .i64 e_16.1), (.int .i64 e_16.2)])) (ev_idx (t := .sh) (lo := 0) (xs := g_1.2) (keep_clear (s := s) (pk := [4]) h10 rfl (Enc.map_enc _ (g_1.2 : List (Int × Int)))) (keep_clear (s := s) (pk := [4]) h12 rfl rfl) E_e_16 rfl rfl) ?_
      refine g_v1 (t := 15) (u := (.ref .sh 0 [] (.agg [(.int .i64 e_16.1), (.int .i64 e_16.2)]))) (.agg [(.int .i64 e_16.1), (.int .i64 e_16.2)]) rfl rfl rfl ?_
      refine g_alloc (gone_clear (s := s) (pk := [4]) (t := 4) rfl) ?_
      refine g_v1 (t := 14) (u := (.int .i64 t12_9)) (.int .i64 t12_9) rfl rfl rfl ?_
      refine g_store (.agg [(.int .i64 e_16.1), (.int .i64 e_16.2)]) (rd_of rfl rfl) (rd_of rfl rfl) (by refine ⟨by decide, by decide, rfl, rfl, rfl, ?_⟩; first | rfl | simp [V.toks, V.tokss, Enc.toks_enc]) ?_
      refine g_end ?_
      refine e_end ?_
      refine renew [(1, (.ref (.bx 1) 0 [] (.agg [(.int .i64 g_1.1), (Enc.enc (g_1.2 : List (Int × Int)))]))), (2, (.bool false)), (3, (.int .i64 t12_9)), (4, (.ref (.bx 4) 0 [] (.agg [(.int .i64 e_16.1), (.int .i64 e_16.2)]))), (10, (Enc.enc (g_1.2 : List (Int × Int)))), (11, (.int .i64 (g_1.2.length : Int))), (12, (.int .i64 t12_9))] ⟨(keep_mut (keep_clear (s := s) (pk := [4]) h1 rfl (map_bx rfl (map_agg (maps_cons rfl (maps_cons (Enc.map_enc _ (g_1.2 : List (Int × Int))) maps_nil))))) (mut_ref_ne rfl rfl (mut_agg (muts_cons rfl (muts_cons (Enc.mut_enc _ _ _ _ (g_1.2 : List (Int × Int))) rfl))))), (keep_mut (keep_clear (s := s) (pk := [4]) h2 rfl rfl) rfl), (keep_mut rfl rfl), (keep_mut rfl rfl), (keep_mut (keep_clear (s := s) (pk := [4]) h10 rfl (Enc.map_enc _ (g_1.2 : List (Int × Int)))) (Enc.mut_enc _ _ _ _ (g_1.2 : List (Int × Int)))), (keep_mut (keep_clear (s := s) (pk := [4]) h11 rfl rfl) rfl), (keep_mut (keep_clear (s := s) (pk := [4]) h12 rfl rfl) rfl)⟩ ?_
      rintro s ⟨h1, h2, h3, h4, h10, h11, h12⟩
      refine .nsq ?_
      refine .seq ?_
      refine run_reg ?_
      refine e_end ?_
      refine g_v1 (t := 4) (u := (.ref (.bx 4) 0 [] (.agg [(.int .i64 e_16.1), (.int .i64 e_16.2)]))) (.ref (.bx 4) 0 [0] (.int .i64 e_16.1)) h4 rfl rfl ?_
      refine g_v1 (t := 17) (u := (.ref (.bx 4) 0 [0] (.int .i64 e_16.1))) (.int .i64 e_16.1) rfl rfl rfl ?_
      refine g_v1 (t := 18) (u := (.int .i64 e_16.1)) (.bool (decide (e_16.1 < 0))) rfl rfl rfl ?_
      refine g_v1 (t := 19) (u := (.bool (decide (e_16.1 < 0)))) (.bool (decide (e_16.1 < 0))) rfl rfl rfl ?_
      refine split_on (c := decide (e_16.1 < 0)) h (fun hg4 h => ?_) (fun hg4 h => ?_)
      · refine g_no (Eq.trans (b := .bool (decide (e_16.1 < 0))) rfl (congrArg V.bool hg4)) ?_
        refine g_no (Eq.trans (b := .bool (decide (e_16.1 < 0))) rfl (congrArg V.bool hg4)) ?_
        refine g_no (Eq.trans (b := .bool (decide (e_16.1 < 0))) rfl (congrArg V.bool hg4)) ?_
        refine g_no (Eq.trans (b := .bool (decide (e_16.1 < 0))) rfl (congrArg V.bool hg4)) ?_
        refine g_no (Eq.trans (b := .bool (decide (e_16.1 < 0))) rfl (congrArg V.bool hg4)) ?_
        refine g_v2 (t1 := 20) (t2 := 25) (u1 := (.bool true)) (u2 := (.tup [])) (.bool true) (Eq.trans (b := .bool (decide (e_16.1 < 0))) rfl (congrArg V.bool hg4)) rfl rfl rfl ?_
        refine g_v1 (t := 26) (u := (.bool true)) (.bool true) rfl rfl rfl ?_
        refine g_no rfl ?_
        refine g_no rfl ?_
        refine g_no rfl ?_
        refine g_no rfl ?_
        refine g_no rfl ?_
        refine g_v2 (t1 := 27) (t2 := 32) (u1 := (.bool true)) (u2 := (.tup [])) (.bool true) rfl rfl rfl rfl ?_
        refine g_v1 (t := 33) (u := (.bool true)) (.bool true) rfl rfl rfl ?_
        refine g_no rfl ?_
        refine g_no rfl ?_
        refine g_no rfl ?_
        refine g_skip rfl ?_
        refine g_skip rfl ?_
        refine g_skip rfl ?_
        refine g_skip rfl ?_
        refine g_skip rfl ?_
        refine g_skip rfl ?_
        refine g_skip rfl ?_
        refine g_skip rfl ?_
        refine g_skip rfl ?_
        refine g_no rfl ?_
        refine g_v2 (t1 := 34) (t2 := 47) (u1 := (.bool true)) (u2 := (.tup [])) (.bool true) rfl rfl rfl rfl ?_
        refine g_end ?_
        refine e_end ?_
        refine renew [(1, (.ref (.bx 1) 0 [] (.agg [(.int .i64 g_1.1), (Enc.enc (g_1.2 : List (Int × Int)))]))), (2, (.bool false)), (10, (Enc.enc (g_1.2 : List (Int × Int)))), (11, (.int .i64 (g_1.2.length : Int))), (12, (.int .i64 t12_9)), (48, (.bool true))] ⟨h1, h2, h10, h11, h12, rfl⟩ ?_
        rintro s ⟨h1, h2, h10, h11, h12, h48⟩
        exact t_f33_j3 H g_1 t12_9 (i_IsGraph_l1 F g_1 k) ih true _ ⟨h1, h2, h10, h11, h12, h48⟩ h
      · refine g_yes (Eq.trans (b := .bool (decide (e_16.1 < 0))) rfl (congrArg V.bool hg4)) (g_v1 (t := 4) (u := (.ref (.bx 4) 0 [] (.agg [(.int .i64 e_16.1), (.int .i64 e_16.2)]))) (.ref (.bx 4) 0 [0] (.int .i64 e_16.1)) h4 rfl rfl ?_)
        refine g_yes (Eq.trans (b := .bool (decide (e_16.1 < 0))) rfl (congrArg V.bool hg4)) (g_v1 (t := 21) (u := (.ref (.bx 4) 0 [0] (.int .i64 e_16.1))) (.int .i64 e_16.1) rfl rfl rfl ?_)
        refine g_yes (Eq.trans (b := .bool (decide (e_16.1 < 0))) rfl (congrArg V.bool hg4)) (g_v1 (t := 4) (u := (.ref (.bx 4) 0 [] (.agg [(.int .i64 e_16.1), (.int .i64 e_16.2)]))) (.ref (.bx 4) 0 [1] (.int .i64 e_16.2)) h4 rfl rfl ?_)
        refine g_yes (Eq.trans (b := .bool (decide (e_16.1 < 0))) rfl (congrArg V.bool hg4)) (g_v1 (t := 23) (u := (.ref (.bx 4) 0 [1] (.int .i64 e_16.2))) (.int .i64 e_16.2) rfl rfl rfl ?_)
        refine g_yes (Eq.trans (b := .bool (decide (e_16.1 < 0))) rfl (congrArg V.bool hg4)) (g_v2 (t1 := 22) (t2 := 24) (u1 := (.int .i64 e_16.1)) (u2 := (.int .i64 e_16.2)) (.bool (decide (e_16.1 ≥ e_16.2))) rfl rfl rfl rfl ?_)
        refine g_v2 (t1 := 20) (t2 := 25) (u1 := (.bool false)) (u2 := (.bool (decide (e_16.1 ≥ e_16.2)))) (.bool (decide (e_16.1 ≥ e_16.2))) (Eq.trans (b := .bool (decide (e_16.1 < 0))) rfl (congrArg V.bool hg4)) rfl rfl rfl ?_
        refine g_v1 (t := 26) (u := (.bool (decide (e_16.1 ≥ e_16.2)))) (.bool (decide (e_16.1 ≥ e_16.2))) rfl rfl rfl ?_
        refine split_on (c := decide (e_16.1 ≥ e_16.2)) h (fun hg11 h => ?_) (fun hg11 h => ?_)
        · refine g_no (Eq.trans (b := .bool (decide (e_16.1 ≥ e_16.2))) rfl (congrArg V.bool hg11)) ?_
          refine g_no (Eq.trans (b := .bool (decide (e_16.1 ≥ e_16.2))) rfl (congrArg V.bool hg11)) ?_
          refine g_no (Eq.trans (b := .bool (decide (e_16.1 ≥ e_16.2))) rfl (congrArg V.bool hg11)) ?_
          refine g_no (Eq.trans (b := .bool (decide (e_16.1 ≥ e_16.2))) rfl (congrArg V.bool hg11)) ?_
          refine g_no (Eq.trans (b := .bool (decide (e_16.1 ≥ e_16.2))) rfl (congrArg V.bool hg11)) ?_
          refine g_v2 (t1 := 27) (t2 := 32) (u1 := (.bool true)) (u2 := (.tup [])) (.bool true) (Eq.trans (b := .bool (decide (e_16.1 ≥ e_16.2))) rfl (congrArg V.bool hg11)) rfl rfl rfl ?_
          refine g_v1 (t := 33) (u := (.bool true)) (.bool true) rfl rfl rfl ?_
          refine g_no rfl ?_
          refine g_no rfl ?_
          refine g_no rfl ?_
          refine g_skip rfl ?_
          refine g_skip rfl ?_
          refine g_skip rfl ?_
          refine g_skip rfl ?_
          refine g_skip rfl ?_
          refine g_skip rfl ?_
          refine g_skip rfl ?_
          refine g_skip rfl ?_
          refine g_skip rfl ?_
          refine g_no rfl ?_
          refine g_v2 (t1 := 34) (t2 := 47) (u1 := (.bool true)) (u2 := (.tup [])) (.bool true) rfl rfl rfl rfl ?_
          refine g_end ?_
          refine e_end ?_
          refine renew [(1, (.ref (.bx 1) 0 [] (.agg [(.int .i64 g_1.1), (Enc.enc (g_1.2 : List (Int × Int)))]))), (2, (.bool false)), (10, (Enc.enc (g_1.2 : List (Int × Int)))), (11, (.int .i64 (g_1.2.length : Int))), (12, (.int .i64 t12_9)), (48, (.bool true))] ⟨h1, h2, h10, h11, h12, rfl⟩ ?_
          rintro s ⟨h1, h2, h10, h11, h12, h48⟩
          exact t_f33_j3 H g_1 t12_9 (i_IsGraph_l1 F g_1 k) ih true _ ⟨h1, h2, h10, h11, h12, h48⟩ h
        · refine g_yes (Eq.trans (b := .bool (decide (e_16.1 ≥ e_16.2))) rfl (congrArg V.bool hg11)) (g_v1 (t := 4) (u := (.ref (.bx 4) 0 [] (.agg [(.int .i64 e_16.1), (.int .i64 e_16.2)]))) (.ref (.bx 4) 0 [1] (.int .i64 e_16.2)) h4 rfl rfl ?_)
          refine g_yes (Eq.trans (b := .bool (decide (e_16.1 ≥ e_16.2))) rfl (congrArg V.bool hg11)) (g_v1 (t := 28) (u := (.ref (.bx 4) 0 [1] (.int .i64 e_16.2))) (.int .i64 e_16.2) rfl rfl rfl ?_)
          refine g_yes (Eq.trans (b := .bool (decide (e_16.1 ≥ e_16.2))) rfl (congrArg V.bool hg11)) (g_v1 (t := 1) (u := (.ref (.bx 1) 0 [] (.agg [(.int .i64 g_1.1), (Enc.enc (g_1.2 : List (Int × Int)))]))) (.ref (.bx 1) 0 [0] (.int .i64 g_1.1)) h1 rfl rfl ?_)
          refine g_yes (Eq.trans (b := .bool (decide (e_16.1 ≥ e_16.2))) rfl (congrArg V.bool hg11)) (g_v1 (t := 30) (u := (.ref (.bx 1) 0 [0] (.int .i64 g_1.1))) (.int .i64 g_1.1) rfl rfl rfl ?_)
          refine g_yes (Eq.trans (b := .bool (decide (e_16.1 ≥ e_16.2))) rfl (congrArg V.bool hg11)) (g_v2 (t1 := 29) (t2 := 31) (u1 := (.int .i64 e_16.2)) (u2 := (.int .i64 g_1.1)) (.bool (decide (e_16.2 ≥ g_1.1))) rfl rfl rfl rfl ?_)
          refine g_v2 (t1 := 27) (t2 := 32) (u1 := (.bool false)) (u2 := (.bool (decide (e_16.2 ≥ g_1.1)))) (.bool (decide (e_16.2 ≥ g_1.1))) (Eq.trans (b := .bool (decide (e_16.1 ≥ e_16.2))) rfl (congrArg V.bool hg11)) rfl rfl rfl ?_
          refine g_v1 (t := 33) (u := (.bool (decide (e_16.2 ≥ g_1.1)))) (.bool (decide (e_16.2 ≥ g_1.1))) rfl rfl rfl ?_
          refine split_on (c := decide (e_16.2 ≥ g_1.1)) h (fun hg18 h => ?_) (fun hg18 h => ?_)
          · refine g_no (Eq.trans (b := .bool (decide (e_16.2 ≥ g_1.1))) rfl (congrArg V.bool hg18)) ?_
            refine g_no (Eq.trans (b := .bool (decide (e_16.2 ≥ g_1.1))) rfl (congrArg V.bool hg18)) ?_
            refine g_no (Eq.trans (b := .bool (decide (e_16.2 ≥ g_1.1))) rfl (congrArg V.bool hg18)) ?_
            refine g_skip rfl ?_
            refine g_skip rfl ?_
            refine g_skip rfl ?_
            refine g_skip rfl ?_
            refine g_skip rfl ?_
            refine g_skip rfl ?_
            refine g_skip rfl ?_
            refine g_skip rfl ?_
            refine g_skip rfl ?_
            refine g_no (Eq.trans (b := .bool (decide (e_16.2 ≥ g_1.1))) rfl (congrArg V.bool hg18)) ?_
            refine g_v2 (t1 := 34) (t2 := 47) (u1 := (.bool true)) (u2 := (.tup [])) (.bool true) (Eq.trans (b := .bool (decide (e_16.2 ≥ g_1.1))) rfl (congrArg V.bool hg18)) rfl rfl rfl ?_
            refine g_end ?_
            refine e_end ?_
            refine renew [(1, (.ref (.bx 1) 0 [] (.agg [(.int .i64 g_1.1), (Enc.enc (g_1.2 : List (Int × Int)))]))), (2, (.bool false)), (10, (Enc.enc (g_1.2 : List (Int × Int)))), (11, (.int .i64 (g_1.2.length : Int))), (12, (.int .i64 t12_9)), (48, (.bool true))] ⟨h1, h2, h10, h11, h12, rfl⟩ ?_
            rintro s ⟨h1, h2, h10, h11, h12, h48⟩
            exact t_f33_j3 H g_1 t12_9 (i_IsGraph_l1 F g_1 k) ih true _ ⟨h1, h2, h10, h11, h12, h48⟩ h
          · refine g_yes (Eq.trans (b := .bool (decide (e_16.2 ≥ g_1.1))) rfl (congrArg V.bool hg18)) (g_v1 (t := 3) (u := (.int .i64 t12_9)) (.int .i64 t12_9) h3 rfl rfl ?_)
            refine g_yes (Eq.trans (b := .bool (decide (e_16.2 ≥ g_1.1))) rfl (congrArg V.bool hg18)) (g_v1 (t := 35) (u := (.int .i64 t12_9)) (.bool (decide (t12_9 > 0))) rfl rfl rfl ?_)
            refine g_yes (Eq.trans (b := .bool (decide (e_16.2 ≥ g_1.1))) rfl (congrArg V.bool hg18)) (g_v1 (t := 36) (u := (.bool (decide (t12_9 > 0)))) (.bool (decide (t12_9 > 0))) rfl rfl rfl ?_)
            refine split_on (c := decide (t12_9 > 0)) h (fun hg21 h => ?_) (fun hg21 h => ?_)
            · refine g_yes (Eq.trans (b := .bool (decide (t12_9 > 0))) rfl (congrArg V.bool hg21)) (g_v1 (t := 1) (u := (.ref (.bx 1) 0 [] (.agg [(.int .i64 g_1.1), (Enc.enc (g_1.2 : List (Int × Int)))]))) (.ref (.bx 1) 0 [1] (Enc.enc (g_1.2 : List (Int × Int)))) h1 rfl rfl ?_)
              refine g_yes (Eq.trans (b := .bool (decide (t12_9 > 0))) rfl (congrArg V.bool hg21)) (g_v1 (t := 38) (u := (.ref (.bx 1) 0 [1] (Enc.enc (g_1.2 : List (Int × Int))))) (Enc.enc (g_1.2 : List (Int × Int))) rfl rfl rfl ?_)
              refine g_yes (Eq.trans (b := .bool (decide (t12_9 > 0))) rfl (congrArg V.bool hg21)) (g_v1 (t := 3) (u := (.int .i64 t12_9)) (.int .i64 t12_9) h3 rfl rfl ?_)
              refine g_yes (Eq.trans (b := .bool (decide (t12_9 > 0))) rfl (congrArg V.bool hg21)) (g_v1 (t := 40) (u := (.int .i64 t12_9)) (.int .i64 (w64 (t12_9 - 1))) rfl rfl rfl ?_)
              obtain ⟨e_20, E_e_20, h⟩ := bind_some h
              refine g_yes (Eq.trans (b := .bool (decide (t12_9 > 0))) rfl (congrArg V.bool hg21)) (g_v (.ref .sh 0 [] (.agg [(.int .i64 e_20.1), (.int .i64 e_20.2)])) (ev_idx (t := .sh) (lo := 0) (xs := g_1.2) rfl rfl E_e_20 rfl rfl) ?_)
              refine g_yes (Eq.trans (b := .bool (decide (t12_9 > 0))) rfl (congrArg V.bool hg21)) (g_v1 (t := 42) (u := (.ref .sh 0 [] (.agg [(.int .i64 e_20.1), (.int .i64 e_20.2)]))) (Enc.enc ([e_20.1, e_20.2] : List Int)) rfl rfl rfl ?_)
              refine g_yes (Eq.trans (b := .bool (decide (t12_9 > 0))) rfl (congrArg V.bool hg21)) (g_v1 (t := 4) (u := (.ref (.bx 4) 0 [] (.agg [(.int .i64 e_16.1), (.int .i64 e_16.2)]))) (encO (.bx 4) (.of ([e_16.1, e_16.2] : List Int))) h4 rfl rfl ?_)
              obtain ⟨r_21, E_r_21, h⟩ := bind_some h
              refine g_yes (Eq.trans (b := .bool (decide (t12_9 > 0))) rfl (congrArg V.bool hg21)) (g_call (m := 0) (al := false) (r := (Enc.enc (r_21 : Int))) [Enc.enc ([e_20.1, e_20.2] : (List Int)), Enc.enc ([e_16.1, e_16.2] : (List Int))] (ta_cons (v := (Enc.enc ([e_20.1, e_20.2] : List Int))) rfl rfl (Enc.erase_enc ([e_20.1, e_20.2] : (List Int))) (ta_cons (v := (encO (.bx 4) (.of ([e_16.1, e_16.2] : List Int)))) rfl rfl (erase_encO (o := .of [e_16.1, e_16.2])) ta_nil)) (H.c61 _ _ _ E_r_21) H.g61 rfl rfl rfl rfl ?_)
              refine g_yes (Eq.trans (b := .bool (decide (t12_9 > 0))) rfl (congrArg V.bool hg21)) (g_v1 (t := 45) (u := (.int .i64 r_21)) (.bool (decide (r_21 ≥ 0))) rfl rfl rfl ?_)
              refine g_yes (Eq.trans (b := .bool (decide (e_16.2 ≥ g_1.1))) rfl (congrArg V.bool hg18)) (g_v2 (t1 := 37) (t2 := 46) (u1 := (.bool true)) (u2 := (.bool (decide (r_21 ≥ 0)))) (.bool (decide (r_21 ≥ 0))) (Eq.trans (b := .bool (decide (t12_9 > 0))) rfl (congrArg V.bool hg21)) rfl rfl rfl ?_)
              refine g_v2 (t1 := 34) (t2 := 47) (u1 := (.bool false)) (u2 := (.bool (decide (r_21 ≥ 0)))) (.bool (decide (r_21 ≥ 0))) (Eq.trans (b := .bool (decide (e_16.2 ≥ g_1.1))) rfl (congrArg V.bool hg18)) rfl rfl rfl ?_
              refine g_end ?_
              refine e_end ?_
              refine renew [(1, (.ref (.bx 1) 0 [] (.agg [(.int .i64 g_1.1), (Enc.enc (g_1.2 : List (Int × Int)))]))), (2, (.bool false)), (10, (Enc.enc (g_1.2 : List (Int × Int)))), (11, (.int .i64 (g_1.2.length : Int))), (12, (.int .i64 t12_9)), (48, (.bool (decide (r_21 ≥ 0))))] ⟨h1, h2, h10, h11, h12, rfl⟩ ?_
              rintro s ⟨h1, h2, h10, h11, h12, h48⟩
              exact t_f33_j3 H g_1 t12_9 (i_IsGraph_l1 F g_1 k) ih (decide (r_21 ≥ 0)) _ ⟨h1, h2, h10, h11, h12, h48⟩ h
            · refine g_no (Eq.trans (b := .bool (decide (t12_9 > 0))) rfl (congrArg V.bool hg21)) ?_
              refine g_no (Eq.trans (b := .bool (decide (t12_9 > 0))) rfl (congrArg V.bool hg21)) ?_
              refine g_no (Eq.trans (b := .bool (decide (t12_9 > 0))) rfl (congrArg V.bool hg21)) ?_
              refine g_no (Eq.trans (b := .bool (decide (t12_9 > 0))) rfl (congrArg V.bool hg21)) ?_
              refine g_no (Eq.trans (b := .bool (decide (t12_9 > 0))) rfl (congrArg V.bool hg21)) ?_
              refine g_no (Eq.trans (b := .bool (decide (t12_9 > 0))) rfl (congrArg V.bool hg21)) ?_
              refine g_no (Eq.trans (b := .bool (decide (t12_9 > 0))) rfl (congrArg V.bool hg21)) ?_
              refine g_no (Eq.trans (b := .bool (decide (t12_9 > 0))) rfl (congrArg V.bool hg21)) ?_
              refine g_no (Eq.trans (b := .bool (decide (t12_9 > 0))) rfl (congrArg V.bool hg21)) ?_
              refine g_yes (Eq.trans (b := .bool (decide (e_16.2 ≥ g_1.1))) rfl (congrArg V.bool hg18)) (g_v2 (t1 := 37) (t2 := 46) (u1 := (.bool false)) (u2 := (.tup [])) (.bool false) (Eq.trans (b := .bool (decide (t12_9 > 0))) rfl (congrArg V.bool hg21)) rfl rfl rfl ?_)
              refine g_v2 (t1 := 34) (t2 := 47) (u1 := (.bool false)) (u2 := (.bool false)) (.bool false) (Eq.trans (b := .bool (decide (e_16.2 ≥ g_1.1))) rfl (congrArg V.bool hg18)) rfl rfl rfl ?_
              refine g_end ?_
              refine e_end ?_
              refine renew [(1, (.ref (.bx 1) 0 [] (.agg [(.int .i64 g_1.1), (Enc.enc (g_1.2 : List (Int × Int)))]))), (2, (.bool false)), (10, (Enc.enc (g_1.2 : List (Int × Int)))), (11, (.int .i64 (g_1.2.length : Int))), (12, (.int .i64 t12_9)), (48, (.bool false))] ⟨h1, h2, h10, h11, h12, rfl⟩ ?_
              rintro s ⟨h1, h2, h10, h11, h12, h48⟩
              exact t_f33_j3 H g_1 t12_9 (i_IsGraph_l1 F g_1 k) ih false _ ⟨h1, h2, h10, h11, h12, h48⟩ h
    · refine .exit ?_
      refine .esq ?_
      refine .elp ?_
      refine .ebk ?_
      refine .nsq ?_
      refine .seq ?_
      refine run_reg ?_
      refine e_end ?_
      refine g_v0 (.bool true) rfl rfl ?_
      refine g_end ?_
      refine e_end ?_
      refine renew [(2, (.bool true))] rfl ?_
      rintro s h2
      refine .nsq ?_
      refine .ret ?_
      have hr := Option.some.inj h
      subst hr
      exact rrA (res_tmp h2) rfl
def i_IsGraph (F : Nat) (g_1 : (Int × (List (Int × Int)))) : Option Bool :=
  (i_within F g_1.1 0 8).bind fun r_2 =>
  bif (!r_2) then
    some false
  else
    i_IsGraph_l1 F g_1 F 0
theorem t33 (H : H33 D σ F) (g_1 : (Int × (List (Int × Int)))) (s : Nat → V) (hs : Facts [(0, (.agg [(.int .i64 g_1.1), (Enc.enc (g_1.2 : List (Int × Int)))]))] s) (h : i_IsGraph F g_1 = some r) : Run D σ (R33 r) (.run A33 []) s := by
  unfold i_IsGraph at h
  have h0 := hs
  refine .seq ?_
  refine run_reg ?_
  refine e_clr ?_
  refine e_end ?_
  refine g_box (.agg [(.int .i64 g_1.1), (Enc.enc (g_1.2 : List (Int × Int)))]) (rd_of (keep_clear (s := s) (pk := [1]) h0 rfl (map_agg (maps_cons rfl (maps_cons (Enc.map_enc _ (g_1.2 : List (Int × Int))) maps_nil)))) rfl) (gone_clear (s := s) (pk := [1]) (t := 1) rfl) rfl ?_
  refine g_v0 (.bool false) rfl rfl ?_
  refine g_end ?_
  refine e_end ?_
  refine renew [(1, (.ref (.bx 1) 0 [] (.agg [(.int .i64 g_1.1), (Enc.enc (g_1.2 : List (Int × Int)))]))), (2, (.bool false))] ⟨rfl, rfl⟩ ?_
  rintro s ⟨h1, h2⟩
  refine .nsq ?_
  refine .seq ?_
  refine .seq ?_
  refine run_reg ?_
  refine e_end ?_
  refine g_v1 (t := 1) (u := (.ref (.bx 1) 0 [] (.agg [(.int .i64 g_1.1), (Enc.enc (g_1.2 : List (Int × Int)))]))) (.ref (.bx 1) 0 [0] (.int .i64 g_1.1)) h1 rfl rfl ?_
  refine g_v1 (t := 5) (u := (.ref (.bx 1) 0 [0] (.int .i64 g_1.1))) (.int .i64 g_1.1) rfl rfl rfl ?_
  obtain ⟨r_2, E_r_2, h⟩ := bind_some h
  refine g_call (m := 0) (al := false) (r := (Enc.enc (r_2 : Bool))) [Enc.enc (g_1.1 : Int), Enc.enc (0 : Int), Enc.enc (8 : Int)] (ta_cons (v := (.int .i64 g_1.1)) rfl rfl rfl (ta_cons (v := (.int .i64 0)) rfl rfl rfl (ta_cons (v := (.int .i64 8)) rfl rfl rfl ta_nil))) (H.c60 _ _ _ _ E_r_2) H.g60 rfl rfl rfl rfl ?_
  refine g_v1 (t := 7) (u := (.bool r_2)) (.bool (!r_2)) rfl rfl rfl ?_
  refine g_end ?_
  refine e_end ?_
  refine renew [(1, (.ref (.bx 1) 0 [] (.agg [(.int .i64 g_1.1), (Enc.enc (g_1.2 : List (Int × Int)))]))), (2, (.bool false)), (8, (.bool (!r_2)))] ⟨h1, h2, rfl⟩ ?_
  rintro s ⟨h1, h2, h8⟩
  refine .nsq ?_
  refine run_cond (t := (!r_2)) h8 h (fun h => ?_) (fun h => ?_)
  · refine .seq ?_
    refine run_reg ?_
    refine e_end ?_
    refine g_v0 (.bool false) rfl rfl ?_
    refine g_end ?_
    refine e_end ?_
    refine renew [(1, (.ref (.bx 1) 0 [] (.agg [(.int .i64 g_1.1), (Enc.enc (g_1.2 : List (Int × Int)))]))), (2, (.bool false))] ⟨h1, rfl⟩ ?_
    rintro s ⟨h1, h2⟩
    refine .nsq ?_
    refine .ret ?_
    have hr := Option.some.inj h
    subst hr
    exact rrA (res_tmp h2) rfl
  · refine .skip ?_
    refine .nsq ?_
    refine .seq ?_
    refine .seq ?_
    refine run_reg ?_
    refine e_end ?_
    refine g_v1 (t := 1) (u := (.ref (.bx 1) 0 [] (.agg [(.int .i64 g_1.1), (Enc.enc (g_1.2 : List (Int × Int)))]))) (.ref (.bx 1) 0 [1] (Enc.enc (g_1.2 : List (Int × Int)))) h1 rfl rfl ?_
    refine g_v1 (t := 9) (u := (.ref (.bx 1) 0 [1] (Enc.enc (g_1.2 : List (Int × Int))))) (Enc.enc (g_1.2 : List (Int × Int))) rfl rfl rfl ?_
    refine g_v (.int .i64 (g_1.2.length : Int)) (ev_len (xs := g_1.2) rfl) ?_
    refine g_v0 (.int .i64 0) rfl rfl ?_
    refine g_end ?_
    refine e_end ?_
    refine renew [(1, (.ref (.bx 1) 0 [] (.agg [(.int .i64 g_1.1), (Enc.enc (g_1.2 : List (Int × Int)))]))), (2, (.bool false)), (10, (Enc.enc (g_1.2 : List (Int × Int)))), (11, (.int .i64 (g_1.2.length : Int))), (12, (.int .i64 0))] ⟨h1, h2, rfl, rfl, rfl⟩ ?_
    rintro s ⟨h1, h2, h10, h11, h12⟩
    refine .nsq ?_
    refine .block ?_
    refine .loop ?_
    exact t_f33_l1 H g_1 F 0 _ ⟨h1, h2, h10, h11, h12⟩ h
end
def e33 (F : Nat) : Ent := ⟨33, dn1 (i_IsGraph F) (fun (r : Bool) => (Enc.enc (r : Bool))), 0, false⟩
theorem o33 {D : Den} {σ : Sig} {F : Nat} (hF : Fits2 Try.prog D σ) (H : H33 D σ F) : (e33 F).Ok Try.prog := by
  refine ⟨fun args r h => ?_, ⟨Try.f33, Try.func33, rfl, rfl⟩⟩
  obtain ⟨x0, y, rfl, hy, rfl⟩ := dn1_open h
  exact contract_run hF (by kernel_rfl) Try.func33 rfl c33 (show 1 ≤ Try.f33.ntmps by decide) (t33 H x0 _ rfl hy)
/- loop.example/g01109/impl.allWithin -/
def A62_5 : AC := (AC.cond (O.t 19) (AC.seq (AC.reg [] [(I.mk (some 6) none false (X.v (A.mov (O.k (V.bool false)))))] []) AC.ret) AC.skip)
def A62_4 : AC := (AC.seq (AC.reg [] [(I.mk (some 15) none false (X.v (A.mov (O.t 8)))), (I.mk (some 16) none false (X.v (A.mov (O.t 1)))), (I.mk (some 17) none false (X.v (A.mov (O.t 2)))), (I.mk (some 18) none false (X.call (O.k (V.fn 60 [] [])) [(O.t 15), (O.t 16), (O.t 17)])), (I.mk (some 19) none false (X.v (A.un UnOp.not (O.t 18))))] []) A62_5)
def A62_6 : AC := (AC.reg [] [(I.mk (some 20) none false (X.v (A.bin BinOp.add (O.t 11) (O.k (V.int IntKind.i64 (Int.ofNat 1)))))), (I.mk (some 11) none false (X.v (A.mov (O.t 20))))] [])
def A62_3 : AC := (AC.seq (AC.block 1 (AC.seq (AC.reg [] [(I.mk (some 13) none false (X.v (A.idx (O.t 9) (O.t 11) 1))), (I.mk (some 14) none false (X.v (A.load Sh.s (O.t 13)))), (I.mk (some 8) none false (X.v (A.mov (O.t 14))))] []) A62_4)) A62_6)
def A62_2 : AC := (AC.seq (AC.cond (O.t 12) AC.skip (AC.exit 0)) A62_3)
def A62_1 : AC := (AC.seq (AC.reg [] [(I.mk (some 12) none false (X.v (A.bin BinOp.lss (O.t 11) (O.t 10))))] []) A62_2)
def A62_7 : AC := (AC.seq (AC.reg [] [(I.mk (some 6) none false (X.v (A.mov (O.k (V.bool true)))))] []) AC.ret)
def A62_9 : AC := (AC.block 0 (AC.loop A62_1))
def A62_8 : AC := (AC.seq (AC.seq (AC.reg [] [(I.mk (some 9) none false (X.v (A.mov (O.t 0)))), (I.mk (some 10) none false (X.v (A.len (O.t 9)))), (I.mk (some 11) none false (X.v (A.mov (O.k (V.int IntKind.i64 (Int.ofNat 0))))))] []) A62_9) A62_7)
def A62 : AC := (AC.seq (AC.reg [] [(I.mk (some 6) none false (X.v (A.mov (O.k (V.bool false)))))] []) A62_8)
def an62 : List An := []
theorem c62 : cC Try.prog Try.f62.ntmps an62 (Try.f62.body.getD .skip) = some A62 := by rfl
structure H62 (D : Den) (σ : Sig) (F : Nat) : Prop where
  c60 : ∀ x0 x1 x2 r, i_within F x0 x1 x2 = some r → D 60 [Enc.enc x0, Enc.enc x1, Enc.enc x2] = some (Enc.enc (r : Bool))
  g60 : σ 60 = some (0, false)
abbrev R62 (r : Bool) : (Nat → V) → Prop := RR Try.prog [.tmp 6] 0 false (Enc.enc (r : Bool))
section
variable {D : Den} {σ : Sig} {F : Nat} {r : Bool}
def i_allWithin_l1 (F : Nat) (low_2 : Int) (high_3 : Int) (list_1 : (List Int))  : Nat → Int → Option Bool
  | 0, _ => none
  | k + 1, t11_6 =>
    bif decide (t11_6 < (list_1.length : Int)) then
      (idx list_1 t11_6).bind fun e_9 =>
      (i_within F e_9 low_2 high_3).bind fun r_10 =>
      bif (!r_10) then
        some false
      else
        (i_allWithin_l1 F low_2 high_3 list_1 k) (w64 (t11_6 + 1))
    else
      some true
theorem t_f62_l1 (H : H62 D σ F) (low_2 : Int) (high_3 : Int) (list_1 : (List Int))  : ∀ (k : Nat) (t11_6 : Int) (s : Nat → V), Facts [(1, (.int .i64 low_2)), (2, (.int .i64 high_3)), (6, (.bool false)), (9, (Enc.enc (list_1 : List Int))), (10, (.int .i64 (list_1.length : Int))), (11, (.int .i64 t11_6))] s → i_allWithin_l1 F low_2 high_3 list_1 k t11_6 = some r → Run D σ (R62 r) (.run A62_1 [.lp A62_1, .bk 0, .sq A62_7]) s := by
  intro k
  induction k with
  | zero => intro t11_6 s _ h; exact nomatch (h : (none : Option _) = some r)
  | succ k ih =>
    intro t11_6 s hs h
    rw [i_allWithin_l1] at h
    obtain ⟨h1, h2, h6, h9, h10, h11⟩ := hs
    refine .seq ?_
    refine run_reg ?_
    refine e_end ?_
    refine g_v2 (t1 := 11) (t2 := 10) (u1 := (.int .i64 t11_6)) (u2 := (.int .i64 (list_1.length : Int))) (.bool (decide (t11_6 < (list_1.length : Int)))) h11 h10 rfl rfl ?_
    refine g_end ?_
    refine e_end ?_
    refine renew [(1, (.int .i64 low_2)), (2, (.int .i64 high_3)), (6, (.bool false)), (9, (Enc.enc (list_1 : List Int))), (10, (.int .i64 (list_1.length : Int))), (11, (.int .i64 t11_6)), (12, (.bool (decide (t11_6 < (list_1.length : Int)))))] ⟨h1, h2, h6, h9, h10, h11, rfl⟩ ?_
    rintro s ⟨h1, h2, h6, h9, h10, h11, h12⟩
    refine .nsq ?_
    refine .seq ?_
    refine run_cond (t := decide (t11_6 < (list_1.length : Int))) h12 h (fun h => ?_) (fun h => ?_)
    · refine .skip ?_
      refine .nsq ?_
      refine .seq ?_
      refine .block ?_
      refine .seq ?_
      refine run_reg ?_
      refine e_end ?_
      obtain ⟨e_9, E_e_9, h⟩ := bind_some h
      refine g_v (.ref .sh 0 [] (.int .i64 e_9)) (ev_idx (t := .sh) (lo := 0) (xs := list_1) h9 h11 E_e_9 rfl rfl) ?_
      refine g_v1 (t := 13) (u := (.ref .sh 0 [] (.int .i64 e_9))) (.int .i64 e_9) rfl rfl rfl ?_
      refine g_v1 (t := 14) (u := (.int .i64 e_9)) (.int .i64 e_9) rfl rfl rfl ?_
      refine g_end ?_
      refine e_end ?_
      refine renew [(1, (.int .i64 low_2)), (2, (.int .i64 high_3)), (6, (.bool false)), (8, (.int .i64 e_9)), (9, (Enc.enc (list_1 : List Int))), (10, (.int .i64 (list_1.length : Int))), (11, (.int .i64 t11_6))] ⟨h1, h2, h6, rfl, h9, h10, h11⟩ ?_
      rintro s ⟨h1, h2, h6, h8, h9, h10, h11⟩
      refine .nsq ?_
      refine .seq ?_
      refine run_reg ?_
      refine e_end ?_
      refine g_v1 (t := 8) (u := (.int .i64 e_9)) (.int .i64 e_9) h8 rfl rfl ?_
      refine g_v1 (t := 1) (u := (.int .i64 low_2)) (.int .i64 low_2) h1 rfl rfl ?_
      refine g_v1 (t := 2) (u := (.int .i64 high_3)) (.int .i64 high_3) h2 rfl rfl ?_
      obtain ⟨r_10, E_r_10, h⟩ := bind_some h
      refine g_call (m := 0) (al := false) (r := (Enc.enc (r_10 : Bool))) [Enc.enc (e_9 : Int), Enc.enc (low_2 : Int), Enc.enc (high_3 : Int)] (ta_cons (v := (.int .i64 e_9)) rfl rfl rfl (ta_cons (v := (.int .i64 low_2)) rfl rfl rfl (ta_cons (v := (.int .i64 high_3)) rfl rfl rfl ta_nil))) (H.c60 _ _ _ _ E_r_10) H.g60 rfl rfl rfl rfl ?_
      refine g_v1 (t := 18) (u := (.bool r_10)) (.bool (!r_10)) rfl rfl rfl ?_
      refine g_end ?_
      refine e_end ?_
      refine renew [(1, (.int .i64 low_2)), (2, (.int .i64 high_3)), (6, (.bool false)), (9, (Enc.enc (list_1 : List Int))), (10, (.int .i64 (list_1.length : Int))), (11, (.int .i64 t11_6)), (19, (.bool (!r_10)))] ⟨h1, h2, h6, h9, h10, h11, rfl⟩ ?_
      rintro s ⟨h1, h2, h6, h9, h10, h11, h19⟩
      refine .nsq ?_
      refine run_cond (t := (!r_10)) h19 h (fun h => ?_) (fun h => ?_)
      · refine .seq ?_
        refine run_reg ?_
        refine e_end ?_
        refine g_v0 (.bool false) rfl rfl ?_
        refine g_end ?_
        refine e_end ?_
        refine renew [(1, (.int .i64 low_2)), (2, (.int .i64 high_3)), (6, (.bool false)), (9, (Enc.enc (list_1 : List Int))), (10, (.int .i64 (list_1.length : Int))), (11, (.int .i64 t11_6))] ⟨h1, h2, rfl, h9, h10, h11⟩ ?_
        rintro s ⟨h1, h2, h6, h9, h10, h11⟩
        refine .nsq ?_
        refine .ret ?_
        have hr := Option.some.inj h
        subst hr
        exact rrA (res_tmp h6) rfl
      · refine .skip ?_
        refine .nbk ?_
        refine .nsq ?_
        refine run_reg ?_
        refine e_end ?_
        refine g_v1 (t := 11) (u := (.int .i64 t11_6)) (.int .i64 (w64 (t11_6 + 1))) h11 rfl rfl ?_
        refine g_v1 (t := 20) (u := (.int .i64 (w64 (t11_6 + 1)))) (.int .i64 (w64 (t11_6 + 1))) rfl rfl rfl ?_
        refine g_end ?_
        refine e_end ?_
        refine renew [(1, (.int .i64 low_2)), (2, (.int .i64 high_3)), (6, (.bool false)), (9, (Enc.enc (list_1 : List Int))), (10, (.int .i64 (list_1.length : Int))), (11, (.int .i64 (w64 (t11_6 + 1))))] ⟨h1, h2, h6, h9, h10, rfl⟩ ?_
        rintro s ⟨h1, h2, h6, h9, h10, h11⟩
        refine .nlp ?_
        exact ih (w64 (t11_6 + 1)) _ ⟨h1, h2, h6, h9, h10, h11⟩ h
    · refine .exit ?_
      refine .esq ?_
      refine .elp ?_
      refine .ebk ?_
      refine .nsq ?_
      refine .seq ?_
      refine run_reg ?_
      refine e_end ?_
      refine g_v0 (.bool true) rfl rfl ?_
      refine g_end ?_
      refine e_end ?_
      refine renew [(6, (.bool true))] rfl ?_
      rintro s h6
      refine .nsq ?_
      refine .ret ?_
      have hr := Option.some.inj h
      subst hr
      exact rrA (res_tmp h6) rfl
def i_allWithin (F : Nat) (list_1 : (List Int)) (low_2 : Int) (high_3 : Int) : Option Bool :=
  i_allWithin_l1 F low_2 high_3 list_1 F 0
theorem t62 (H : H62 D σ F) (list_1 : (List Int)) (low_2 : Int) (high_3 : Int) (s : Nat → V) (hs : Facts [(0, (Enc.enc (list_1 : List Int))), (1, (.int .i64 low_2)), (2, (.int .i64 high_3))] s) (h : i_allWithin F list_1 low_2 high_3 = some r) : Run D σ (R62 r) (.run A62 []) s := by
  unfold i_allWithin at h
  obtain ⟨h0, h1, h2⟩ := hs
  refine .seq ?_
  refine run_reg ?_
  refine e_end ?_
  refine g_v0 (.bool false) rfl rfl ?_
  refine g_end ?_
  refine e_end ?_
  refine renew [(0, (Enc.enc (list_1 : List Int))), (1, (.int .i64 low_2)), (2, (.int .i64 high_3)), (6, (.bool false))] ⟨h0, h1, h2, rfl⟩ ?_
  rintro s ⟨h0, h1, h2, h6⟩
  refine .nsq ?_
  refine .seq ?_
  refine .seq ?_
  refine run_reg ?_
  refine e_end ?_
  refine g_v1 (t := 0) (u := (Enc.enc (list_1 : List Int))) (Enc.enc (list_1 : List Int)) h0 rfl rfl ?_
  refine g_v (.int .i64 (list_1.length : Int)) (ev_len (xs := list_1) rfl) ?_
  refine g_v0 (.int .i64 0) rfl rfl ?_
  refine g_end ?_
  refine e_end ?_
  refine renew [(1, (.int .i64 low_2)), (2, (.int .i64 high_3)), (6, (.bool false)), (9, (Enc.enc (list_1 : List Int))), (10, (.int .i64 (list_1.length : Int))), (11, (.int .i64 0))] ⟨h1, h2, h6, rfl, rfl, rfl⟩ ?_
  rintro s ⟨h1, h2, h6, h9, h10, h11⟩
  refine .nsq ?_
  refine .block ?_
  refine .loop ?_
  exact t_f62_l1 H low_2 high_3 list_1 F 0 _ ⟨h1, h2, h6, h9, h10, h11⟩ h
end
def e62 (F : Nat) : Ent := ⟨62, dn3 (i_allWithin F) (fun (r : Bool) => (Enc.enc (r : Bool))), 0, false⟩
theorem o62 {D : Den} {σ : Sig} {F : Nat} (hF : Fits2 Try.prog D σ) (H : H62 D σ F) : (e62 F).Ok Try.prog := by
  refine ⟨fun args r h => ?_, ⟨Try.f62, Try.func62, rfl, rfl⟩⟩
  obtain ⟨x0, x1, x2, y, rfl, hy, rfl⟩ := dn3_open h
  exact contract_run hF (by kernel_rfl) Try.func62 rfl c62 (show 3 ≤ Try.f62.ntmps by decide) (t62 H x0 x1 x2 _ ⟨rfl, rfl, rfl⟩ hy)
/- loop.example/g01109/impl.forestLists -/
def A37_7 : AC := (AC.cond (O.t 37) AC.skip (AC.exit 2))
def A37_9 : AC := (AC.cond (O.t 54) (AC.seq (AC.reg [] [(I.mk (some 4) none false (X.v (A.mov (O.k (V.sl Tok.nl Sh.s 0 []))))), (I.mk (some 5) none false (X.v (A.mov (O.k (V.bool false)))))] []) AC.ret) AC.skip)
def A37_10 : AC := (AC.reg [] [(I.mk (some 55) none false (X.v (A.mov (O.t 6)))), (I.mk (some 56) none false (X.v (A.mov (O.t 7)))), (I.mk (some 57) none false (X.v (A.idx (O.t 55) (O.t 56) 1))), (I.mk (some 58) none false (X.v (A.load Sh.s (O.t 57)))), (I.mk (some 59) none false (X.v (A.mov (O.t 8)))), (I.mk (some 60) none false (X.v (A.bin BinOp.shl (O.k (V.int IntKind.i64 (Int.ofNat 1))) (O.t 59)))), (I.mk (some 61) none false (X.v (A.bin BinOp.or (O.t 58) (O.t 60)))), (I.mk (some 62) none false (X.v (A.idx (O.t 55) (O.t 56) 1))), (I.mk none none false (X.store Sh.s (O.t 62) (O.t 61)))] [])
def A37_11 : AC := (AC.reg [] [(I.mk (some 38) none false (X.v (A.mov (O.t 1)))), (I.mk (some 39) none false (X.v (A.mov (O.t 8)))), (I.mk (some 40) none false (X.v (A.idx (O.t 38) (O.t 39) 1))), (I.mk (some 41) none false (X.v (A.load Sh.s (O.t 40)))), (I.mk (some 8) none false (X.v (A.mov (O.t 41))))] [])
def A37_8 : AC := (AC.seq (AC.block 3 (AC.seq (AC.seq (AC.reg [] [(I.mk (some 42) none false (X.v (A.mov (O.t 8)))), (I.mk (some 43) none false (X.v (A.mov (O.t 7)))), (I.mk (some 44) none false (X.v (A.bin BinOp.eql (O.t 42) (O.t 43)))), (I.mk (some 45) none false (X.v (A.mov (O.t 44)))), (I.mk (some 46) (some (45, false)) false (X.v (A.mov (O.t 6)))), (I.mk (some 47) (some (45, false)) false (X.v (A.mov (O.t 7)))), (I.mk (some 48) (some (45, false)) false (X.v (A.idx (O.t 46) (O.t 47) 1))), (I.mk (some 49) (some (45, false)) false (X.v (A.load Sh.s (O.t 48)))), (I.mk (some 50) (some (45, false)) false (X.v (A.mov (O.t 8)))), (I.mk (some 51) (some (45, false)) false (X.v (A.bin BinOp.shr (O.t 49) (O.t 50)))), (I.mk (some 52) (some (45, false)) false (X.v (A.bin BinOp.and (O.t 51) (O.k (V.int IntKind.i64 (Int.ofNat 1)))))), (I.mk (some 53) (some (45, false)) false (X.v (A.bin BinOp.eql (O.t 52) (O.k (V.int IntKind.i64 (Int.ofNat 1)))))), (I.mk (some 54) none false (X.v (A.pick (O.t 45) (O.k (V.bool true)) (O.t 53))))] []) A37_9) A37_10)) A37_11)
def A37_6 : AC := (AC.seq (AC.seq (AC.reg [] [(I.mk (some 36) none false (X.v (A.mov (O.t 8)))), (I.mk (some 37) none false (X.v (A.bin BinOp.geq (O.t 36) (O.k (V.int IntKind.i64 (Int.ofNat 0))))))] []) A37_7) A37_8)
def A37_5 : AC := (AC.block 2 (AC.loop A37_6))
def A37_4 : AC := (AC.seq (AC.reg [] [(I.mk (some 32) none false (X.v (A.mov (O.t 1)))), (I.mk (some 33) none false (X.v (A.mov (O.t 7)))), (I.mk (some 34) none false (X.v (A.idx (O.t 32) (O.t 33) 1))), (I.mk (some 35) none false (X.v (A.load Sh.s (O.t 34)))), (I.mk (some 8) none false (X.v (A.mov (O.t 35))))] []) A37_5)
def A37_12 : AC := (AC.reg [] [(I.mk (some 63) none false (X.v (A.bin BinOp.add (O.t 29) (O.k (V.int IntKind.i64 (Int.ofNat 1)))))), (I.mk (some 29) none false (X.v (A.mov (O.t 63))))] [])
def A37_3 : AC := (AC.seq (AC.block 1 (AC.seq (AC.reg [] [(I.mk (some 31) none false (X.v (A.mov (O.t 29)))), (I.mk (some 7) none false (X.v (A.mov (O.t 31))))] []) A37_4)) A37_12)
def A37_2 : AC := (AC.seq (AC.cond (O.t 30) AC.skip (AC.exit 0)) A37_3)
def A37_1 : AC := (AC.seq (AC.reg [] [(I.mk (some 30) none false (X.v (A.bin BinOp.lss (O.t 29) (O.t 28))))] []) A37_2)
def A37_19 : AC := (AC.cond (O.t 92) (AC.seq (AC.reg [] [(I.mk (some 4) none false (X.v (A.mov (O.k (V.sl Tok.nl Sh.s 0 []))))), (I.mk (some 5) none false (X.v (A.mov (O.k (V.bool false)))))] []) AC.ret) AC.skip)
def A37_18 : AC := (AC.seq (AC.reg [] [(I.mk (some 71) none false (X.v (A.mov (O.t 6)))), (I.mk (some 72) none false (X.v (A.idxA (O.t 10) (O.k (V.int IntKind.i64 (Int.ofNat 0))) 2 1))), (I.mk (some 73) none false (X.v (A.load Sh.s (O.t 72)))), (I.mk (some 74) none false (X.v (A.idx (O.t 71) (O.t 73) 1))), (I.mk (some 75) none false (X.v (A.load Sh.s (O.t 74)))), (I.mk (some 76) none false (X.v (A.idxA (O.t 10) (O.k (V.int IntKind.i64 (Int.ofNat 1))) 2 1))), (I.mk (some 77) none false (X.v (A.load Sh.s (O.t 76)))), (I.mk (some 78) none false (X.v (A.bin BinOp.shr (O.t 75) (O.t 77)))), (I.mk (some 79) none false (X.v (A.bin BinOp.and (O.t 78) (O.k (V.int IntKind.i64 (Int.ofNat 1)))))), (I.mk (some 80) none false (X.v (A.bin BinOp.eql (O.t 79) (O.k (V.int IntKind.i64 (Int.ofNat 0)))))), (I.mk (some 81) none false (X.v (A.mov (O.t 80)))), (I.mk (some 82) (some (81, true)) false (X.v (A.mov (O.t 6)))), (I.mk (some 83) (some (81, true)) false (X.v (A.idxA (O.t 10) (O.k (V.int IntKind.i64 (Int.ofNat 1))) 2 1))), (I.mk (some 84) (some (81, true)) false (X.v (A.load Sh.s (O.t 83)))), (I.mk (some 85) (some (81, true)) false (X.v (A.idx (O.t 82) (O.t 84) 1))), (I.mk (some 86) (some (81, true)) false (X.v (A.load Sh.s (O.t 85)))), (I.mk (some 87) (some (81, true)) false (X.v (A.idxA (O.t 10) (O.k (V.int IntKind.i64 (Int.ofNat 0))) 2 1))), (I.mk (some 88) (some (81, true)) false (X.v (A.load Sh.s (O.t 87)))), (I.mk (some 89) (some (81, true)) false (X.v (A.bin BinOp.shr (O.t 86) (O.t 88)))), (I.mk (some 90) (some (81, true)) false (X.v (A.bin BinOp.and (O.t 89) (O.k (V.int IntKind.i64 (Int.ofNat 1)))))), (I.mk (some 91) (some (81, true)) false (X.v (A.bin BinOp.eql (O.t 90) (O.k (V.int IntKind.i64 (Int.ofNat 0)))))), (I.mk (some 92) none false (X.v (A.pick (O.t 81) (O.t 91) (O.k (V.bool false)))))] []) A37_19)
def A37_20 : AC := (AC.reg [] [(I.mk (some 93) none false (X.v (A.bin BinOp.add (O.t 67) (O.k (V.int IntKind.i64 (Int.ofNat 1)))))), (I.mk (some 67) none false (X.v (A.mov (O.t 93))))] [])
def A37_17 : AC := (AC.seq (AC.block 5 (AC.seq (AC.reg [.clr [10]] [(I.mk (some 69) none false (X.v (A.idx (O.t 65) (O.t 67) 2))), (I.mk (some 70) none false (X.v (A.load (Sh.ag [Sh.s, Sh.s]) (O.t 69)))), (I.mk (some 10) none false (X.alloc (V.agg [(V.int IntKind.i64 (Int.ofNat 0)), (V.int IntKind.i64 (Int.ofNat 0))]))), (I.mk none none false (X.store (Sh.ag [Sh.s, Sh.s]) (O.t 10) (O.t 70)))] []) A37_18)) A37_20)
def A37_16 : AC := (AC.seq (AC.cond (O.t 68) AC.skip (AC.exit 4)) A37_17)
def A37_15 : AC := (AC.seq (AC.reg [] [(I.mk (some 68) none false (X.v (A.bin BinOp.lss (O.t 67) (O.t 66))))] []) A37_16)
def A37_14 : AC := (AC.block 4 (AC.loop A37_15))
def A37_21 : AC := (AC.seq (AC.reg [] [(I.mk (some 94) none false (X.v (A.mov (O.t 6)))), (I.mk (some 4) none false (X.v (A.mov (O.t 94)))), (I.mk (some 5) none false (X.v (A.mov (O.k (V.bool true)))))] [.home 6 4]) AC.ret)
def A37_13 : AC := (AC.seq (AC.seq (AC.reg [] [(I.mk (some 64) none false (X.v (A.fld (O.t 2) 1 1))), (I.mk (some 65) none false (X.v (A.load Sh.p (O.t 64)))), (I.mk (some 66) none false (X.v (A.len (O.t 65)))), (I.mk (some 67) none false (X.v (A.mov (O.k (V.int IntKind.i64 (Int.ofNat 0))))))] []) A37_14) A37_21)
def A37_22 : AC := (AC.cond (O.t 23) (AC.seq (AC.reg [] [(I.mk (some 4) none false (X.v (A.mov (O.k (V.sl Tok.nl Sh.s 0 []))))), (I.mk (some 5) none false (X.v (A.mov (O.k (V.bool false)))))] []) AC.ret) AC.skip)
def A37_25 : AC := (AC.block 0 (AC.loop A37_1))
def A37_24 : AC := (AC.seq (AC.seq (AC.reg [] [(I.mk (some 27) none false (X.v (A.mov (O.t 6)))), (I.mk (some 28) none false (X.v (A.len (O.t 27)))), (I.mk (some 29) none false (X.v (A.mov (O.k (V.int IntKind.i64 (Int.ofNat 0))))))] []) A37_25) A37_13)
def A37_23 : AC := (AC.seq (AC.reg [.clr [26]] [(I.mk (some 24) none false (X.v (A.fld (O.t 2) 0 0))), (I.mk (some 25) none false (X.v (A.load Sh.s (O.t 24)))), (I.mk (some 26) none false (X.mk (O.t 25) (V.int IntKind.i64 (Int.ofNat 0)))), (I.mk (some 6) none false (X.v (A.mov (O.t 26))))] [.home 26 6]) A37_24)
def A37_26 : AC := (AC.seq (AC.seq (AC.reg [] [(I.mk (some 11) none false (X.v (A.mov (O.t 1)))), (I.mk (some 12) none false (X.v (A.len (O.t 11)))), (I.mk (some 13) none false (X.v (A.fld (O.t 2) 0 0))), (I.mk (some 14) none false (X.v (A.load Sh.s (O.t 13)))), (I.mk (some 15) none false (X.v (A.bin BinOp.neq (O.t 12) (O.t 14)))), (I.mk (some 16) none false (X.v (A.mov (O.t 15)))), (I.mk (some 17) (some (16, false)) false (X.v (A.mov (O.t 1)))), (I.mk (some 18) (some (16, false)) false (X.v (A.fld (O.t 2) 0 0))), (I.mk (some 19) (some (16, false)) false (X.v (A.load Sh.s (O.t 18)))), (I.mk (some 20) (some (16, false)) false (X.v (A.bin BinOp.sub (O.t 19) (O.k (V.int IntKind.i64 (Int.ofNat 1)))))), (I.mk (some 21) (some (16, false)) false (X.call (O.k (V.fn 62 [] [])) [(O.t 17), (O.k (V.int IntKind.i64 (Int.negSucc 0))), (O.t 20)])), (I.mk (some 22) (some (16, false)) false (X.v (A.un UnOp.not (O.t 21)))), (I.mk (some 23) none false (X.v (A.pick (O.t 16) (O.k (V.bool true)) (O.t 22))))] []) A37_22) A37_23)
def A37 : AC := (AC.seq (AC.reg [.clr [2]] [(I.mk (some 2) none false (X.box (O.t 0))), (I.mk (some 4) none false (X.v (A.mov (O.k (V.sl Tok.nl Sh.s 0 []))))), (I.mk (some 5) none false (X.v (A.mov (O.k (V.bool false)))))] []) A37_26)
def an37 : List An := [{ id := 0, pre := [.clr [2]], ep := [] }, { id := 3, pre := [.clr [26]], ep := [.home 26 6] }, { id := 16, pre := [.clr [10]], ep := [] }, { id := 20, pre := [], ep := [.home 6 4] }]
theorem c37 : cC Try.prog Try.f37.ntmps an37 (Try.f37.body.getD .skip) = some A37 := by rfl
structure H37 (D : Den) (σ : Sig) (F : Nat) : Prop where
  c62 : ∀ x0 x1 x2 r, i_allWithin F x0 x1 x2 = some r → D 62 [Enc.enc x0, Enc.enc x1, Enc.enc x2] = some (Enc.enc (r : Bool))
  g62 : σ 62 = some (0, false)
abbrev R37 (r : ((List Int) × Bool)) : (Nat → V) → Prop := RR Try.prog [.tmp 4, .tmp 5] 0 true (.tup [Enc.enc (r.1 : (List Int)), Enc.enc (r.2 : Bool)])
section
variable {D : Den} {σ : Sig} {F : Nat} {r : ((List Int) × Bool)}
def i_forestLists_j10 (F : Nat) (parents_2 : (List Int)) (g_1 : (Int × (List (Int × Int)))) (above_78 : (List Int)) (t29_37 : Int) (up_79 : Int) (mk_5 : (List Int)) (c1 : (List Int) → Int → Option ((List Int) × Bool)) (c4 : (List Int) → Int → Option ((List Int) × Bool)) (t54_91 : Bool) : Option ((List Int) × Bool) :=
  bif t54_91 then
    some ([], false)
  else
    (idx above_78 t29_37).bind fun e_92 =>
    (shlI .i64 1 up_79).bind fun q_93 =>
    (idx above_78 t29_37).bind fun e_94 =>
    (idx parents_2 up_79).bind fun e_95 =>
    c4 (above_78.set t29_37.toNat (ior .i64 e_92 q_93)) e_95
theorem t_f37_j10 (H : H37 D σ F) (parents_2 : (List Int)) (g_1 : (Int × (List (Int × Int)))) (above_78 : (List Int)) (t29_37 : Int) (up_79 : Int) (mk_5 : (List Int)) (c1 : (List Int) → Int → Option ((List Int) × Bool)) (Hc1 : ∀ (above_36 : (List Int)) (t29_37 : Int) (s : Nat → V), Facts [(1, (Enc.enc (parents_2 : List Int))), (2, (.ref (.bx 2) 0 [] (.agg [(.int .i64 g_1.1), (Enc.enc (g_1.2 : List (Int × Int)))]))), (4, (.sl .nl (Enc.shp Int) 0 [])), (5, (.bool false)), (6, (encO (.at 6 []) (.of (above_36 : List Int)))), (28, (.int .i64 (mk_5.length : Int))), (29, (.int .i64 t29_37))] s → c1 above_36 t29_37 = some r → Run D σ (R37 r) (.run A37_1 [.lp A37_1, .bk 0, .sq A37_13]) s) (c4 : (List Int) → Int → Option ((List Int) × Bool)) (Hc4 : ∀ (above_78 : (List Int)) (up_79 : Int) (s : Nat → V), Facts [(1, (Enc.enc (parents_2 : List Int))), (2, (.ref (.bx 2) 0 [] (.agg [(.int .i64 g_1.1), (Enc.enc (g_1.2 : List (Int × Int)))]))), (4, (.sl .nl (Enc.shp Int) 0 [])), (5, (.bool false)), (6, (encO (.at 6 []) (.of (above_78 : List Int)))), (7, (.int .i64 t29_37)), (8, (.int .i64 up_79)), (28, (.int .i64 (mk_5.length : Int))), (29, (.int .i64 t29_37))] s → c4 above_78 up_79 = some r → Run D σ (R37 r) (.run A37_6 [.lp A37_6, .bk 2, .bk 1, .sq A37_12, .lp A37_1, .bk 0, .sq A37_13]) s) (t54_91 : Bool) (s : Nat → V) (hs : Facts [(1, (Enc.enc (parents_2 : List Int))), (2, (.ref (.bx 2) 0 [] (.agg [(.int .i64 g_1.1), (Enc.enc (g_1.2 : List (Int × Int)))]))), (4, (.sl .nl (Enc.shp Int) 0 [])), (5, (.bool false)), (6, (encO (.at 6 []) (.of (above_78 : List Int)))), (7, (.int .i64 t29_37)), (8, (.int .i64 up_79)), (28, (.int .i64 (mk_5.length : Int))), (29, (.int .i64 t29_37)), (54, (.bool t54_91))] s) (h : i_forestLists_j10 F parents_2 g_1 above_78 t29_37 up_79 mk_5 c1 c4 t54_91 = some r) : Run D σ (R37 r) (.nrm [.sq A37_9, .sq A37_10, .bk 3, .sq A37_11, .lp A37_6, .bk 2, .bk 1, .sq A37_12, .lp A37_1, .bk 0, .sq A37_13]) s := by
  unfold i_forestLists_j10 at h
  obtain ⟨h1, h2, h4, h5, h6, h7, h8, h28, h29, h54⟩ := hs
  refine .nsq ?_
  refine run_cond (t := t54_91) h54 h (fun h => ?_) (fun h => ?_)
  · refine .seq ?_
    refine run_reg ?_
    refine e_end ?_
    refine g_v0 (.sl .nl (Enc.shp Int) 0 []) rfl rfl ?_
    refine g_v0 (.bool false) rfl rfl ?_
    refine g_end ?_
    refine e_end ?_
    refine renew [(1, (Enc.enc (parents_2 : List Int))), (2, (.ref (.bx 2) 0 [] (.agg [(.int .i64 g_1.1), (Enc.enc (g_1.2 : List (Int × Int)))]))), (4, (.sl .nl (Enc.shp Int) 0 [])), (5, (.bool false)), (6, (encO (.at 6 []) (.of (above_78 : List Int)))), (7, (.int .i64 t29_37)), (8, (.int .i64 up_79)), (28, (.int .i64 (mk_5.length : Int))), (29, (.int .i64 t29_37))] ⟨h1, h2, rfl, rfl, h6, h7, h8, h28, h29⟩ ?_
    rintro s ⟨h1, h2, h4, h5, h6, h7, h8, h28, h29⟩
    refine .nsq ?_
    refine .ret ?_
    have hr := Option.some.inj h
    subst hr
    exact rrB (res_tmp h4) (res_tmp h5) (fin_ret1 (fin_tup (fins_cons (fin_own (o := (.nil : NL Int)) (t := .nl)) (fins_cons (fin_enc (x := (false : Bool))) fins_nil))))
  · refine .skip ?_
    refine .nsq ?_
    refine run_reg ?_
    refine e_end ?_
    refine g_v1 (t := 6) (u := (encO (.at 6 []) (.of (above_78 : List Int)))) (encO (.at 6 []) (.of (above_78 : List Int))) h6 rfl rfl ?_
    refine g_v1 (t := 7) (u := (.int .i64 t29_37)) (.int .i64 t29_37) h7 rfl rfl ?_
    obtain ⟨e_92, E_e_92, h⟩ := bind_some h
    refine g_v (.ref (.at 6 []) t29_37.toNat [] (.int .i64 e_92)) (ev_idxO (o := (.of above_78)) rfl rfl E_e_92 rfl) ?_
    refine g_v1 (t := 57) (u := (.ref (.at 6 []) t29_37.toNat [] (.int .i64 e_92))) (.int .i64 e_92) rfl rfl rfl ?_
    refine g_v1 (t := 8) (u := (.int .i64 up_79)) (.int .i64 up_79) h8 rfl rfl ?_
    obtain ⟨q_93, E_q_93, h⟩ := bind_some h
    refine g_v (.int .i64 q_93) (ev_shl rfl rfl E_q_93) ?_
    refine g_v2 (t1 := 58) (t2 := 60) (u1 := (.int .i64 e_92)) (u2 := (.int .i64 q_93)) (.int .i64 (ior .i64 e_92 q_93)) rfl rfl rfl rfl ?_
    obtain ⟨e_94, E_e_94, h⟩ := bind_some h
    refine g_v (.ref (.at 6 []) t29_37.toNat [] (.int .i64 e_94)) (ev_idxO (o := (.of above_78)) rfl rfl E_e_94 rfl) ?_
    refine g_store (.int .i64 (ior .i64 e_92 q_93)) (rd_of rfl rfl) (rd_of rfl rfl) (by refine ⟨by decide, by decide, rfl, rfl, rfl, ?_⟩; first | rfl | simp [V.toks, V.tokss, Enc.toks_enc]) ?_
    refine g_end ?_
    refine e_end ?_
    refine renew [(1, (Enc.enc (parents_2 : List Int))), (2, (.ref (.bx 2) 0 [] (.agg [(.int .i64 g_1.1), (Enc.enc (g_1.2 : List (Int × Int)))]))), (4, (.sl .nl (Enc.shp Int) 0 [])), (5, (.bool false)), (6, (encO (.at 6 []) (.of (above_78.set t29_37.toNat (ior .i64 e_92 q_93) : List Int)))), (7, (.int .i64 t29_37)), (8, (.int .i64 up_79)), (28, (.int .i64 (mk_5.length : Int))), (29, (.int .i64 t29_37))] ⟨(keep_mut h1 (Enc.mut_enc _ _ _ _ (parents_2 : List Int))), (keep_mut h2 (mut_ref_ne rfl rfl (mut_agg (muts_cons rfl (muts_cons (Enc.mut_enc _ _ _ _ (g_1.2 : List (Int × Int))) rfl))))), (keep_mut h4 rfl), (keep_mut h5 rfl), (keep_mut h6 mut_own), (keep_mut h7 rfl), (keep_mut h8 rfl), (keep_mut h28 rfl), (keep_mut h29 rfl)⟩ ?_
    rintro s ⟨h1, h2, h4, h5, h6, h7, h8, h28, h29⟩
    refine .nbk ?_
    refine .nsq ?_
    refine run_reg ?_
    refine e_end ?_
    refine g_v1 (t := 1) (u := (Enc.enc (parents_2 : List Int))) (Enc.enc (parents_2 : List Int)) h1 rfl rfl ?_
    refine g_v1 (t := 8) (u := (.int .i64 up_79)) (.int .i64 up_79) h8 rfl rfl ?_
    obtain ⟨e_95, E_e_95, h⟩ := bind_some h
    refine g_v (.ref .sh 0 [] (.int .i64 e_95)) (ev_idx (t := .sh) (lo := 0) (xs := parents_2) rfl rfl E_e_95 rfl rfl) ?_
    refine g_v1 (t := 40) (u := (.ref .sh 0 [] (.int .i64 e_95))) (.int .i64 e_95) rfl rfl rfl ?_
    refine g_v1 (t := 41) (u := (.int .i64 e_95)) (.int .i64 e_95) rfl rfl rfl ?_
    refine g_end ?_
    refine e_end ?_
    refine renew [(1, (Enc.enc (parents_2 : List Int))), (2, (.ref (.bx 2) 0 [] (.agg [(.int .i64 g_1.1), (Enc.enc (g_1.2 : List (Int × Int)))]))), (4, (.sl .nl (Enc.shp Int) 0 [])), (5, (.bool false)), (6, (encO (.at 6 []) (.of (above_78.set t29_37.toNat (ior .i64 e_92 q_93) : List Int)))), (7, (.int .i64 t29_37)), (8, (.int .i64 e_95)), (28, (.int .i64 (mk_5.length : Int))), (29, (.int .i64 t29_37))] ⟨h1, h2, h4, h5, h6, h7, rfl, h28, h29⟩ ?_
    rintro s ⟨h1, h2, h4, h5, h6, h7, h8, h28, h29⟩
    refine .nlp ?_
    exact Hc4 (above_78.set t29_37.toNat (ior .i64 e_92 q_93)) e_95 _ ⟨h1, h2, h4, h5, h6, h7, h8, h28, h29⟩ h
def i_forestLists_l4 (F : Nat) (parents_2 : (List Int)) (g_1 : (Int × (List (Int × Int)))) (t29_37 : Int) (mk_5 : (List Int)) (c1 : (List Int) → Int → Option ((List Int) × Bool)) : Nat → (List Int) → Int → Option ((List Int) × Bool)
  | 0, _, _ => none
  | k + 1, above_78, up_79 =>
    bif decide (up_79 ≥ 0) then
      bif (up_79 == t29_37) then
        i_forestLists_j10 F parents_2 g_1 above_78 t29_37 up_79 mk_5 c1 (i_forestLists_l4 F parents_2 g_1 t29_37 mk_5 c1 k) true
      else
        (idx above_78 t29_37).bind fun e_96 =>
        (shrI .i64 e_96 up_79).bind fun q_97 =>
        i_forestLists_j10 F parents_2 g_1 above_78 t29_37 up_79 mk_5 c1 (i_forestLists_l4 F parents_2 g_1 t29_37 mk_5 c1 k) ((iand .i64 q_97 1) == 1)
    else
      c1 above_78 (w64 (t29_37 + 1))
theorem t_f37_l4 (H : H37 D σ F) (parents_2 : (List Int)) (g_1 : (Int × (List (Int × Int)))) (t29_37 : Int) (mk_5 : (List Int)) (c1 : (List Int) → Int → Option ((List Int) × Bool)) (Hc1 : ∀ (above_36 : (List Int)) (t29_37 : Int) (s : Nat → V), Facts [(1, (Enc.enc (parents_2 : List Int))), (2, (.ref (.bx 2) 0 [] (.agg [(.int .i64 g_1.1), (Enc.enc (g_1.2 : List (Int × Int)))]))), (4, (.sl .nl (Enc.shp Int) 0 [])), (5, (.bool false)), (6, (encO (.at 6 []) (.of (above_36 : List Int)))), (28, (.int .i64 (mk_5.length : Int))), (29, (.int .i64 t29_37))] s → c1 above_36 t29_37 = some r → Run D σ (R37 r) (.run A37_1 [.lp A37_1, .bk 0, .sq A37_13]) s) : ∀ (k : Nat) (above_78 : (List Int)) (up_79 : Int) (s : Nat → V), Facts [(1, (Enc.enc (parents_2 : List Int))), (2, (.ref (.bx 2) 0 [] (.agg [(.int .i64 g_1.1), (Enc.enc (g_1.2 : List (Int × Int)))]))), (4, (.sl .nl (Enc.shp Int) 0 [])), (5, (.bool false)), (6, (encO (.at 6 []) (.of (above_78 : List Int)))), (7, (.int .i64 t29_37)), (8, (.int .i64 up_79)), (28, (.int .i64 (mk_5.length : Int))), (29, (.int .i64 t29_37))] s → i_forestLists_l4 F parents_2 g_1 t29_37 mk_5 c1 k above_78 up_79 = some r → Run D σ (R37 r) (.run A37_6 [.lp A37_6, .bk 2, .bk 1, .sq A37_12, .lp A37_1, .bk 0, .sq A37_13]) s := by
  intro k
  induction k with
  | zero => intro above_78 up_79 s _ h; exact nomatch (h : (none : Option _) = some r)
  | succ k ih =>
    intro above_78 up_79 s hs h
    rw [i_forestLists_l4] at h
    obtain ⟨h1, h2, h4, h5, h6, h7, h8, h28, h29⟩ := hs
    refine .seq ?_
    refine .seq ?_
    refine run_reg ?_
    refine e_end ?_
    refine g_v1 (t := 8) (u := (.int .i64 up_79)) (.int .i64 up_79) h8 rfl rfl ?_
    refine g_v1 (t := 36) (u := (.int .i64 up_79)) (.bool (decide (up_79 ≥ 0))) rfl rfl rfl ?_
    refine g_end ?_
    refine e_end ?_
    refine renew [(1, (Enc.enc (parents_2 : List Int))), (2, (.ref (.bx 2) 0 [] (.agg [(.int .i64 g_1.1), (Enc.enc (g_1.2 : List (Int × Int)))]))), (4, (.sl .nl (Enc.shp Int) 0 [])), (5, (.bool false)), (6, (encO (.at 6 []) (.of (above_78 : List Int)))), (7, (.int .i64 t29_37)), (8, (.int .i64 up_79)), (28, (.int .i64 (mk_5.length : Int))), (29, (.int .i64 t29_37)), (37, (.bool (decide (up_79 ≥ 0))))] ⟨h1, h2, h4, h5, h6, h7, h8, h28, h29, rfl⟩ ?_
    rintro s ⟨h1, h2, h4, h5, h6, h7, h8, h28, h29, h37⟩
    refine .nsq ?_
    refine run_cond (t := decide (up_79 ≥ 0)) h37 h (fun h => ?_) (fun h => ?_)
    · refine .skip ?_
      refine .nsq ?_
      refine .seq ?_
      refine .block ?_
      refine .seq ?_
      refine .seq ?_
      refine run_reg ?_
      refine e_end ?_
      refine g_v1 (t := 8) (u := (.int .i64 up_79)) (.int .i64 up_79) h8 rfl rfl ?_
      refine g_v1 (t := 7) (u := (.int .i64 t29_37)) (.int .i64 t29_37) h7 rfl rfl ?_
      refine g_v2 (t1 := 42) (t2 := 43) (u1 := (.int .i64 up_79)) (u2 := (.int .i64 t29_37)) (.bool (up_79 == t29_37)) rfl rfl rfl rfl ?_
      refine g_v1 (t := 44) (u := (.bool (up_79 == t29_37))) (.bool (up_79 == t29_37)) rfl rfl rfl ?_
      refine split_on (c := (up_79 == t29_37)) h (fun hg4 h => ?_) (fun hg4 h => ?_)
      · refine g_no (Eq.trans (b := .bool (up_79 == t29_37)) rfl (congrArg V.bool hg4)) ?_
        refine g_no (Eq.trans (b := .bool (up_79 == t29_37)) rfl (congrArg V.bool hg4)) ?_
        refine g_no (Eq.trans (b := .bool (up_79 == t29_37)) rfl (congrArg V.bool hg4)) ?_
        refine g_no (Eq.trans (b := .bool (up_79 == t29_37)) rfl (congrArg V.bool hg4)) ?_
        refine g_no (Eq.trans (b := .bool (up_79 == t29_37)) rfl (congrArg V.bool hg4)) ?_
        refine g_no (Eq.trans (b := .bool (up_79 == t29_37)) rfl (congrArg V.bool hg4)) ?_
        refine g_no (Eq.trans (b := .bool (up_79 == t29_37)) rfl (congrArg V.bool hg4)) ?_
        refine g_no (Eq.trans (b := .bool (up_79 == t29_37)) rfl (congrArg V.bool hg4)) ?_
        refine g_v2 (t1 := 45) (t2 := 53) (u1 := (.bool true)) (u2 := (.tup [])) (.bool true) (Eq.trans (b := .bool (up_79 == t29_37)) rfl (congrArg V.bool hg4)) rfl rfl rfl ?_
        refine g_end ?_
        refine e_end ?_
        refine renew [(1, (Enc.enc (parents_2 : List Int))), (2, (.ref (.bx 2) 0 [] (.agg [(.int .i64 g_1.1), (Enc.enc (g_1.2 : List (Int × Int)))]))), (4, (.sl .nl (Enc.shp Int) 0 [])), (5, (.bool false)), (6, (encO (.at 6 []) (.of (above_78 : List Int)))), (7, (.int .i64 t29_37)), (8, (.int .i64 up_79)), (28, (.int .i64 (mk_5.length : Int))), (29, (.int .i64 t29_37)), (54, (.bool true))] ⟨h1, h2, h4, h5, h6, h7, h8, h28, h29, rfl⟩ ?_
        rintro s ⟨h1, h2, h4, h5, h6, h7, h8, h28, h29, h54⟩
        exact t_f37_j10 H parents_2 g_1 above_78 t29_37 up_79 mk_5 c1 Hc1 (i_forestLists_l4 F parents_2 g_1 t29_37 mk_5 c1 k) ih true _ ⟨h1, h2, h4, h5, h6, h7, h8, h28, h29, h54⟩ h
      · refine g_yes (Eq.trans (b := .bool (up_79 == t29_37)) rfl (congrArg V.bool hg4)) (g_v1 (t := 6) (u := (encO (.at 6 []) (.of (above_78 : List Int)))) (encO (.at 6 []) (.of (above_78 : List Int))) h6 rfl rfl ?_)
        refine g_yes (Eq.trans (b := .bool (up_79 == t29_37)) rfl (congrArg V.bool hg4)) (g_v1 (t := 7) (u := (.int .i64 t29_37)) (.int .i64 t29_37) h7 rfl rfl ?_)
        obtain ⟨e_96, E_e_96, h⟩ := bind_some h
        refine g_yes (Eq.trans (b := .bool (up_79 == t29_37)) rfl (congrArg V.bool hg4)) (g_v (.ref (.at 6 []) t29_37.toNat [] (.int .i64 e_96)) (ev_idxO (o := (.of above_78)) rfl rfl E_e_96 rfl) ?_)
        refine g_yes (Eq.trans (b := .bool (up_79 == t29_37)) rfl (congrArg V.bool hg4)) (g_v1 (t := 48) (u := (.ref (.at 6 []) t29_37.toNat [] (.int .i64 e_96))) (.int .i64 e_96) rfl rfl rfl ?_)
        refine g_yes (Eq.trans (b := .bool (up_79 == t29_37)) rfl (congrArg V.bool hg4)) (g_v1 (t := 8) (u := (.int .i64 up_79)) (.int .i64 up_79) h8 rfl rfl ?_)
        obtain ⟨q_97, E_q_97, h⟩ := bind_some h
        refine g_yes (Eq.trans (b := .bool (up_79 == t29_37)) rfl (congrArg V.bool hg4)) (g_v (.int .i64 q_97) (ev_shr rfl rfl E_q_97) ?_)
        refine g_yes (Eq.trans (b := .bool (up_79 == t29_37)) rfl (congrArg V.bool hg4)) (g_v1 (t := 51) (u := (.int .i64 q_97)) (.int .i64 (iand .i64 q_97 1)) rfl rfl rfl ?_)
        refine g_yes (Eq.trans (b := .bool (up_79 == t29_37)) rfl (congrArg V.bool hg4)) (g_v1 (t := 52) (u := (.int .i64 (iand .i64 q_97 1))) (.bool ((iand .i64 q_97 1) == 1)) rfl rfl rfl ?_)
        refine g_v2 (t1 := 45) (t2 := 53) (u1 := (.bool false)) (u2 := (.bool ((iand .i64 q_97 1) == 1))) (.bool ((iand .i64 q_97 1) == 1)) (Eq.trans (b := .bool (up_79 == t29_37)) rfl (congrArg V.bool hg4)) rfl rfl rfl ?_
        refine g_end ?_
        refine e_end ?_
        refine renew [(1, (Enc.enc (parents_2 : List Int))), (2, (.ref (.bx 2) 0 [] (.agg [(.int .i64 g_1.1), (Enc.enc (g_1.2 : List (Int × Int)))]))), (4, (.sl .nl (Enc.shp Int) 0 [])), (5, (.bool false)), (6, (encO (.at 6 []) (.of (above_78 : List Int)))), (7, (.int .i64 t29_37)), (8, (.int .i64 up_79)), (28, (.int .i64 (mk_5.length : Int))), (29, (.int .i64 t29_37)), (54, (.bool ((iand .i64 q_97 1) == 1)))] ⟨h1, h2, h4, h5, h6, h7, h8, h28, h29, rfl⟩ ?_
        rintro s ⟨h1, h2, h4, h5, h6, h7, h8, h28, h29, h54⟩
        exact t_f37_j10 H parents_2 g_1 above_78 t29_37 up_79 mk_5 c1 Hc1 (i_forestLists_l4 F parents_2 g_1 t29_37 mk_5 c1 k) ih ((iand .i64 q_97 1) == 1) _ ⟨h1, h2, h4, h5, h6, h7, h8, h28, h29, h54⟩ h
    · refine .exit ?_
      refine .esq ?_
      refine .elp ?_
      refine .ebk ?_
      refine .nbk ?_
      refine .nsq ?_
      refine run_reg ?_
      refine e_end ?_
      refine g_v1 (t := 29) (u := (.int .i64 t29_37)) (.int .i64 (w64 (t29_37 + 1))) h29 rfl rfl ?_
      refine g_v1 (t := 63) (u := (.int .i64 (w64 (t29_37 + 1)))) (.int .i64 (w64 (t29_37 + 1))) rfl rfl rfl ?_
      refine g_end ?_
      refine e_end ?_
      refine renew [(1, (Enc.enc (parents_2 : List Int))), (2, (.ref (.bx 2) 0 [] (.agg [(.int .i64 g_1.1), (Enc.enc (g_1.2 : List (Int × Int)))]))), (4, (.sl .nl (Enc.shp Int) 0 [])), (5, (.bool false)), (6, (encO (.at 6 []) (.of (above_78 : List Int)))), (28, (.int .i64 (mk_5.length : Int))), (29, (.int .i64 (w64 (t29_37 + 1))))] ⟨h1, h2, h4, h5, h6, h28, rfl⟩ ?_
      rintro s ⟨h1, h2, h4, h5, h6, h28, h29⟩
      refine .nlp ?_
      exact Hc1 above_78 (w64 (t29_37 + 1)) _ ⟨h1, h2, h4, h5, h6, h28, h29⟩ h
def i_forestLists_j13 (F : Nat) (above_36 : (List Int)) (g_1 : (Int × (List (Int × Int)))) (t67_108 : Int) (c5 : Int → Option ((List Int) × Bool)) (t92_124 : Bool) : Option ((List Int) × Bool) :=
  bif t92_124 then
    some ([], false)
  else
    c5 (w64 (t67_108 + 1))
theorem t_f37_j13 (H : H37 D σ F) (above_36 : (List Int)) (g_1 : (Int × (List (Int × Int)))) (t67_108 : Int) (c5 : Int → Option ((List Int) × Bool)) (Hc5 : ∀ (t67_108 : Int) (s : Nat → V), Facts [(4, (.sl .nl (Enc.shp Int) 0 [])), (5, (.bool false)), (6, (encO (.at 6 []) (.of (above_36 : List Int)))), (65, (Enc.enc (g_1.2 : List (Int × Int)))), (66, (.int .i64 (g_1.2.length : Int))), (67, (.int .i64 t67_108))] s → c5 t67_108 = some r → Run D σ (R37 r) (.run A37_15 [.lp A37_15, .bk 4, .sq A37_21]) s) (t92_124 : Bool) (s : Nat → V) (hs : Facts [(4, (.sl .nl (Enc.shp Int) 0 [])), (5, (.bool false)), (6, (encO (.at 6 []) (.of (above_36 : List Int)))), (65, (Enc.enc (g_1.2 : List (Int × Int)))), (66, (.int .i64 (g_1.2.length : Int))), (67, (.int .i64 t67_108)), (92, (.bool t92_124))] s) (h : i_forestLists_j13 F above_36 g_1 t67_108 c5 t92_124 = some r) : Run D σ (R37 r) (.nrm [.sq A37_19, .bk 5, .sq A37_20, .lp A37_15, .bk 4, .sq A37_21]) s := by
  unfold i_forestLists_j13 at h
  obtain ⟨h4, h5, h6, h65, h66, h67, h92⟩ := hs
  refine .nsq ?_
  refine run_cond (t := t92_124) h92 h (fun h => ?_) (fun h => ?_)
  · refine .seq ?_
    refine run_reg ?_
    refine e_end ?_
    refine g_v0 (.sl .nl (Enc.shp Int) 0 []) rfl rfl ?_
    refine g_v0 (.bool false) rfl rfl ?_
    refine g_end ?_
    refine e_end ?_
    refine renew [(4, (.sl .nl (Enc.shp Int) 0 [])), (5, (.bool false)), (6, (encO (.at 6 []) (.of (above_36 : List Int)))), (65, (Enc.enc (g_1.2 : List (Int × Int)))), (66, (.int .i64 (g_1.2.length : Int))), (67, (.int .i64 t67_108))] ⟨rfl, rfl, h6, h65, h66, h67⟩ ?_
    rintro s ⟨h4, h5, h6, h65, h66, h67⟩
    refine .nsq ?_
    refine .ret ?_
    have hr := Option.some.inj h
    subst hr
    exact rrB (res_tmp h4) (res_tmp h5) (fin_ret1 (fin_tup (fins_cons (fin_own (o := (.nil : NL Int)) (t := .nl)) (fins_cons (fin_enc (x := (false : Bool))) fins_nil))))
  · refine .skip ?_
    refine .nbk ?_
    refine .nsq ?_
    refine run_reg ?_
    refine e_end ?_
    refine g_v1 (t := 67) (u := (.int .i64 t67_108)) (.int .i64 (w64 (t67_108 + 1))) h67 rfl rfl ?_
    refine g_v1 (t := 93) (u := (.int .i64 (w64 (t67_108 + 1)))) (.int .i64 (w64 (t67_108 + 1))) rfl rfl rfl ?_
    refine g_end ?_
    refine e_end ?_
    refine renew [(4, (.sl .nl (Enc.shp Int) 0 [])), (5, (.bool false)), (6, (encO (.at 6 []) (.of (above_36 : List Int)))), (65, (Enc.enc (g_1.2 : List (Int × Int)))), (66, (.int .i64 (g_1.2.length : Int))), (67, (.int .i64 (w64 (t67_108 + 1))))] ⟨h4, h5, h6, h65, h66, rfl⟩ ?_
    rintro s ⟨h4, h5, h6, h65, h66, h67⟩
    refine .nlp ?_
    exact Hc5 (w64 (t67_108 + 1)) _ ⟨h4, h5, h6, h65, h66, h67⟩ h
def i_forestLists_l5 (F : Nat) (above_36 : (List Int)) (g_1 : (Int × (List (Int × Int))))  : Nat → Int → Option ((List Int) × Bool)
  | 0, _ => none
  | k + 1, t67_108 =>
    bif decide (t67_108 < (g_1.2.length : Int)) then
      (idx g_1.2 t67_108).bind fun e_119 =>
      (idx above_36 e_119.1).bind fun e_125 =>
      (shrI .i64 e_125 e_119.2).bind fun q_126 =>
      bif ((iand .i64 q_126 1) == 0) then
        (idx above_36 e_119.2).bind fun e_127 =>
        (shrI .i64 e_127 e_119.1).bind fun q_128 =>
        i_forestLists_j13 F above_36 g_1 t67_108 (i_forestLists_l5 F above_36 g_1 k) ((iand .i64 q_128 1) == 0)
      else
        i_forestLists_j13 F above_36 g_1 t67_108 (i_forestLists_l5 F above_36 g_1 k) false
    else
      some (above_36, true)
theorem t_f37_l5 (H : H37 D σ F) (above_36 : (List Int)) (g_1 : (Int × (List (Int × Int))))  : ∀ (k : Nat) (t67_108 : Int) (s : Nat → V), Facts [(4, (.sl .nl (Enc.shp Int) 0 [])), (5, (.bool false)), (6, (encO (.at 6 []) (.of (above_36 : List Int)))), (65, (Enc.enc (g_1.2 : List (Int × Int)))), (66, (.int .i64 (g_1.2.length : Int))), (67, (.int .i64 t67_108))] s → i_forestLists_l5 F above_36 g_1 k t67_108 = some r → Run D σ (R37 r) (.run A37_15 [.lp A37_15, .bk 4, .sq A37_21]) s := by
  intro k
  induction k with
  | zero => intro t67_108 s _ h; exact nomatch (h : (none : Option _) = some r)
  | succ k ih =>
    intro t67_108 s hs h
    rw [i_forestLists_l5] at h
    obtain ⟨h4, h5, h6, h65, h66, h67⟩ := hs
    refine .seq ?_
    refine run_reg ?_
    refine e_end ?_
    refine g_v2 (t1 := 67) (t2 := 66) (u1 := (.int .i64 t67_108)) (u2 := (.int .i64 (g_1.2.length : Int))) (.bool (decide (t67_108 < (g_1.2.length : Int)))) h67 h66 rfl rfl ?_
    refine g_end ?_
    refine e_end ?_
    refine renew [(4, (.sl .nl (Enc.shp Int) 0 [])), (5, (.bool false)), (6, (encO (.at 6 []) (.of (above_36 : List Int)))), (65, (Enc.enc (g_1.2 : List (Int × Int)))), (66, (.int .i64 (g_1.2.length : Int))), (67, (.int .i64 t67_108)), (68, (.bool (decide (t67_108 < (g_1.2.length : Int)))))] ⟨h4, h5, h6, h65, h66, h67, rfl⟩ ?_
    rintro s ⟨h4, h5, h6, h65, h66, h67, h68⟩
    refine .nsq ?_
    refine .seq ?_
    refine run_cond (t := decide (t67_108 < (g_1.2.length : Int))) h68 h (fun h => ?_) (fun h => ?_)
    · refine .skip ?_
      refine .nsq ?_
      refine .seq ?_
      refine .block ?_
      refine .seq ?_
      refine run_reg ?_
      refine e_clr ?_
      refine e_end ?_
      obtain ⟨e_119, E_e_119, h⟩ := bind_some h
      refine g_v (.ref .sh 0 [] (.agg [(.int .i64 e_119.1), (.int .i64 e_119.2)])) (ev_idx (t := .sh) (lo := 0) (xs := g_1.2) (keep_clear (s := s) (pk := [10]) h65 rfl (Enc.map_enc _ (g_1.2 : List (Int × Int)))) (keep_clear (s := s) (pk := [10]) h67 rfl rfl) E_e_119 rfl rfl) ?_
      refine g_v1 (t := 69) (u := (.ref .sh 0 [] (.agg [(.int .i64 e_119.1), (.int .i64 e_119.2)]))) (.agg [(.int .i64 e_119.1), (.int .i64 e_119.2)]) rfl rfl rfl ?_
      refine g_alloc (gone_clear (s := s) (pk := [10]) (t := 10) rfl) ?_
      refine g_store (.agg [(.int .i64 e_119.1), (.int .i64 e_119.2)]) (rd_of rfl rfl) (rd_of rfl rfl) (by refine ⟨by decide, by decide, rfl, rfl, rfl, ?_⟩; first | rfl | simp [V.toks, V.tokss, Enc.toks_enc]) ?_
      refine g_end ?_
      refine e_end ?_
      refine renew [(4, (.sl .nl (Enc.shp Int) 0 [])), (5, (.bool false)), (6, (encO (.at 6 []) (.of (above_36 : List Int)))), (10, (.ref (.bx 10) 0 [] (.agg [(.int .i64 e_119.1), (.int .i64 e_119.2)]))), (65, (Enc.enc (g_1.2 : List (Int × Int)))), (66, (.int .i64 (g_1.2.length : Int))), (67, (.int .i64 t67_108))] ⟨(keep_mut (keep_clear (s := s) (pk := [10]) h4 rfl rfl) rfl), (keep_mut (keep_clear (s := s) (pk := [10]) h5 rfl rfl) rfl), (keep_mut (keep_clear (s := s) (pk := [10]) h6 rfl (map_encO (r := 6) (p := []) rfl rfl)) (mut_own_ne rfl rfl)), (keep_mut rfl rfl), (keep_mut (keep_clear (s := s) (pk := [10]) h65 rfl (Enc.map_enc _ (g_1.2 : List (Int × Int)))) (Enc.mut_enc _ _ _ _ (g_1.2 : List (Int × Int)))), (keep_mut (keep_clear (s := s) (pk := [10]) h66 rfl rfl) rfl), (keep_mut (keep_clear (s := s) (pk := [10]) h67 rfl rfl) rfl)⟩ ?_
      rintro s ⟨h4, h5, h6, h10, h65, h66, h67⟩
      refine .nsq ?_
      refine .seq ?_
      refine run_reg ?_
      refine e_end ?_
      refine g_v1 (t := 6) (u := (encO (.at 6 []) (.of (above_36 : List Int)))) (encO (.at 6 []) (.of (above_36 : List Int))) h6 rfl rfl ?_
      refine g_v1 (t := 10) (u := (.ref (.bx 10) 0 [] (.agg [(.int .i64 e_119.1), (.int .i64 e_119.2)]))) (.ref (.bx 10) 0 [0] (.int .i64 e_119.1)) h10 rfl rfl ?_
      refine g_v1 (t := 72) (u := (.ref (.bx 10) 0 [0] (.int .i64 e_119.1))) (.int .i64 e_119.1) rfl rfl rfl ?_
      obtain ⟨e_125, E_e_125, h⟩ := bind_some h
      refine g_v (.ref (.at 6 []) e_119.1.toNat [] (.int .i64 e_125)) (ev_idxO (o := (.of above_36)) rfl rfl E_e_125 rfl) ?_
      refine g_v1 (t := 74) (u := (.ref (.at 6 []) e_119.1.toNat [] (.int .i64 e_125))) (.int .i64 e_125) rfl rfl rfl ?_
      refine g_v1 (t := 10) (u := (.ref (.bx 10) 0 [] (.agg [(.int .i64 e_119.1), (.int .i64 e_119.2)]))) (.ref (.bx 10) 0 [1] (.int .i64 e_119.2)) h10 rfl rfl ?_
      refine g_v1 (t := 76) (u := (.ref (.bx 10) 0 [1] (.int .i64 e_119.2))) (.int .i64 e_119.2) rfl rfl rfl ?_
      obtain ⟨q_126, E_q_126, h⟩ := bind_some h
      refine g_v (.int .i64 q_126) (ev_shr rfl rfl E_q_126) ?_
      refine g_v1 (t := 78) (u := (.int .i64 q_126)) (.int .i64 (iand .i64 q_126 1)) rfl rfl rfl ?_
      refine g_v1 (t := 79) (u := (.int .i64 (iand .i64 q_126 1))) (.bool ((iand .i64 q_126 1) == 0)) rfl rfl rfl ?_
      refine g_v1 (t := 80) (u := (.bool ((iand .i64 q_126 1) == 0))) (.bool ((iand .i64 q_126 1) == 0)) rfl rfl rfl ?_
      refine split_on (c := ((iand .i64 q_126 1) == 0)) h (fun hg11 h => ?_) (fun hg11 h => ?_)
      · refine g_yes (Eq.trans (b := .bool ((iand .i64 q_126 1) == 0)) rfl (congrArg V.bool hg11)) (g_v1 (t := 6) (u := (encO (.at 6 []) (.of (above_36 : List Int)))) (encO (.at 6 []) (.of (above_36 : List Int))) h6 rfl rfl ?_)
        refine g_yes (Eq.trans (b := .bool ((iand .i64 q_126 1) == 0)) rfl (congrArg V.bool hg11)) (g_v1 (t := 10) (u := (.ref (.bx 10) 0 [] (.agg [(.int .i64 e_119.1), (.int .i64 e_119.2)]))) (.ref (.bx 10) 0 [1] (.int .i64 e_119.2)) h10 rfl rfl ?_)
        refine g_yes (Eq.trans (b := .bool ((iand .i64 q_126 1) == 0)) rfl (congrArg V.bool hg11)) (g_v1 (t := 83) (u := (.ref (.bx 10) 0 [1] (.int .i64 e_119.2))) (.int .i64 e_119.2) rfl rfl rfl ?_)
        obtain ⟨e_127, E_e_127, h⟩ := bind_some h
        refine g_yes (Eq.trans (b := .bool ((iand .i64 q_126 1) == 0)) rfl (congrArg V.bool hg11)) (g_v (.ref (.at 6 []) e_119.2.toNat [] (.int .i64 e_127)) (ev_idxO (o := (.of above_36)) rfl rfl E_e_127 rfl) ?_)
        refine g_yes (Eq.trans (b := .bool ((iand .i64 q_126 1) == 0)) rfl (congrArg V.bool hg11)) (g_v1 (t := 85) (u := (.ref (.at 6 []) e_119.2.toNat [] (.int .i64 e_127))) (.int .i64 e_127) rfl rfl rfl ?_)
        refine g_yes (Eq.trans (b := .bool ((iand .i64 q_126 1) == 0)) rfl (congrArg V.bool hg11)) (g_v1 (t := 10) (u := (.ref (.bx 10) 0 [] (.agg [(.int .i64 e_119.1), (.int .i64 e_119.2)]))) (.ref (.bx 10) 0 [0] (.int .i64 e_119.1)) h10 rfl rfl ?_)
        refine g_yes (Eq.trans (b := .bool ((iand .i64 q_126 1) == 0)) rfl (congrArg V.bool hg11)) (g_v1 (t := 87) (u := (.ref (.bx 10) 0 [0] (.int .i64 e_119.1))) (.int .i64 e_119.1) rfl rfl rfl ?_)
        obtain ⟨q_128, E_q_128, h⟩ := bind_some h
        refine g_yes (Eq.trans (b := .bool ((iand .i64 q_126 1) == 0)) rfl (congrArg V.bool hg11)) (g_v (.int .i64 q_128) (ev_shr rfl rfl E_q_128) ?_)
        refine g_yes (Eq.trans (b := .bool ((iand .i64 q_126 1) == 0)) rfl (congrArg V.bool hg11)) (g_v1 (t := 89) (u := (.int .i64 q_128)) (.int .i64 (iand .i64 q_128 1)) rfl rfl rfl ?_)
        refine g_yes (Eq.trans (b := .bool ((iand .i64 q_126 1) == 0)) rfl (congrArg V.bool hg11)) (g_v1 (t := 90) (u := (.int .i64 (iand .i64 q_128 1))) (.bool ((iand .i64 q_128 1) == 0)) rfl rfl rfl ?_)
        refine g_v2 (t1 := 81) (t2 := 91) (u1 := (.bool true)) (u2 := (.bool ((iand .i64 q_128 1) == 0))) (.bool ((iand .i64 q_128 1) == 0)) (Eq.trans (b := .bool ((iand .i64 q_126 1) == 0)) rfl (congrArg V.bool hg11)) rfl rfl rfl ?_
        refine g_end ?_
        refine e_end ?_
        refine renew [(4, (.sl .nl (Enc.shp Int) 0 [])), (5, (.bool false)), (6, (encO (.at 6 []) (.of (above_36 : List Int)))), (65, (Enc.enc (g_1.2 : List (Int × Int)))), (66, (.int .i64 (g_1.2.length : Int))), (67, (.int .i64 t67_108)), (92, (.bool ((iand .i64 q_128 1) == 0)))] ⟨h4, h5, h6, h65, h66, h67, rfl⟩ ?_
        rintro s ⟨h4, h5, h6, h65, h66, h67, h92⟩
        exact t_f37_j13 H above_36 g_1 t67_108 (i_forestLists_l5 F above_36 g_1 k) ih ((iand .i64 q_128 1) == 0) _ ⟨h4, h5, h6, h65, h66, h67, h92⟩ h
      · refine g_no (Eq.trans (b := .bool ((iand .i64 q_126 1) == 0)) rfl (congrArg V.bool hg11)) ?_
        refine g_no (Eq.trans (b := .bool ((iand .i64 q_126 1) == 0)) rfl (congrArg V.bool hg11)) ?_
        refine g_no (Eq.trans (b := .bool ((iand .i64 q_126 1) == 0)) rfl (congrArg V.bool hg11)) ?_
        refine g_no (Eq.trans (b := .bool ((iand .i64 q_126 1) == 0)) rfl (congrArg V.bool hg11)) ?_
        refine g_no (Eq.trans (b := .bool ((iand .i64 q_126 1) == 0)) rfl (congrArg V.bool hg11)) ?_
        refine g_no (Eq.trans (b := .bool ((iand .i64 q_126 1) == 0)) rfl (congrArg V.bool hg11)) ?_
        refine g_no (Eq.trans (b := .bool ((iand .i64 q_126 1) == 0)) rfl (congrArg V.bool hg11)) ?_
        refine g_no (Eq.trans (b := .bool ((iand .i64 q_126 1) == 0)) rfl (congrArg V.bool hg11)) ?_
        refine g_no (Eq.trans (b := .bool ((iand .i64 q_126 1) == 0)) rfl (congrArg V.bool hg11)) ?_
        refine g_no (Eq.trans (b := .bool ((iand .i64 q_126 1) == 0)) rfl (congrArg V.bool hg11)) ?_
        refine g_v2 (t1 := 81) (t2 := 91) (u1 := (.bool false)) (u2 := (.tup [])) (.bool false) (Eq.trans (b := .bool ((iand .i64 q_126 1) == 0)) rfl (congrArg V.bool hg11)) rfl rfl rfl ?_
        refine g_end ?_
        refine e_end ?_
        refine renew [(4, (.sl .nl (Enc.shp Int) 0 [])), (5, (.bool false)), (6, (encO (.at 6 []) (.of (above_36 : List Int)))), (65, (Enc.enc (g_1.2 : List (Int × Int)))), (66, (.int .i64 (g_1.2.length : Int))), (67, (.int .i64 t67_108)), (92, (.bool false))] ⟨h4, h5, h6, h65, h66, h67, rfl⟩ ?_
        rintro s ⟨h4, h5, h6, h65, h66, h67, h92⟩
        exact t_f37_j13 H above_36 g_1 t67_108 (i_forestLists_l5 F above_36 g_1 k) ih false _ ⟨h4, h5, h6, h65, h66, h67, h92⟩ h
    · refine .exit ?_
      refine .esq ?_
      refine .elp ?_
      refine .ebk ?_
      refine .nsq ?_
      refine .seq ?_
      refine run_reg ?_
      refine e_end ?_
      refine g_v1 (t := 6) (u := (encO (.at 6 []) (.of (above_36 : List Int)))) (encO (.at 6 []) (.of (above_36 : List Int))) h6 rfl rfl ?_
      refine g_v1 (t := 94) (u := (encO (.at 6 []) (.of (above_36 : List Int)))) (encO (.at 6 []) (.of (above_36 : List Int))) rfl rfl rfl ?_
      refine g_v0 (.bool true) rfl rfl ?_
      refine g_end ?_
      refine e_home (r := 6) (x := 4) (v := (encO (.at 6 []) (.of (above_36 : List Int)))) (by exact rfl) rfl (fun s_7 hg_7 => ?_)
      refine e_end ?_
      refine renew [(4, (encO (.at 4 []) (.of (above_36 : List Int)))), (5, (.bool true))] ⟨(hg_7 4 (encO (.at 6 []) (.of (above_36 : List Int))) (encO (.at 4 []) (.of (above_36 : List Int))) rfl (map_encO (r := 6) (p := []) rfl rfl)), (hg_7 5 (.bool true) (.bool true) rfl rfl)⟩ ?_
      rintro s ⟨h4, h5⟩
      refine .nsq ?_
      refine .ret ?_
      have hr := Option.some.inj h
      subst hr
      exact rrB (res_tmp h4) (res_tmp h5) (fin_ret1 (fin_tup (fins_cons (fin_own (o := .of above_36)) (fins_cons (fin_enc (x := (true : Bool))) fins_nil))))
def i_forestLists_l1 (F : Nat) (parents_2 : (List Int)) (g_1 : (Int × (List (Int × Int)))) (mk_5 : (List Int))  : Nat → (List Int) → Int → Option ((List Int) × Bool)
  | 0, _, _ => none
  | k + 1, above_36, t29_37 =>
    bif decide (t29_37 < (mk_5.length : Int)) then
      (idx parents_2 t29_37).bind fun e_68 =>
      i_forestLists_l4 F parents_2 g_1 t29_37 mk_5 (i_forestLists_l1 F parents_2 g_1 mk_5 k) F above_36 e_68
    else
      i_forestLists_l5 F above_36 g_1 F 0
theorem t_f37_l1 (H : H37 D σ F) (parents_2 : (List Int)) (g_1 : (Int × (List (Int × Int)))) (mk_5 : (List Int))  : ∀ (k : Nat) (above_36 : (List Int)) (t29_37 : Int) (s : Nat → V), Facts [(1, (Enc.enc (parents_2 : List Int))), (2, (.ref (.bx 2) 0 [] (.agg [(.int .i64 g_1.1), (Enc.enc (g_1.2 : List (Int × Int)))]))), (4, (.sl .nl (Enc.shp Int) 0 [])), (5, (.bool false)), (6, (encO (.at 6 []) (.of (above_36 : List Int)))), (28, (.int .i64 (mk_5.length : Int))), (29, (.int .i64 t29_37))] s → i_forestLists_l1 F parents_2 g_1 mk_5 k above_36 t29_37 = some r → Run D σ (R37 r) (.run A37_1 [.lp A37_1, .bk 0, .sq A37_13]) s := by
  intro k
  induction k with
  | zero => intro above_36 t29_37 s _ h; exact nomatch (h : (none : Option _) = some r)
  | succ k ih =>
    intro above_36 t29_37 s hs h
    rw [i_forestLists_l1] at h
    obtain ⟨h1, h2, h4, h5, h6, h28, h29⟩ := hs
    refine .seq ?_
    refine run_reg ?_
    refine e_end ?_
    refine g_v2 (t1 := 29) (t2 := 28) (u1 := (.int .i64 t29_37)) (u2 := (.int .i64 (mk_5.length : Int))) (.bool (decide (t29_37 < (mk_5.length : Int)))) h29 h28 rfl rfl ?_
    refine g_end ?_
    refine e_end ?_
    refine renew [(1, (Enc.enc (parents_2 : List Int))), (2, (.ref (.bx 2) 0 [] (.agg [(.int .i64 g_1.1), (Enc.enc (g_1.2 : List (Int × Int)))]))), (4, (.sl .nl (Enc.shp Int) 0 [])), (5, (.bool false)), (6, (encO (.at 6 []) (.of (above_36 : List Int)))), (28, (.int .i64 (mk_5.length : Int))), (29, (.int .i64 t29_37)), (30, (.bool (decide (t29_37 < (mk_5.length : Int)))))] ⟨h1, h2, h4, h5, h6, h28, h29, rfl⟩ ?_
    rintro s ⟨h1, h2, h4, h5, h6, h28, h29, h30⟩
    refine .nsq ?_
    refine .seq ?_
    refine run_cond (t := decide (t29_37 < (mk_5.length : Int))) h30 h (fun h => ?_) (fun h => ?_)
    · refine .skip ?_
      refine .nsq ?_
      refine .seq ?_
      refine .block ?_
      refine .seq ?_
      refine run_reg ?_
      refine e_end ?_
      refine g_v1 (t := 29) (u := (.int .i64 t29_37)) (.int .i64 t29_37) h29 rfl rfl ?_
      refine g_v1 (t := 31) (u := (.int .i64 t29_37)) (.int .i64 t29_37) rfl rfl rfl ?_
      refine g_end ?_
      refine e_end ?_
      refine renew [(1, (Enc.enc (parents_2 : List Int))), (2, (.ref (.bx 2) 0 [] (.agg [(.int .i64 g_1.1), (Enc.enc (g_1.2 : List (Int × Int)))]))), (4, (.sl .nl (Enc.shp Int) 0 [])), (5, (.bool false)), (6, (encO (.at 6 []) (.of (above_36 : List Int)))), (7, (.int .i64 t29_37)), (28, (.int .i64 (mk_5.length : Int))), (29, (.int .i64 t29_37))] ⟨h1, h2, h4, h5, h6, rfl, h28, h29⟩ ?_
      rintro s ⟨h1, h2, h4, h5, h6, h7, h28, h29⟩
      refine .nsq ?_
      refine .seq ?_
      refine run_reg ?_
      refine e_end ?_
      refine g_v1 (t := 1) (u := (Enc.enc (parents_2 : List Int))) (Enc.enc (parents_2 : List Int)) h1 rfl rfl ?_
      refine g_v1 (t := 7) (u := (.int .i64 t29_37)) (.int .i64 t29_37) h7 rfl rfl ?_
      obtain ⟨e_68, E_e_68, h⟩ := bind_some h
      refine g_v (.ref .sh 0 [] (.int .i64 e_68)) (ev_idx (t := .sh) (lo := 0) (xs := parents_2) rfl rfl E_e_68 rfl rfl) ?_
      refine g_v1 (t := 34) (u := (.ref .sh 0 [] (.int .i64 e_68))) (.int .i64 e_68) rfl rfl rfl ?_
      refine g_v1 (t := 35) (u := (.int .i64 e_68)) (.int .i64 e_68) rfl rfl rfl ?_
      refine g_end ?_
      refine e_end ?_
      refine renew [(1, (Enc.enc (parents_2 : List Int))), (2, (.ref (.bx 2) 0 [] (.agg [(.int .i64 g_1.1), (Enc.enc (g_1.2 : List (Int × Int)))]))), (4, (.sl .nl (Enc.shp Int) 0 [])), (5, (.bool false)), (6, (encO (.at 6 []) (.of (above_36 : List Int)))), (7, (.int .i64 t29_37)), (8, (.int .i64 e_68)), (28, (.int .i64 (mk_5.length : Int))), (29, (.int .i64 t29_37))] ⟨h1, h2, h4, h5, h6, h7, rfl, h28, h29⟩ ?_
      rintro s ⟨h1, h2, h4, h5, h6, h7, h8, h28, h29⟩
      refine .nsq ?_
      refine .block ?_
      refine .loop ?_
      exact t_f37_l4 H parents_2 g_1 t29_37 mk_5 (i_forestLists_l1 F parents_2 g_1 mk_5 k) ih F above_36 e_68 _ ⟨h1, h2, h4, h5, h6, h7, h8, h28, h29⟩ h
    · refine .exit ?_
      refine .esq ?_
      refine .elp ?_
      refine .ebk ?_
      refine .nsq ?_
      refine .seq ?_
      refine .seq ?_
      refine run_reg ?_
      refine e_end ?_
      refine g_v1 (t := 2) (u := (.ref (.bx 2) 0 [] (.agg [(.int .i64 g_1.1), (Enc.enc (g_1.2 : List (Int × Int)))]))) (.ref (.bx 2) 0 [1] (Enc.enc (g_1.2 : List (Int × Int)))) h2 rfl rfl ?_
      refine g_v1 (t := 64) (u := (.ref (.bx 2) 0 [1] (Enc.enc (g_1.2 : List (Int × Int))))) (Enc.enc (g_1.2 : List (Int × Int))) rfl rfl rfl ?_
      refine g_v (.int .i64 (g_1.2.length : Int)) (ev_len (xs := g_1.2) rfl) ?_
      refine g_v0 (.int .i64 0) rfl rfl ?_
      refine g_end ?_
      refine e_end ?_
      refine renew [(4, (.sl .nl (Enc.shp Int) 0 [])), (5, (.bool false)), (6, (encO (.at 6 []) (.of (above_36 : List Int)))), (65, (Enc.enc (g_1.2 : List (Int × Int)))), (66, (.int .i64 (g_1.2.length : Int))), (67, (.int .i64 0))] ⟨h4, h5, h6, rfl, rfl, rfl⟩ ?_
      rintro s ⟨h4, h5, h6, h65, h66, h67⟩
      refine .nsq ?_
      refine .block ?_
      refine .loop ?_
      exact t_f37_l5 H above_36 g_1 F 0 _ ⟨h4, h5, h6, h65, h66, h67⟩ h
def i_forestLists_j1 (F : Nat) (parents_2 : (List Int)) (g_1 : (Int × (List (Int × Int))))  (t23_4 : Bool) : Option ((List Int) × Bool) :=
  bif t23_4 then
    some ([], false)
  else
    (mkN g_1.1 0).bind fun mk_5 =>
    i_forestLists_l1 F parents_2 g_1 mk_5 F mk_5 0
theorem t_f37_j1 (H : H37 D σ F) (parents_2 : (List Int)) (g_1 : (Int × (List (Int × Int))))  (t23_4 : Bool) (s : Nat → V) (hs : Facts [(1, (Enc.enc (parents_2 : List Int))), (2, (.ref (.bx 2) 0 [] (.agg [(.int .i64 g_1.1), (Enc.enc (g_1.2 : List (Int × Int)))]))), (4, (.sl .nl (Enc.shp Int) 0 [])), (5, (.bool false)), (23, (.bool t23_4))] s) (h : i_forestLists_j1 F parents_2 g_1  t23_4 = some r) : Run D σ (R37 r) (.nrm [.sq A37_22, .sq A37_23]) s := by
  unfold i_forestLists_j1 at h
  obtain ⟨h1, h2, h4, h5, h23⟩ := hs
  refine .nsq ?_
  refine run_cond (t := t23_4) h23 h (fun h => ?_) (fun h => ?_)
  · refine .seq ?_
    refine run_reg ?_
    refine e_end ?_
    refine g_v0 (.sl .nl (Enc.shp Int) 0 []) rfl rfl ?_
    refine g_v0 (.bool false) rfl rfl ?_
    refine g_end ?_
    refine e_end ?_
    refine renew [(1, (Enc.enc (parents_2 : List Int))), (2, (.ref (.bx 2) 0 [] (.agg [(.int .i64 g_1.1), (Enc.enc (g_1.2 : List (Int × Int)))]))), (4, (.sl .nl (Enc.shp Int) 0 [])), (5, (.bool false))] ⟨h1, h2, rfl, rfl⟩ ?_
    rintro s ⟨h1, h2, h4, h5⟩
    refine .nsq ?_
    refine .ret ?_
    have hr := Option.some.inj h
    subst hr
    exact rrB (res_tmp h4) (res_tmp h5) (fin_ret1 (fin_tup (fins_cons (fin_own (o := (.nil : NL Int)) (t := .nl)) (fins_cons (fin_enc (x := (false : Bool))) fins_nil))))
  · refine .skip ?_
    refine .nsq ?_
    refine .seq ?_
    refine run_reg ?_
    refine e_clr ?_
    refine e_end ?_
    refine g_v1 (t := 2) (u := (.ref (.bx 2) 0 [] (.agg [(.int .i64 g_1.1), (Enc.enc (g_1.2 : List (Int × Int)))]))) (.ref (.bx 2) 0 [0] (.int .i64 g_1.1)) (keep_clear (s := s) (pk := [26]) h2 rfl (map_bx rfl (map_agg (maps_cons rfl (maps_cons (Enc.map_enc _ (g_1.2 : List (Int × Int))) maps_nil))))) rfl rfl ?_
    refine g_v1 (t := 24) (u := (.ref (.bx 2) 0 [0] (.int .i64 g_1.1))) (.int .i64 g_1.1) rfl rfl rfl ?_
    obtain ⟨mk_5, E_mk_5, h⟩ := bind_some h
    refine g_mk (0 : Int) rfl rfl (gone_clear (s := s) (pk := [26]) (t := 26) rfl) E_mk_5 ?_
    refine g_v1 (t := 26) (u := (encO (.at 26 []) (.of (mk_5 : List Int)))) (encO (.at 26 []) (.of (mk_5 : List Int))) rfl rfl rfl ?_
    refine g_end ?_
    refine e_home (r := 26) (x := 6) (v := (encO (.at 26 []) (.of (mk_5 : List Int)))) (by exact rfl) rfl (fun s_3 hg_3 => ?_)
    refine e_end ?_
    refine renew [(1, (Enc.enc (parents_2 : List Int))), (2, (.ref (.bx 2) 0 [] (.agg [(.int .i64 g_1.1), (Enc.enc (g_1.2 : List (Int × Int)))]))), (4, (.sl .nl (Enc.shp Int) 0 [])), (5, (.bool false)), (6, (encO (.at 6 []) (.of (mk_5 : List Int))))] ⟨(hg_3 1 (Enc.enc (parents_2 : List Int)) (Enc.enc (parents_2 : List Int)) (keep_clear (s := s) (pk := [26]) h1 rfl (Enc.map_enc _ (parents_2 : List Int))) (Enc.map_enc _ (parents_2 : List Int))), (hg_3 2 (.ref (.bx 2) 0 [] (.agg [(.int .i64 g_1.1), (Enc.enc (g_1.2 : List (Int × Int)))])) (.ref (.bx 2) 0 [] (.agg [(.int .i64 g_1.1), (Enc.enc (g_1.2 : List (Int × Int)))])) (keep_clear (s := s) (pk := [26]) h2 rfl (map_bx rfl (map_agg (maps_cons rfl (maps_cons (Enc.map_enc _ (g_1.2 : List (Int × Int))) maps_nil))))) (map_bx rfl (map_agg (maps_cons rfl (maps_cons (Enc.map_enc _ (g_1.2 : List (Int × Int))) maps_nil))))), (hg_3 4 (.sl .nl (Enc.shp Int) 0 []) (.sl .nl (Enc.shp Int) 0 []) (keep_clear (s := s) (pk := [26]) h4 rfl rfl) rfl), (hg_3 5 (.bool false) (.bool false) (keep_clear (s := s) (pk := [26]) h5 rfl rfl) rfl), (hg_3 6 (encO (.at 26 []) (.of (mk_5 : List Int))) (encO (.at 6 []) (.of (mk_5 : List Int))) rfl (map_encO (r := 26) (p := []) rfl rfl))⟩ ?_
    rintro s ⟨h1, h2, h4, h5, h6⟩
    refine .nsq ?_
    refine .seq ?_
    refine .seq ?_
    refine run_reg ?_
    refine e_end ?_
    refine g_v1 (t := 6) (u := (encO (.at 6 []) (.of (mk_5 : List Int)))) (encO (.at 6 []) (.of (mk_5 : List Int))) h6 rfl rfl ?_
    refine g_v (.int .i64 (mk_5.length : Int)) (ev_lenO (o := .of mk_5) rfl) ?_
    refine g_v0 (.int .i64 0) rfl rfl ?_
    refine g_end ?_
    refine e_end ?_
    refine renew [(1, (Enc.enc (parents_2 : List Int))), (2, (.ref (.bx 2) 0 [] (.agg [(.int .i64 g_1.1), (Enc.enc (g_1.2 : List (Int × Int)))]))), (4, (.sl .nl (Enc.shp Int) 0 [])), (5, (.bool false)), (6, (encO (.at 6 []) (.of (mk_5 : List Int)))), (28, (.int .i64 (mk_5.length : Int))), (29, (.int .i64 0))] ⟨h1, h2, h4, h5, h6, rfl, rfl⟩ ?_
    rintro s ⟨h1, h2, h4, h5, h6, h28, h29⟩
    refine .nsq ?_
    refine .block ?_
    refine .loop ?_
    exact t_f37_l1 H parents_2 g_1 mk_5 F mk_5 0 _ ⟨h1, h2, h4, h5, h6, h28, h29⟩ h
def i_forestLists (F : Nat) (g_1 : (Int × (List (Int × Int)))) (parents_2 : (List Int)) : Option ((List Int) × Bool) :=
  bif ((parents_2.length : Int) != g_1.1) then
    i_forestLists_j1 F parents_2 g_1 true
  else
    (i_allWithin F parents_2 (-1) (w64 (g_1.1 - 1))).bind fun r_129 =>
    i_forestLists_j1 F parents_2 g_1 (!r_129)
theorem t37 (H : H37 D σ F) (g_1 : (Int × (List (Int × Int)))) (parents_2 : (List Int)) (s : Nat → V) (hs : Facts [(0, (.agg [(.int .i64 g_1.1), (Enc.enc (g_1.2 : List (Int × Int)))])), (1, (Enc.enc (parents_2 : List Int)))] s) (h : i_forestLists F g_1 parents_2 = some r) : Run D σ (R37 r) (.run A37 []) s := by
  unfold i_forestLists at h
  obtain ⟨h0, h1⟩ := hs
  refine .seq ?_
  refine run_reg ?_
  refine e_clr ?_
  refine e_end ?_
  refine g_box (.agg [(.int .i64 g_1.1), (Enc.enc (g_1.2 : List (Int × Int)))]) (rd_of (keep_clear (s := s) (pk := [2]) h0 rfl (map_agg (maps_cons rfl (maps_cons (Enc.map_enc _ (g_1.2 : List (Int × Int))) maps_nil)))) rfl) (gone_clear (s := s) (pk := [2]) (t := 2) rfl) rfl ?_
  refine g_v0 (.sl .nl (Enc.shp Int) 0 []) rfl rfl ?_
  refine g_v0 (.bool false) rfl rfl ?_
  refine g_end ?_
  refine e_end ?_
  refine renew [(1, (Enc.enc (parents_2 : List Int))), (2, (.ref (.bx 2) 0 [] (.agg [(.int .i64 g_1.1), (Enc.enc (g_1.2 : List (Int × Int)))]))), (4, (.sl .nl (Enc.shp Int) 0 [])), (5, (.bool false))] ⟨(keep_clear (s := s) (pk := [2]) h1 rfl (Enc.map_enc _ (parents_2 : List Int))), rfl, rfl, rfl⟩ ?_
  rintro s ⟨h1, h2, h4, h5⟩
  refine .nsq ?_
  refine .seq ?_
  refine .seq ?_
  refine run_reg ?_
  refine e_end ?_
  refine g_v1 (t := 1) (u := (Enc.enc (parents_2 : List Int))) (Enc.enc (parents_2 : List Int)) h1 rfl rfl ?_
  refine g_v (.int .i64 (parents_2.length : Int)) (ev_len (xs := parents_2) rfl) ?_
  refine g_v1 (t := 2) (u := (.ref (.bx 2) 0 [] (.agg [(.int .i64 g_1.1), (Enc.enc (g_1.2 : List (Int × Int)))]))) (.ref (.bx 2) 0 [0] (.int .i64 g_1.1)) h2 rfl rfl ?_
  refine g_v1 (t := 13) (u := (.ref (.bx 2) 0 [0] (.int .i64 g_1.1))) (.int .i64 g_1.1) rfl rfl rfl ?_
  refine g_v2 (t1 := 12) (t2 := 14) (u1 := (.int .i64 (parents_2.length : Int))) (u2 := (.int .i64 g_1.1)) (.bool ((parents_2.length : Int) != g_1.1)) rfl rfl rfl rfl ?_
  refine g_v1 (t := 15) (u := (.bool ((parents_2.length : Int) != g_1.1))) (.bool ((parents_2.length : Int) != g_1.1)) rfl rfl rfl ?_
  refine split_on (c := ((parents_2.length : Int) != g_1.1)) h (fun hg6 h => ?_) (fun hg6 h => ?_)
  · refine g_no (Eq.trans (b := .bool ((parents_2.length : Int) != g_1.1)) rfl (congrArg V.bool hg6)) ?_
    refine g_no (Eq.trans (b := .bool ((parents_2.length : Int) != g_1.1)) rfl (congrArg V.bool hg6)) ?_
    refine g_no (Eq.trans (b := .bool ((parents_2.length : Int) != g_1.1)) rfl (congrArg V.bool hg6)) ?_
    refine g_no (Eq.trans (b := .bool ((parents_2.length : Int) != g_1.1)) rfl (congrArg V.bool hg6)) ?_
    refine g_no (Eq.trans (b := .bool ((parents_2.length : Int) != g_1.1)) rfl (congrArg V.bool hg6)) ?_
    refine g_no (Eq.trans (b := .bool ((parents_2.length : Int) != g_1.1)) rfl (congrArg V.bool hg6)) ?_
    refine g_v2 (t1 := 16) (t2 := 22) (u1 := (.bool true)) (u2 := (.tup [])) (.bool true) (Eq.trans (b := .bool ((parents_2.length : Int) != g_1.1)) rfl (congrArg V.bool hg6)) rfl rfl rfl ?_
    refine g_end ?_
    refine e_end ?_
    refine renew [(1, (Enc.enc (parents_2 : List Int))), (2, (.ref (.bx 2) 0 [] (.agg [(.int .i64 g_1.1), (Enc.enc (g_1.2 : List (Int × Int)))]))), (4, (.sl .nl (Enc.shp Int) 0 [])), (5, (.bool false)), (23, (.bool true))] ⟨h1, h2, h4, h5, rfl⟩ ?_
    rintro s ⟨h1, h2, h4, h5, h23⟩
    exact t_f37_j1 H parents_2 g_1 true _ ⟨h1, h2, h4, h5, h23⟩ h
  · refine g_yes (Eq.trans (b := .bool ((parents_2.length : Int) != g_1.1)) rfl (congrArg V.bool hg6)) (g_v1 (t := 1) (u := (Enc.enc (parents_2 : List Int))) (Enc.enc (parents_2 : List Int)) h1 rfl rfl ?_)
    refine g_yes (Eq.trans (b := .bool ((parents_2.length : Int) != g_1.1)) rfl (congrArg V.bool hg6)) (g_v1 (t := 2) (u := (.ref (.bx 2) 0 [] (.agg [(.int .i64 g_1.1), (Enc.enc (g_1.2 : List (Int × Int)))]))) (.ref (.bx 2) 0 [0] (.int .i64 g_1.1)) h2 rfl rfl ?_)
    refine g_yes (Eq.trans (b := .bool ((parents_2.length : Int) != g_1.1)) rfl (congrArg V.bool hg6)) (g_v1 (t := 18) (u := (.ref (.bx 2) 0 [0] (.int .i64 g_1.1))) (.int .i64 g_1.1) rfl rfl rfl ?_)
    refine g_yes (Eq.trans (b := .bool ((parents_2.length : Int) != g_1.1)) rfl (congrArg V.bool hg6)) (g_v1 (t := 19) (u := (.int .i64 g_1.1)) (.int .i64 (w64 (g_1.1 - 1))) rfl rfl rfl ?_)
    obtain ⟨r_129, E_r_129, h⟩ := bind_some h
    refine g_yes (Eq.trans (b := .bool ((parents_2.length : Int) != g_1.1)) rfl (congrArg V.bool hg6)) (g_call (m := 0) (al := false) (r := (Enc.enc (r_129 : Bool))) [Enc.enc (parents_2 : (List Int)), Enc.enc ((-1) : Int), Enc.enc (w64 (g_1.1 - 1) : Int)] (ta_cons (v := (Enc.enc (parents_2 : List Int))) rfl rfl (Enc.erase_enc (parents_2 : (List Int))) (ta_cons (v := (.int .i64 (-1))) rfl rfl rfl (ta_cons (v := (.int .i64 (w64 (g_1.1 - 1)))) rfl rfl rfl ta_nil))) (H.c62 _ _ _ _ E_r_129) H.g62 rfl rfl rfl rfl ?_)
    refine g_yes (Eq.trans (b := .bool ((parents_2.length : Int) != g_1.1)) rfl (congrArg V.bool hg6)) (g_v1 (t := 21) (u := (.bool r_129)) (.bool (!r_129)) rfl rfl rfl ?_)
    refine g_v2 (t1 := 16) (t2 := 22) (u1 := (.bool false)) (u2 := (.bool (!r_129))) (.bool (!r_129)) (Eq.trans (b := .bool ((parents_2.length : Int) != g_1.1)) rfl (congrArg V.bool hg6)) rfl rfl rfl ?_
    refine g_end ?_
    refine e_end ?_
    refine renew [(1, (Enc.enc (parents_2 : List Int))), (2, (.ref (.bx 2) 0 [] (.agg [(.int .i64 g_1.1), (Enc.enc (g_1.2 : List (Int × Int)))]))), (4, (.sl .nl (Enc.shp Int) 0 [])), (5, (.bool false)), (23, (.bool (!r_129)))] ⟨h1, h2, h4, h5, rfl⟩ ?_
    rintro s ⟨h1, h2, h4, h5, h23⟩
    exact t_f37_j1 H parents_2 g_1 (!r_129) _ ⟨h1, h2, h4, h5, h23⟩ h
end
def e37 (F : Nat) : Ent := ⟨37, dn2 (i_forestLists F) (fun (r : ((List Int) × Bool)) => (.tup [Enc.enc (r.1 : (List Int)), Enc.enc (r.2 : Bool)])), 0, true⟩
theorem o37 {D : Den} {σ : Sig} {F : Nat} (hF : Fits2 Try.prog D σ) (H : H37 D σ F) : (e37 F).Ok Try.prog := by
  refine ⟨fun args r h => ?_, ⟨Try.f37, Try.func37, rfl, rfl⟩⟩
  obtain ⟨x0, x1, y, rfl, hy, rfl⟩ := dn2_open h
  exact contract_run hF (by kernel_rfl) Try.func37 rfl c37 (show 2 ≤ Try.f37.ntmps by decide) (t37 H x0 x1 _ ⟨rfl, rfl⟩ hy)
/- loop.example/g01109/impl.IsForest -/
def A17_2 : AC := (AC.cond (O.t 10) (AC.seq (AC.reg [] [(I.mk (some 4) none false (X.v (A.mov (O.k (V.bool false))))), (I.mk (some 5) none false (X.v (A.mov (O.k (V.bool false)))))] []) AC.ret) AC.skip)
def A17_4 : AC := (AC.seq (AC.reg [] [(I.mk (some 17) none false (X.v (A.mov (O.t 7)))), (I.mk (some 4) none false (X.v (A.mov (O.t 17)))), (I.mk (some 5) none false (X.v (A.mov (O.k (V.bool true)))))] []) AC.ret)
def A17_3 : AC := (AC.seq (AC.reg [] [(I.mk (some 12) none false (X.v (A.load (Sh.ag [Sh.s, Sh.p]) (O.t 2)))), (I.mk (some 13) none false (X.v (A.mov (O.t 1)))), (I.mk (some 14) none false (X.call (O.k (V.fn 37 [] [])) [(O.t 12), (O.t 13)])), (I.mk (some 11) none false (X.v (A.mov (O.t 14)))), (I.mk (some 15) none false (X.v (A.ext (O.t 11) 0))), (I.mk (some 16) none false (X.v (A.ext (O.t 11) 1))), (I.mk (some 6) none false (X.v (A.mov (O.t 15)))), (I.mk (some 7) none false (X.v (A.mov (O.t 16))))] []) A17_4)
def A17_1 : AC := (AC.seq (AC.seq (AC.reg [] [(I.mk (some 8) none false (X.v (A.load (Sh.ag [Sh.s, Sh.p]) (O.t 2)))), (I.mk (some 9) none false (X.call (O.k (V.fn 33 [] [])) [(O.t 8)])), (I.mk (some 10) none false (X.v (A.un UnOp.not (O.t 9))))] []) A17_2) A17_3)
def A17 : AC := (AC.seq (AC.reg [.clr [2]] [(I.mk (some 2) none false (X.box (O.t 0))), (I.mk (some 4) none false (X.v (A.mov (O.k (V.bool false))))), (I.mk (some 5) none false (X.v (A.mov (O.k (V.bool false)))))] []) A17_1)
def an17 : List An := [{ id := 0, pre := [.clr [2]], ep := [] }]
theorem c17 : cC Try.prog Try.f17.ntmps an17 (Try.f17.body.getD .skip) = some A17 := by rfl
structure H17 (D : Den) (σ : Sig) (F : Nat) : Prop where
  c33 : ∀ x0 r, i_IsGraph F x0 = some r → D 33 [Enc.enc x0] = some (Enc.enc (r : Bool))
  g33 : σ 33 = some (0, false)
  c37 : ∀ x0 x1 r, i_forestLists F x0 x1 = some r → D 37 [Enc.enc x0, Enc.enc x1] = some (.tup [Enc.enc (r.1 : (List Int)), Enc.enc (r.2 : Bool)])
  g37 : σ 37 = some (0, true)
abbrev R17 (r : (Bool × Bool)) : (Nat → V) → Prop := RR Try.prog [.tmp 4, .tmp 5] 0 false (.tup [Enc.enc (r.1 : Bool), Enc.enc (r.2 : Bool)])
section
variable {D : Den} {σ : Sig} {F : Nat} {r : (Bool × Bool)}
def i_IsForest (F : Nat) (g_1 : (Int × (List (Int × Int)))) (parents_2 : (List Int)) : Option (Bool × Bool) :=
  (i_IsGraph F g_1).bind fun r_3 =>
  bif (!r_3) then
    some (false, false)
  else
    (i_forestLists F g_1 parents_2).bind fun r_4 =>
    some (r_4.2, true)
theorem t17 (H : H17 D σ F) (g_1 : (Int × (List (Int × Int)))) (parents_2 : (List Int)) (s : Nat → V) (hs : Facts [(0, (.agg [(.int .i64 g_1.1), (Enc.enc (g_1.2 : List (Int × Int)))])), (1, (Enc.enc (parents_2 : List Int)))] s) (h : i_IsForest F g_1 parents_2 = some r) : Run D σ (R17 r) (.run A17 []) s := by
  unfold i_IsForest at h
  obtain ⟨h0, h1⟩ := hs
  refine .seq ?_
  refine run_reg ?_
  refine e_clr ?_
  refine e_end ?_
  refine g_box (.agg [(.int .i64 g_1.1), (Enc.enc (g_1.2 : List (Int × Int)))]) (rd_of (keep_clear (s := s) (pk := [2]) h0 rfl (map_agg (maps_cons rfl (maps_cons (Enc.map_enc _ (g_1.2 : List (Int × Int))) maps_nil)))) rfl) (gone_clear (s := s) (pk := [2]) (t := 2) rfl) rfl ?_
  refine g_v0 (.bool false) rfl rfl ?_
  refine g_v0 (.bool false) rfl rfl ?_
  refine g_end ?_
  refine e_end ?_
  refine renew [(1, (Enc.enc (parents_2 : List Int))), (2, (.ref (.bx 2) 0 [] (.agg [(.int .i64 g_1.1), (Enc.enc (g_1.2 : List (Int × Int)))]))), (4, (.bool false)), (5, (.bool false))] ⟨(keep_clear (s := s) (pk := [2]) h1 rfl (Enc.map_enc _ (parents_2 : List Int))), rfl, rfl, rfl⟩ ?_
  rintro s ⟨h1, h2, h4, h5⟩
  refine .nsq ?_
  refine .seq ?_
  refine .seq ?_
  refine run_reg ?_
  refine e_end ?_
  refine g_v1 (t := 2) (u := (.ref (.bx 2) 0 [] (.agg [(.int .i64 g_1.1), (Enc.enc (g_1.2 : List (Int × Int)))]))) (.agg [(.int .i64 g_1.1), (Enc.enc (g_1.2 : List (Int × Int)))]) h2 rfl rfl ?_
  obtain ⟨r_3, E_r_3, h⟩ := bind_some h
  refine g_call (m := 0) (al := false) (r := (Enc.enc (r_3 : Bool))) [Enc.enc (g_1 : (Int × (List (Int × Int))))] (ta_cons (v := (.agg [(.int .i64 g_1.1), (Enc.enc (g_1.2 : List (Int × Int)))])) rfl rfl (Enc.erase_enc (g_1 : (Int × (List (Int × Int))))) ta_nil) (H.c33 _ _ E_r_3) H.g33 rfl rfl rfl rfl ?_
  refine g_v1 (t := 9) (u := (.bool r_3)) (.bool (!r_3)) rfl rfl rfl ?_
  refine g_end ?_
  refine e_end ?_
  refine renew [(1, (Enc.enc (parents_2 : List Int))), (2, (.ref (.bx 2) 0 [] (.agg [(.int .i64 g_1.1), (Enc.enc (g_1.2 : List (Int × Int)))]))), (4, (.bool false)), (5, (.bool false)), (10, (.bool (!r_3)))] ⟨h1, h2, h4, h5, rfl⟩ ?_
  rintro s ⟨h1, h2, h4, h5, h10⟩
  refine .nsq ?_
  refine run_cond (t := (!r_3)) h10 h (fun h => ?_) (fun h => ?_)
  · refine .seq ?_
    refine run_reg ?_
    refine e_end ?_
    refine g_v0 (.bool false) rfl rfl ?_
    refine g_v0 (.bool false) rfl rfl ?_
    refine g_end ?_
    refine e_end ?_
    refine renew [(1, (Enc.enc (parents_2 : List Int))), (2, (.ref (.bx 2) 0 [] (.agg [(.int .i64 g_1.1), (Enc.enc (g_1.2 : List (Int × Int)))]))), (4, (.bool false)), (5, (.bool false))] ⟨h1, h2, rfl, rfl⟩ ?_
    rintro s ⟨h1, h2, h4, h5⟩
    refine .nsq ?_
    refine .ret ?_
    have hr := Option.some.inj h
    subst hr
    exact rrB (res_tmp h4) (res_tmp h5) rfl
  · refine .skip ?_
    refine .nsq ?_
    refine .seq ?_
    refine run_reg ?_
    refine e_end ?_
    refine g_v1 (t := 2) (u := (.ref (.bx 2) 0 [] (.agg [(.int .i64 g_1.1), (Enc.enc (g_1.2 : List (Int × Int)))]))) (.agg [(.int .i64 g_1.1), (Enc.enc (g_1.2 : List (Int × Int)))]) h2 rfl rfl ?_
    refine g_v1 (t := 1) (u := (Enc.enc (parents_2 : List Int))) (Enc.enc (parents_2 : List Int)) h1 rfl rfl ?_
    obtain ⟨r_4, E_r_4, h⟩ := bind_some h
    refine g_call (m := 0) (al := true) (r := (.tup [Enc.enc (r_4.1 : (List Int)), Enc.enc (r_4.2 : Bool)])) [Enc.enc (g_1 : (Int × (List (Int × Int)))), Enc.enc (parents_2 : (List Int))] (ta_cons (v := (.agg [(.int .i64 g_1.1), (Enc.enc (g_1.2 : List (Int × Int)))])) rfl rfl (Enc.erase_enc (g_1 : (Int × (List (Int × Int))))) (ta_cons (v := (Enc.enc (parents_2 : List Int))) rfl rfl (Enc.erase_enc (parents_2 : (List Int))) ta_nil)) (H.c37 _ _ _ E_r_4) H.g37 (hal_of (ht_cons (v := (.agg [(.int .i64 g_1.1), (Enc.enc (g_1.2 : List (Int × Int)))])) rfl rfl rfl (ht_cons (v := (Enc.enc (parents_2 : List Int))) rfl rfl rfl ht_nil))) rfl rfl rfl ?_
    refine g_v1 (t := 14) (u := (.tup [(Enc.enc (r_4.1 : List Int)), (.bool r_4.2)])) (.tup [(Enc.enc (r_4.1 : List Int)), (.bool r_4.2)]) rfl rfl rfl ?_
    refine g_v1 (t := 11) (u := (.tup [(Enc.enc (r_4.1 : List Int)), (.bool r_4.2)])) (Enc.enc (r_4.1 : List Int)) rfl rfl rfl ?_
    refine g_v1 (t := 11) (u := (.tup [(Enc.enc (r_4.1 : List Int)), (.bool r_4.2)])) (.bool r_4.2) rfl rfl rfl ?_
    refine g_v1 (t := 15) (u := (Enc.enc (r_4.1 : List Int))) (Enc.enc (r_4.1 : List Int)) rfl rfl rfl ?_
    refine g_v1 (t := 16) (u := (.bool r_4.2)) (.bool r_4.2) rfl rfl rfl ?_
    refine g_end ?_
    refine e_end ?_
    refine renew [(4, (.bool false)), (5, (.bool false)), (7, (.bool r_4.2))] ⟨h4, h5, rfl⟩ ?_
    rintro s ⟨h4, h5, h7⟩
    refine .nsq ?_
    refine .seq ?_
    refine run_reg ?_
    refine e_end ?_
    refine g_v1 (t := 7) (u := (.bool r_4.2)) (.bool r_4.2) h7 rfl rfl ?_
    refine g_v1 (t := 17) (u := (.bool r_4.2)) (.bool r_4.2) rfl rfl rfl ?_
    refine g_v0 (.bool true) rfl rfl ?_
    refine g_end ?_
    refine e_end ?_
    refine renew [(4, (.bool r_4.2)), (5, (.bool true))] ⟨rfl, rfl⟩ ?_
    rintro s ⟨h4, h5⟩
    refine .nsq ?_
    refine .ret ?_
    have hr := Option.some.inj h
    subst hr
    exact rrB (res_tmp h4) (res_tmp h5) rfl
end
def e17 (F : Nat) : Ent := ⟨17, dn2 (i_IsForest F) (fun (r : (Bool × Bool)) => (.tup [Enc.enc (r.1 : Bool), Enc.enc (r.2 : Bool)])), 0, false⟩
theorem o17 {D : Den} {σ : Sig} {F : Nat} (hF : Fits2 Try.prog D σ) (H : H17 D σ F) : (e17 F).Ok Try.prog := by
  refine ⟨fun args r h => ?_, ⟨Try.f17, Try.func17, rfl, rfl⟩⟩
  obtain ⟨x0, x1, y, rfl, hy, rfl⟩ := dn2_open h
  exact contract_run hF (by kernel_rfl) Try.func17 rfl c17 (show 2 ≤ Try.f17.ntmps by decide) (t17 H x0 x1 _ ⟨rfl, rfl⟩ hy)
/- loop.example/g01109/laws.eqIntA2 -/
def A64_2 : AC := (AC.cond (O.t 7) AC.skip (AC.exit 0))
def A64_4 : AC := (AC.cond (O.t 16) (AC.seq (AC.reg [] [(I.mk (some 4) none false (X.v (A.mov (O.k (V.bool false)))))] []) AC.ret) AC.skip)
def A64_5 : AC := (AC.reg [] [(I.mk (some 8) none false (X.v (A.mov (O.t 5)))), (I.mk (some 9) none false (X.v (A.bin BinOp.add (O.t 8) (O.k (V.int IntKind.i64 (Int.ofNat 1)))))), (I.mk (some 5) none false (X.v (A.mov (O.t 9))))] [])
def A64_3 : AC := (AC.seq (AC.block 1 (AC.seq (AC.reg [] [(I.mk (some 10) none false (X.v (A.mov (O.t 5)))), (I.mk (some 11) none false (X.v (A.idxA (O.t 2) (O.t 10) 2 1))), (I.mk (some 12) none false (X.v (A.load Sh.s (O.t 11)))), (I.mk (some 13) none false (X.v (A.mov (O.t 5)))), (I.mk (some 14) none false (X.v (A.idxA (O.t 3) (O.t 13) 2 1))), (I.mk (some 15) none false (X.v (A.load Sh.s (O.t 14)))), (I.mk (some 16) none false (X.v (A.bin BinOp.neq (O.t 12) (O.t 15))))] []) A64_4)) A64_5)
def A64_1 : AC := (AC.seq (AC.seq (AC.reg [] [(I.mk (some 6) none false (X.v (A.mov (O.t 5)))), (I.mk (some 7) none false (X.v (A.bin BinOp.lss (O.t 6) (O.k (V.int IntKind.i64 (Int.ofNat 2))))))] []) A64_2) A64_3)
def A64_6 : AC := (AC.seq (AC.reg [] [(I.mk (some 4) none false (X.v (A.mov (O.k (V.bool true)))))] []) AC.ret)
def A64_8 : AC := (AC.block 0 (AC.loop A64_1))
def A64_7 : AC := (AC.seq (AC.seq (AC.reg [] [(I.mk (some 5) none false (X.v (A.mov (O.k (V.int IntKind.i64 (Int.ofNat 0))))))] []) A64_8) A64_6)
def A64 : AC := (AC.seq (AC.reg [.clr [2, 3]] [(I.mk (some 2) none false (X.box (O.t 0))), (I.mk (some 3) none false (X.box (O.t 1))), (I.mk (some 4) none false (X.v (A.mov (O.k (V.bool false)))))] []) A64_7)
def an64 : List An := [{ id := 0, pre := [.clr [2, 3]], ep := [] }]
theorem c64 : cC Try.prog Try.f64.ntmps an64 (Try.f64.body.getD .skip) = some A64 := by rfl
structure H64 (D : Den) (σ : Sig) (F : Nat) : Prop where
  mk ::
abbrev R64 (r : Bool) : (Nat → V) → Prop := RR Try.prog [.tmp 4] 0 false (Enc.enc (r : Bool))
section
variable {D : Den} {σ : Sig} {F : Nat} {r : Bool}
def w_eqIntA2_l1 (F : Nat) (a_1 : (Int × Int)) (b_2 : (Int × Int))  : Nat → Int → Option Bool
  | 0, _ => none
  | k + 1, i_3 =>
    bif decide (i_3 < 2) then
      (idx [a_1.1, a_1.2] i_3).bind fun e_6 =>
      (idx [b_2.1, b_2.2] i_3).bind fun e_7 =>
      bif (e_6 != e_7) then
        some false
      else
        (w_eqIntA2_l1 F a_1 b_2 k) (w64 (i_3 + 1))
    else
      some true
theorem t_f64_l1 (H : H64 D σ F) (a_1 : (Int × Int)) (b_2 : (Int × Int))  : ∀ (k : Nat) (i_3 : Int) (s : Nat → V), Facts [(2, (.ref (.bx 2) 0 [] (.agg [(.int .i64 a_1.1), (.int .i64 a_1.2)]))), (3, (.ref (.bx 3) 0 [] (.agg [(.int .i64 b_2.1), (.int .i64 b_2.2)]))), (4, (.bool false)), (5, (.int .i64 i_3))] s → w_eqIntA2_l1 F a_1 b_2 k i_3 = some r → Run D σ (R64 r) (.run A64_1 [.lp A64_1, .bk 0, .sq A64_6]) s := by
  intro k
  induction k with
  | zero => intro i_3 s _ h; exact nomatch (h : (none : Option _) = some r)
  | succ k ih =>
    intro i_3 s hs h
    rw [w_eqIntA2_l1] at h
    obtain ⟨h2, h3, h4, h5⟩ := hs
    refine .seq ?_
    refine .seq ?_
    refine run_reg ?_
    refine e_end ?_
    refine g_v1 (t := 5) (u := (.int .i64 i_3)) (.int .i64 i_3) h5 rfl rfl ?_
    refine g_v1 (t := 6) (u := (.int .i64 i_3)) (.bool (decide (i_3 < 2))) rfl rfl rfl ?_
    refine g_end ?_
    refine e_end ?_
    refine renew [(2, (.ref (.bx 2) 0 [] (.agg [(.int .i64 a_1.1), (.int .i64 a_1.2)]))), (3, (.ref (.bx 3) 0 [] (.agg [(.int .i64 b_2.1), (.int .i64 b_2.2)]))), (4, (.bool false)), (5, (.int .i64 i_3)), (7, (.bool (decide (i_3 < 2))))] ⟨h2, h3, h4, h5, rfl⟩ ?_
    rintro s ⟨h2, h3, h4, h5, h7⟩
    refine .nsq ?_
    refine run_cond (t := decide (i_3 < 2)) h7 h (fun h => ?_) (fun h => ?_)
    · refine .skip ?_
      refine .nsq ?_
      refine .seq ?_
      refine .block ?_
      refine .seq ?_
      refine run_reg ?_
      refine e_end ?_
      refine g_v1 (t := 5) (u := (.int .i64 i_3)) (.int .i64 i_3) h5 rfl rfl ?_
      obtain ⟨e_6, E_e_6, h⟩ := bind_some h
      refine g_v (.ref (.bx 2) 0 [i_3.toNat] (.int .i64 e_6)) (ev_idxA (xs := [a_1.1, a_1.2]) (a := e_6) (n := i_3) (q := []) h2 rfl E_e_6 rfl rfl rfl) ?_
      refine g_v1 (t := 11) (u := (.ref (.bx 2) 0 [i_3.toNat] (.int .i64 e_6))) (.int .i64 e_6) rfl rfl rfl ?_
      refine g_v1 (t := 5) (u := (.int .i64 i_3)) (.int .i64 i_3) h5 rfl rfl ?_
      obtain ⟨e_7, E_e_7, h⟩ := bind_some h
      refine g_v (.ref (.bx 3) 0 [i_3.toNat] (.int .i64 e_7)) (ev_idxA (xs := [b_2.1, b_2.2]) (a := e_7) (n := i_3) (q := []) h3 rfl E_e_7 rfl rfl rfl) ?_
      refine g_v1 (t := 14) (u := (.ref (.bx 3) 0 [i_3.toNat] (.int .i64 e_7))) (.int .i64 e_7) rfl rfl rfl ?_
      refine g_v2 (t1 := 12) (t2 := 15) (u1 := (.int .i64 e_6)) (u2 := (.int .i64 e_7)) (.bool (e_6 != e_7)) rfl rfl rfl rfl ?_
      refine g_end ?_
      refine e_end ?_
      refine renew [(2, (.ref (.bx 2) 0 [] (.agg [(.int .i64 a_1.1), (.int .i64 a_1.2)]))), (3, (.ref (.bx 3) 0 [] (.agg [(.int .i64 b_2.1), (.int .i64 b_2.2)]))), (4, (.bool false)), (5, (.int .i64 i_3)), (16, (.bool (e_6 != e_7)))] ⟨h2, h3, h4, h5, rfl⟩ ?_
      rintro s ⟨h2, h3, h4, h5, h16⟩
      refine .nsq ?_
      refine run_cond (t := (e_6 != e_7)) h16 h (fun h => ?_) (fun h => ?_)
      · refine .seq ?_
        refine run_reg ?_
        refine e_end ?_
        refine g_v0 (.bool false) rfl rfl ?_
        refine g_end ?_
        refine e_end ?_
        refine renew [(2, (.ref (.bx 2) 0 [] (.agg [(.int .i64 a_1.1), (.int .i64 a_1.2)]))), (3, (.ref (.bx 3) 0 [] (.agg [(.int .i64 b_2.1), (.int .i64 b_2.2)]))), (4, (.bool false)), (5, (.int .i64 i_3))] ⟨h2, h3, rfl, h5⟩ ?_
        rintro s ⟨h2, h3, h4, h5⟩
        refine .nsq ?_
        refine .ret ?_
        have hr := Option.some.inj h
        subst hr
        exact rrA (res_tmp h4) rfl
      · refine .skip ?_
        refine .nbk ?_
        refine .nsq ?_
        refine run_reg ?_
        refine e_end ?_
        refine g_v1 (t := 5) (u := (.int .i64 i_3)) (.int .i64 i_3) h5 rfl rfl ?_
        refine g_v1 (t := 8) (u := (.int .i64 i_3)) (.int .i64 (w64 (i_3 + 1))) rfl rfl rfl ?_
        refine g_v1 (t := 9) (u := (.int .i64 (w64 (i_3 + 1)))) (.int .i64 (w64 (i_3 + 1))) rfl rfl rfl ?_
        refine g_end ?_
        refine e_end ?_
        refine renew [(2, (.ref (.bx 2) 0 [] (.agg [(.int .i64 a_1.1), (.int .i64 a_1.2)]))), (3, (.ref (.bx 3) 0 [] (.agg [(.int .i64 b_2.1), (.int .i64 b_2.2)]))), (4, (.bool false)), (5, (.int .i64 (w64 (i_3 + 1))))] ⟨h2, h3, h4, rfl⟩ ?_
        rintro s ⟨h2, h3, h4, h5⟩
        refine .nlp ?_
        exact ih (w64 (i_3 + 1)) _ ⟨h2, h3, h4, h5⟩ h
    · refine .exit ?_
      refine .esq ?_
      refine .elp ?_
      refine .ebk ?_
      refine .nsq ?_
      refine .seq ?_
      refine run_reg ?_
      refine e_end ?_
      refine g_v0 (.bool true) rfl rfl ?_
      refine g_end ?_
      refine e_end ?_
      refine renew [(4, (.bool true))] rfl ?_
      rintro s h4
      refine .nsq ?_
      refine .ret ?_
      have hr := Option.some.inj h
      subst hr
      exact rrA (res_tmp h4) rfl
def w_eqIntA2 (F : Nat) (a_1 : (Int × Int)) (b_2 : (Int × Int)) : Option Bool :=
  w_eqIntA2_l1 F a_1 b_2 F 0
theorem t64 (H : H64 D σ F) (a_1 : (Int × Int)) (b_2 : (Int × Int)) (s : Nat → V) (hs : Facts [(0, (.agg [(.int .i64 a_1.1), (.int .i64 a_1.2)])), (1, (.agg [(.int .i64 b_2.1), (.int .i64 b_2.2)]))] s) (h : w_eqIntA2 F a_1 b_2 = some r) : Run D σ (R64 r) (.run A64 []) s := by
  unfold w_eqIntA2 at h
  obtain ⟨h0, h1⟩ := hs
  refine .seq ?_
  refine run_reg ?_
  refine e_clr ?_
  refine e_end ?_
  refine g_box (.agg [(.int .i64 a_1.1), (.int .i64 a_1.2)]) (rd_of (keep_clear (s := s) (pk := [2, 3]) h0 rfl (map_agg (maps_cons rfl (maps_cons rfl maps_nil)))) rfl) (gone_clear (s := s) (pk := [2, 3]) (t := 2) rfl) rfl ?_
  refine g_box (.agg [(.int .i64 b_2.1), (.int .i64 b_2.2)]) (rd_of (keep_clear (s := s) (pk := [2, 3]) h1 rfl (map_agg (maps_cons rfl (maps_cons rfl maps_nil)))) rfl) (gone_clear (s := s) (pk := [2, 3]) (t := 3) rfl) rfl ?_
  refine g_v0 (.bool false) rfl rfl ?_
  refine g_end ?_
  refine e_end ?_
  refine renew [(2, (.ref (.bx 2) 0 [] (.agg [(.int .i64 a_1.1), (.int .i64 a_1.2)]))), (3, (.ref (.bx 3) 0 [] (.agg [(.int .i64 b_2.1), (.int .i64 b_2.2)]))), (4, (.bool false))] ⟨rfl, rfl, rfl⟩ ?_
  rintro s ⟨h2, h3, h4⟩
  refine .nsq ?_
  refine .seq ?_
  refine .seq ?_
  refine run_reg ?_
  refine e_end ?_
  refine g_v0 (.int .i64 0) rfl rfl ?_
  refine g_end ?_
  refine e_end ?_
  refine renew [(2, (.ref (.bx 2) 0 [] (.agg [(.int .i64 a_1.1), (.int .i64 a_1.2)]))), (3, (.ref (.bx 3) 0 [] (.agg [(.int .i64 b_2.1), (.int .i64 b_2.2)]))), (4, (.bool false)), (5, (.int .i64 0))] ⟨h2, h3, h4, rfl⟩ ?_
  rintro s ⟨h2, h3, h4, h5⟩
  refine .nsq ?_
  refine .block ?_
  refine .loop ?_
  exact t_f64_l1 H a_1 b_2 F 0 _ ⟨h2, h3, h4, h5⟩ h
end
def e64 (F : Nat) : Ent := ⟨64, dn2 (w_eqIntA2 F) (fun (r : Bool) => (Enc.enc (r : Bool))), 0, false⟩
theorem o64 {D : Den} {σ : Sig} {F : Nat} (hF : Fits2 Try.prog D σ) (H : H64 D σ F) : (e64 F).Ok Try.prog := by
  refine ⟨fun args r h => ?_, ⟨Try.f64, Try.func64, rfl, rfl⟩⟩
  obtain ⟨x0, x1, y, rfl, hy, rfl⟩ := dn2_open h
  exact contract_run hF (by kernel_rfl) Try.func64 rfl c64 (show 2 ≤ Try.f64.ntmps by decide) (t64 H x0 x1 _ ⟨rfl, rfl⟩ hy)
/- loop.example/g01109/laws.eqIntA2S -/
def A35_2 : AC := (AC.cond (O.t 14) AC.skip (AC.exit 0))
def A35_4 : AC := (AC.cond (O.t 26) (AC.seq (AC.reg [] [(I.mk (some 4) none false (X.v (A.mov (O.k (V.bool false)))))] []) AC.ret) AC.skip)
def A35_5 : AC := (AC.reg [] [(I.mk (some 15) none false (X.v (A.mov (O.t 5)))), (I.mk (some 16) none false (X.v (A.bin BinOp.add (O.t 15) (O.k (V.int IntKind.i64 (Int.ofNat 1)))))), (I.mk (some 5) none false (X.v (A.mov (O.t 16))))] [])
def A35_3 : AC := (AC.seq (AC.block 1 (AC.seq (AC.reg [] [(I.mk (some 17) none false (X.v (A.mov (O.t 0)))), (I.mk (some 18) none false (X.v (A.mov (O.t 5)))), (I.mk (some 19) none false (X.v (A.idx (O.t 17) (O.t 18) 2))), (I.mk (some 20) none false (X.v (A.load (Sh.ag [Sh.s, Sh.s]) (O.t 19)))), (I.mk (some 21) none false (X.v (A.mov (O.t 1)))), (I.mk (some 22) none false (X.v (A.mov (O.t 5)))), (I.mk (some 23) none false (X.v (A.idx (O.t 21) (O.t 22) 2))), (I.mk (some 24) none false (X.v (A.load (Sh.ag [Sh.s, Sh.s]) (O.t 23)))), (I.mk (some 25) none false (X.call (O.k (V.fn 64 [] [])) [(O.t 20), (O.t 24)])), (I.mk (some 26) none false (X.v (A.un UnOp.not (O.t 25))))] []) A35_4)) A35_5)
def A35_1 : AC := (AC.seq (AC.seq (AC.reg [] [(I.mk (some 11) none false (X.v (A.mov (O.t 5)))), (I.mk (some 12) none false (X.v (A.mov (O.t 0)))), (I.mk (some 13) none false (X.v (A.len (O.t 12)))), (I.mk (some 14) none false (X.v (A.bin BinOp.lss (O.t 11) (O.t 13))))] []) A35_2) A35_3)
def A35_6 : AC := (AC.seq (AC.reg [] [(I.mk (some 4) none false (X.v (A.mov (O.k (V.bool true)))))] []) AC.ret)
def A35_8 : AC := (AC.cond (O.t 10) (AC.seq (AC.reg [] [(I.mk (some 4) none false (X.v (A.mov (O.k (V.bool false)))))] []) AC.ret) AC.skip)
def A35_10 : AC := (AC.block 0 (AC.loop A35_1))
def A35_9 : AC := (AC.seq (AC.seq (AC.reg [] [(I.mk (some 5) none false (X.v (A.mov (O.k (V.int IntKind.i64 (Int.ofNat 0))))))] []) A35_10) A35_6)
def A35_7 : AC := (AC.seq (AC.seq (AC.reg [] [(I.mk (some 6) none false (X.v (A.mov (O.t 0)))), (I.mk (some 7) none false (X.v (A.len (O.t 6)))), (I.mk (some 8) none false (X.v (A.mov (O.t 1)))), (I.mk (some 9) none false (X.v (A.len (O.t 8)))), (I.mk (some 10) none false (X.v (A.bin BinOp.neq (O.t 7) (O.t 9))))] []) A35_8) A35_9)
def A35 : AC := (AC.seq (AC.reg [] [(I.mk (some 4) none false (X.v (A.mov (O.k (V.bool false)))))] []) A35_7)
def an35 : List An := []
theorem c35 : cC Try.prog Try.f35.ntmps an35 (Try.f35.body.getD .skip) = some A35 := by rfl
structure H35 (D : Den) (σ : Sig) (F : Nat) : Prop where
  c64 : ∀ x0 x1 r, w_eqIntA2 F x0 x1 = some r → D 64 [Enc.enc x0, Enc.enc x1] = some (Enc.enc (r : Bool))
  g64 : σ 64 = some (0, false)
abbrev R35 (r : Bool) : (Nat → V) → Prop := RR Try.prog [.tmp 4] 0 false (Enc.enc (r : Bool))
section
variable {D : Den} {σ : Sig} {F : Nat} {r : Bool}
def w_eqIntA2S_l1 (F : Nat) (a_1 : (List (Int × Int))) (b_2 : (List (Int × Int)))  : Nat → Int → Option Bool
  | 0, _ => none
  | k + 1, i_6 =>
    bif decide (i_6 < (a_1.length : Int)) then
      (idx a_1 i_6).bind fun e_10 =>
      (idx b_2 i_6).bind fun e_11 =>
      (w_eqIntA2 F e_10 e_11).bind fun r_12 =>
      bif (!r_12) then
        some false
      else
        (w_eqIntA2S_l1 F a_1 b_2 k) (w64 (i_6 + 1))
    else
      some true
theorem t_f35_l1 (H : H35 D σ F) (a_1 : (List (Int × Int))) (b_2 : (List (Int × Int)))  : ∀ (k : Nat) (i_6 : Int) (s : Nat → V), Facts [(0, (Enc.enc (a_1 : List (Int × Int)))), (1, (Enc.enc (b_2 : List (Int × Int)))), (4, (.bool false)), (5, (.int .i64 i_6))] s → w_eqIntA2S_l1 F a_1 b_2 k i_6 = some r → Run D σ (R35 r) (.run A35_1 [.lp A35_1, .bk 0, .sq A35_6]) s := by
  intro k
  induction k with
  | zero => intro i_6 s _ h; exact nomatch (h : (none : Option _) = some r)
  | succ k ih =>
    intro i_6 s hs h
    rw [w_eqIntA2S_l1] at h
    obtain ⟨h0, h1, h4, h5⟩ := hs
    refine .seq ?_
    refine .seq ?_
    refine run_reg ?_
    refine e_end ?_
    refine g_v1 (t := 5) (u := (.int .i64 i_6)) (.int .i64 i_6) h5 rfl rfl ?_
    refine g_v1 (t := 0) (u := (Enc.enc (a_1 : List (Int × Int)))) (Enc.enc (a_1 : List (Int × Int))) h0 rfl rfl ?_
    refine g_v (.int .i64 (a_1.length : Int)) (ev_len (xs := a_1) rfl) ?_
    refine g_v2 (t1 := 11) (t2 := 13) (u1 := (.int .i64 i_6)) (u2 := (.int .i64 (a_1.length : Int))) (.bool (decide (i_6 < (a_1.length : Int)))) rfl rfl rfl rfl ?_
    refine g_end ?_
    refine e_end ?_
    refine renew [(0, (Enc.enc (a_1 : List (Int × Int)))), (1, (Enc.enc (b_2 : List (Int × Int)))), (4, (.bool false)), (5, (.int .i64 i_6)), (14, (.bool (decide (i_6 < (a_1.length : Int)))))] ⟨h0, h1, h4, h5, rfl⟩ ?_
    rintro s ⟨h0, h1, h4, h5, h14⟩
    refine .nsq ?_
    refine run_cond (t := decide (i_6 < (a_1.length : Int))) h14 h (fun h => ?_) (fun h => ?_)
    · refine .skip ?_
      refine .nsq ?_
      refine .seq ?_
      refine .block ?_
      refine .seq ?_
      refine run_reg ?_
      refine e_end ?_
      refine g_v1 (t := 0) (u := (Enc.enc (a_1 : List (Int × Int)))) (Enc.enc (a_1 : List (Int × Int))) h0 rfl rfl ?_
      refine g_v1 (t := 5) (u := (.int .i64 i_6)) (.int .i64 i_6) h5 rfl rfl ?_
      obtain ⟨e_10, E_e_10, h⟩ := bind_some h
      refine g_v (.ref .sh 0 [] (.agg [(.int .i64 e_10.1), (.int .i64 e_10.2)])) (ev_idx (t := .sh) (lo := 0) (xs := a_1) rfl rfl E_e_10 rfl rfl) ?_
      refine g_v1 (t := 19) (u := (.ref .sh 0 [] (.agg [(.int .i64 e_10.1), (.int .i64 e_10.2)]))) (.agg [(.int .i64 e_10.1), (.int .i64 e_10.2)]) rfl rfl rfl ?_
      refine g_v1 (t := 1) (u := (Enc.enc (b_2 : List (Int × Int)))) (Enc.enc (b_2 : List (Int × Int))) h1 rfl rfl ?_
      refine g_v1 (t := 5) (u := (.int .i64 i_6)) (.int .i64 i_6) h5 rfl rfl ?_
      obtain ⟨e_11, E_e_11, h⟩ := bind_some h
      refine g_v (.ref .sh 0 [] (.agg [(.int .i64 e_11.1), (.int .i64 e_11.2)])) (ev_idx (t := .sh) (lo := 0) (xs := b_2) rfl rfl E_e_11 rfl rfl) ?_
      refine g_v1 (t := 23) (u := (.ref .sh 0 [] (.agg [(.int .i64 e_11.1), (.int .i64 e_11.2)]))) (.agg [(.int .i64 e_11.1), (.int .i64 e_11.2)]) rfl rfl rfl ?_
      obtain ⟨r_12, E_r_12, h⟩ := bind_some h
      refine g_call (m := 0) (al := false) (r := (Enc.enc (r_12 : Bool))) [Enc.enc (e_10 : (Int × Int)), Enc.enc (e_11 : (Int × Int))] (ta_cons (v := (.agg [(.int .i64 e_10.1), (.int .i64 e_10.2)])) rfl rfl (Enc.erase_enc (e_10 : (Int × Int))) (ta_cons (v := (.agg [(.int .i64 e_11.1), (.int .i64 e_11.2)])) rfl rfl (Enc.erase_enc (e_11 : (Int × Int))) ta_nil)) (H.c64 _ _ _ E_r_12) H.g64 rfl rfl rfl rfl ?_
      refine g_v1 (t := 25) (u := (.bool r_12)) (.bool (!r_12)) rfl rfl rfl ?_
      refine g_end ?_
      refine e_end ?_
      refine renew [(0, (Enc.enc (a_1 : List (Int × Int)))), (1, (Enc.enc (b_2 : List (Int × Int)))), (4, (.bool false)), (5, (.int .i64 i_6)), (26, (.bool (!r_12)))] ⟨h0, h1, h4, h5, rfl⟩ ?_
      rintro s ⟨h0, h1, h4, h5, h26⟩
      refine .nsq ?_
      refine run_cond (t := (!r_12)) h26 h (fun h => ?_) (fun h => ?_)
      · refine .seq ?_
        refine run_reg ?_
        refine e_end ?_
        refine g_v0 (.bool false) rfl rfl ?_
        refine g_end ?_
        refine e_end ?_
        refine renew [(0, (Enc.enc (a_1 : List (Int × Int)))), (1, (Enc.enc (b_2 : List (Int × Int)))), (4, (.bool false)), (5, (.int .i64 i_6))] ⟨h0, h1, rfl, h5⟩ ?_
        rintro s ⟨h0, h1, h4, h5⟩
        refine .nsq ?_
        refine .ret ?_
        have hr := Option.some.inj h
        subst hr
        exact rrA (res_tmp h4) rfl
      · refine .skip ?_
        refine .nbk ?_
        refine .nsq ?_
        refine run_reg ?_
        refine e_end ?_
        refine g_v1 (t := 5) (u := (.int .i64 i_6)) (.int .i64 i_6) h5 rfl rfl ?_
        refine g_v1 (t := 15) (u := (.int .i64 i_6)) (.int .i64 (w64 (i_6 + 1))) rfl rfl rfl ?_
        refine g_v1 (t := 16) (u := (.int .i64 (w64 (i_6 + 1)))) (.int .i64 (w64 (i_6 + 1))) rfl rfl rfl ?_
        refine g_end ?_
        refine e_end ?_
        refine renew [(0, (Enc.enc (a_1 : List (Int × Int)))), (1, (Enc.enc (b_2 : List (Int × Int)))), (4, (.bool false)), (5, (.int .i64 (w64 (i_6 + 1))))] ⟨h0, h1, h4, rfl⟩ ?_
        rintro s ⟨h0, h1, h4, h5⟩
        refine .nlp ?_
        exact ih (w64 (i_6 + 1)) _ ⟨h0, h1, h4, h5⟩ h
    · refine .exit ?_
      refine .esq ?_
      refine .elp ?_
      refine .ebk ?_
      refine .nsq ?_
      refine .seq ?_
      refine run_reg ?_
      refine e_end ?_
      refine g_v0 (.bool true) rfl rfl ?_
      refine g_end ?_
      refine e_end ?_
      refine renew [(4, (.bool true))] rfl ?_
      rintro s h4
      refine .nsq ?_
      refine .ret ?_
      have hr := Option.some.inj h
      subst hr
      exact rrA (res_tmp h4) rfl
def w_eqIntA2S (F : Nat) (a_1 : (List (Int × Int))) (b_2 : (List (Int × Int))) : Option Bool :=
  bif ((a_1.length : Int) != (b_2.length : Int)) then
    some false
  else
    w_eqIntA2S_l1 F a_1 b_2 F 0
theorem t35 (H : H35 D σ F) (a_1 : (List (Int × Int))) (b_2 : (List (Int × Int))) (s : Nat → V) (hs : Facts [(0, (Enc.enc (a_1 : List (Int × Int)))), (1, (Enc.enc (b_2 : List (Int × Int))))] s) (h : w_eqIntA2S F a_1 b_2 = some r) : Run D σ (R35 r) (.run A35 []) s := by
  unfold w_eqIntA2S at h
  obtain ⟨h0, h1⟩ := hs
  refine .seq ?_
  refine run_reg ?_
  refine e_end ?_
  refine g_v0 (.bool false) rfl rfl ?_
  refine g_end ?_
  refine e_end ?_
  refine renew [(0, (Enc.enc (a_1 : List (Int × Int)))), (1, (Enc.enc (b_2 : List (Int × Int)))), (4, (.bool false))] ⟨h0, h1, rfl⟩ ?_
  rintro s ⟨h0, h1, h4⟩
  refine .nsq ?_
  refine .seq ?_
  refine .seq ?_
  refine run_reg ?_
  refine e_end ?_
  refine g_v1 (t := 0) (u := (Enc.enc (a_1 : List (Int × Int)))) (Enc.enc (a_1 : List (Int × Int))) h0 rfl rfl ?_
  refine g_v (.int .i64 (a_1.length : Int)) (ev_len (xs := a_1) rfl) ?_
  refine g_v1 (t := 1) (u := (Enc.enc (b_2 : List (Int × Int)))) (Enc.enc (b_2 : List (Int × Int))) h1 rfl rfl ?_
  refine g_v (.int .i64 (b_2.length : Int)) (ev_len (xs := b_2) rfl) ?_
  refine g_v2 (t1 := 7) (t2 := 9) (u1 := (.int .i64 (a_1.length : Int))) (u2 := (.int .i64 (b_2.length : Int))) (.bool ((a_1.length : Int) != (b_2.length : Int))) rfl rfl rfl rfl ?_
  refine g_end ?_
  refine e_end ?_
  refine renew [(0, (Enc.enc (a_1 : List (Int × Int)))), (1, (Enc.enc (b_2 : List (Int × Int)))), (4, (.bool false)), (10, (.bool ((a_1.length : Int) != (b_2.length : Int))))] ⟨h0, h1, h4, rfl⟩ ?_
  rintro s ⟨h0, h1, h4, h10⟩
  refine .nsq ?_
  refine run_cond (t := ((a_1.length : Int) != (b_2.length : Int))) h10 h (fun h => ?_) (fun h => ?_)
  · refine .seq ?_
    refine run_reg ?_
    refine e_end ?_
    refine g_v0 (.bool false) rfl rfl ?_
    refine g_end ?_
    refine e_end ?_
    refine renew [(0, (Enc.enc (a_1 : List (Int × Int)))), (1, (Enc.enc (b_2 : List (Int × Int)))), (4, (.bool false))] ⟨h0, h1, rfl⟩ ?_
    rintro s ⟨h0, h1, h4⟩
    refine .nsq ?_
    refine .ret ?_
    have hr := Option.some.inj h
    subst hr
    exact rrA (res_tmp h4) rfl
  · refine .skip ?_
    refine .nsq ?_
    refine .seq ?_
    refine .seq ?_
    refine run_reg ?_
    refine e_end ?_
    refine g_v0 (.int .i64 0) rfl rfl ?_
    refine g_end ?_
    refine e_end ?_
    refine renew [(0, (Enc.enc (a_1 : List (Int × Int)))), (1, (Enc.enc (b_2 : List (Int × Int)))), (4, (.bool false)), (5, (.int .i64 0))] ⟨h0, h1, h4, rfl⟩ ?_
    rintro s ⟨h0, h1, h4, h5⟩
    refine .nsq ?_
    refine .block ?_
    refine .loop ?_
    exact t_f35_l1 H a_1 b_2 F 0 _ ⟨h0, h1, h4, h5⟩ h
end
def e35 (F : Nat) : Ent := ⟨35, dn2 (w_eqIntA2S F) (fun (r : Bool) => (Enc.enc (r : Bool))), 0, false⟩
theorem o35 {D : Den} {σ : Sig} {F : Nat} (hF : Fits2 Try.prog D σ) (H : H35 D σ F) : (e35 F).Ok Try.prog := by
  refine ⟨fun args r h => ?_, ⟨Try.f35, Try.func35, rfl, rfl⟩⟩
  obtain ⟨x0, x1, y, rfl, hy, rfl⟩ := dn2_open h
  exact contract_run hF (by kernel_rfl) Try.func35 rfl c35 (show 2 ≤ Try.f35.ntmps by decide) (t35 H x0 x1 _ ⟨rfl, rfl⟩ hy)
/- loop.example/g01109/laws.eqGraph -/
def A14_2 : AC := (AC.cond (O.t 9) (AC.seq (AC.reg [] [(I.mk (some 4) none false (X.v (A.mov (O.k (V.bool false)))))] []) AC.ret) AC.skip)
def A14_4 : AC := (AC.cond (O.t 15) (AC.seq (AC.reg [] [(I.mk (some 4) none false (X.v (A.mov (O.k (V.bool false)))))] []) AC.ret) AC.skip)
def A14_5 : AC := (AC.seq (AC.reg [] [(I.mk (some 4) none false (X.v (A.mov (O.k (V.bool true)))))] []) AC.ret)
def A14_3 : AC := (AC.seq (AC.seq (AC.reg [] [(I.mk (some 10) none false (X.v (A.fld (O.t 2) 1 1))), (I.mk (some 11) none false (X.v (A.load Sh.p (O.t 10)))), (I.mk (some 12) none false (X.v (A.fld (O.t 3) 1 1))), (I.mk (some 13) none false (X.v (A.load Sh.p (O.t 12)))), (I.mk (some 14) none false (X.call (O.k (V.fn 35 [] [])) [(O.t 11), (O.t 13)])), (I.mk (some 15) none false (X.v (A.un UnOp.not (O.t 14))))] []) A14_4) A14_5)
def A14_1 : AC := (AC.seq (AC.seq (AC.reg [] [(I.mk (some 5) none false (X.v (A.fld (O.t 2) 0 0))), (I.mk (some 6) none false (X.v (A.load Sh.s (O.t 5)))), (I.mk (some 7) none false (X.v (A.fld (O.t 3) 0 0))), (I.mk (some 8) none false (X.v (A.load Sh.s (O.t 7)))), (I.mk (some 9) none false (X.v (A.bin BinOp.neq (O.t 6) (O.t 8))))] []) A14_2) A14_3)
def A14 : AC := (AC.seq (AC.reg [.clr [2, 3]] [(I.mk (some 2) none false (X.box (O.t 0))), (I.mk (some 3) none false (X.box (O.t 1))), (I.mk (some 4) none false (X.v (A.mov (O.k (V.bool false)))))] []) A14_1)
def an14 : List An := [{ id := 0, pre := [.clr [2, 3]], ep := [] }]
theorem c14 : cC Try.prog Try.f14.ntmps an14 (Try.f14.body.getD .skip) = some A14 := by rfl
structure H14 (D : Den) (σ : Sig) (F : Nat) : Prop where
  c35 : ∀ x0 x1 r, w_eqIntA2S F x0 x1 = some r → D 35 [Enc.enc x0, Enc.enc x1] = some (Enc.enc (r : Bool))
  g35 : σ 35 = some (0, false)
abbrev R14 (r : Bool) : (Nat → V) → Prop := RR Try.prog [.tmp 4] 0 false (Enc.enc (r : Bool))
section
variable {D : Den} {σ : Sig} {F : Nat} {r : Bool}
def w_eqGraph (F : Nat) (a_1 : (Int × (List (Int × Int)))) (b_2 : (Int × (List (Int × Int)))) : Option Bool :=
  bif (a_1.1 != b_2.1) then
    some false
  else
    (w_eqIntA2S F a_1.2 b_2.2).bind fun r_3 =>
    bif (!r_3) then
      some false
    else
      some true
theorem t14 (H : H14 D σ F) (a_1 : (Int × (List (Int × Int)))) (b_2 : (Int × (List (Int × Int)))) (s : Nat → V) (hs : Facts [(0, (.agg [(.int .i64 a_1.1), (Enc.enc (a_1.2 : List (Int × Int)))])), (1, (.agg [(.int .i64 b_2.1), (Enc.enc (b_2.2 : List (Int × Int)))]))] s) (h : w_eqGraph F a_1 b_2 = some r) : Run D σ (R14 r) (.run A14 []) s := by
  unfold w_eqGraph at h
  obtain ⟨h0, h1⟩ := hs
  refine .seq ?_
  refine run_reg ?_
  refine e_clr ?_
  refine e_end ?_
  refine g_box (.agg [(.int .i64 a_1.1), (Enc.enc (a_1.2 : List (Int × Int)))]) (rd_of (keep_clear (s := s) (pk := [2, 3]) h0 rfl (map_agg (maps_cons rfl (maps_cons (Enc.map_enc _ (a_1.2 : List (Int × Int))) maps_nil)))) rfl) (gone_clear (s := s) (pk := [2, 3]) (t := 2) rfl) rfl ?_
  refine g_box (.agg [(.int .i64 b_2.1), (Enc.enc (b_2.2 : List (Int × Int)))]) (rd_of (keep_clear (s := s) (pk := [2, 3]) h1 rfl (map_agg (maps_cons rfl (maps_cons (Enc.map_enc _ (b_2.2 : List (Int × Int))) maps_nil)))) rfl) (gone_clear (s := s) (pk := [2, 3]) (t := 3) rfl) rfl ?_
  refine g_v0 (.bool false) rfl rfl ?_
  refine g_end ?_
  refine e_end ?_
  refine renew [(2, (.ref (.bx 2) 0 [] (.agg [(.int .i64 a_1.1), (Enc.enc (a_1.2 : List (Int × Int)))]))), (3, (.ref (.bx 3) 0 [] (.agg [(.int .i64 b_2.1), (Enc.enc (b_2.2 : List (Int × Int)))]))), (4, (.bool false))] ⟨rfl, rfl, rfl⟩ ?_
  rintro s ⟨h2, h3, h4⟩
  refine .nsq ?_
  refine .seq ?_
  refine .seq ?_
  refine run_reg ?_
  refine e_end ?_
  refine g_v1 (t := 2) (u := (.ref (.bx 2) 0 [] (.agg [(.int .i64 a_1.1), (Enc.enc (a_1.2 : List (Int × Int)))]))) (.ref (.bx 2) 0 [0] (.int .i64 a_1.1)) h2 rfl rfl ?_
  refine g_v1 (t := 5) (u := (.ref (.bx 2) 0 [0] (.int .i64 a_1.1))) (.int .i64 a_1.1) rfl rfl rfl ?_
  refine g_v1 (t := 3) (u := (.ref (.bx 3) 0 [] (.agg [(.int .i64 b_2.1), (Enc.enc (b_2.2 : List (Int × Int)))]))) (.ref (.bx 3) 0 [0] (.int .i64 b_2.1)) h3 rfl rfl ?_
  refine g_v1 (t := 7) (u := (.ref (.bx 3) 0 [0] (.int .i64 b_2.1))) (.int .i64 b_2.1) rfl rfl rfl ?_
  refine g_v2 (t1 := 6) (t2 := 8) (u1 := (.int .i64 a_1.1)) (u2 := (.int .i64 b_2.1)) (.bool (a_1.1 != b_2.1)) rfl rfl rfl rfl ?_
  refine g_end ?_
  refine e_end ?_
  refine renew [(2, (.ref (.bx 2) 0 [] (.agg [(.int .i64 a_1.1), (Enc.enc (a_1.2 : List (Int × Int)))]))), (3, (.ref (.bx 3) 0 [] (.agg [(.int .i64 b_2.1), (Enc.enc (b_2.2 : List (Int × Int)))]))), (4, (.bool false)), (9, (.bool (a_1.1 != b_2.1)))] ⟨h2, h3, h4, rfl⟩ ?_
  rintro s ⟨h2, h3, h4, h9⟩
  refine .nsq ?_
  refine run_cond (t := (a_1.1 != b_2.1)) h9 h (fun h => ?_) (fun h => ?_)
  · refine .seq ?_
    refine run_reg ?_
    refine e_end ?_
    refine g_v0 (.bool false) rfl rfl ?_
    refine g_end ?_
    refine e_end ?_
    refine renew [(2, (.ref (.bx 2) 0 [] (.agg [(.int .i64 a_1.1), (Enc.enc (a_1.2 : List (Int × Int)))]))), (3, (.ref (.bx 3) 0 [] (.agg [(.int .i64 b_2.1), (Enc.enc (b_2.2 : List (Int × Int)))]))), (4, (.bool false))] ⟨h2, h3, rfl⟩ ?_
    rintro s ⟨h2, h3, h4⟩
    refine .nsq ?_
    refine .ret ?_
    have hr := Option.some.inj h
    subst hr
    exact rrA (res_tmp h4) rfl
  · refine .skip ?_
    refine .nsq ?_
    refine .seq ?_
    refine .seq ?_
    refine run_reg ?_
    refine e_end ?_
    refine g_v1 (t := 2) (u := (.ref (.bx 2) 0 [] (.agg [(.int .i64 a_1.1), (Enc.enc (a_1.2 : List (Int × Int)))]))) (.ref (.bx 2) 0 [1] (Enc.enc (a_1.2 : List (Int × Int)))) h2 rfl rfl ?_
    refine g_v1 (t := 10) (u := (.ref (.bx 2) 0 [1] (Enc.enc (a_1.2 : List (Int × Int))))) (Enc.enc (a_1.2 : List (Int × Int))) rfl rfl rfl ?_
    refine g_v1 (t := 3) (u := (.ref (.bx 3) 0 [] (.agg [(.int .i64 b_2.1), (Enc.enc (b_2.2 : List (Int × Int)))]))) (.ref (.bx 3) 0 [1] (Enc.enc (b_2.2 : List (Int × Int)))) h3 rfl rfl ?_
    refine g_v1 (t := 12) (u := (.ref (.bx 3) 0 [1] (Enc.enc (b_2.2 : List (Int × Int))))) (Enc.enc (b_2.2 : List (Int × Int))) rfl rfl rfl ?_
    obtain ⟨r_3, E_r_3, h⟩ := bind_some h
    refine g_call (m := 0) (al := false) (r := (Enc.enc (r_3 : Bool))) [Enc.enc (a_1.2 : (List (Int × Int))), Enc.enc (b_2.2 : (List (Int × Int)))] (ta_cons (v := (Enc.enc (a_1.2 : List (Int × Int)))) rfl rfl (Enc.erase_enc (a_1.2 : (List (Int × Int)))) (ta_cons (v := (Enc.enc (b_2.2 : List (Int × Int)))) rfl rfl (Enc.erase_enc (b_2.2 : (List (Int × Int)))) ta_nil)) (H.c35 _ _ _ E_r_3) H.g35 rfl rfl rfl rfl ?_
    refine g_v1 (t := 14) (u := (.bool r_3)) (.bool (!r_3)) rfl rfl rfl ?_
    refine g_end ?_
    refine e_end ?_
    refine renew [(4, (.bool false)), (15, (.bool (!r_3)))] ⟨h4, rfl⟩ ?_
    rintro s ⟨h4, h15⟩
    refine .nsq ?_
    refine run_cond (t := (!r_3)) h15 h (fun h => ?_) (fun h => ?_)
    · refine .seq ?_
      refine run_reg ?_
      refine e_end ?_
      refine g_v0 (.bool false) rfl rfl ?_
      refine g_end ?_
      refine e_end ?_
      refine renew [(4, (.bool false))] rfl ?_
      rintro s h4
      refine .nsq ?_
      refine .ret ?_
      have hr := Option.some.inj h
      subst hr
      exact rrA (res_tmp h4) rfl
    · refine .skip ?_
      refine .nsq ?_
      refine .seq ?_
      refine run_reg ?_
      refine e_end ?_
      refine g_v0 (.bool true) rfl rfl ?_
      refine g_end ?_
      refine e_end ?_
      refine renew [(4, (.bool true))] rfl ?_
      rintro s h4
      refine .nsq ?_
      refine .ret ?_
      have hr := Option.some.inj h
      subst hr
      exact rrA (res_tmp h4) rfl
end
def e14 (F : Nat) : Ent := ⟨14, dn2 (w_eqGraph F) (fun (r : Bool) => (Enc.enc (r : Bool))), 0, false⟩
theorem o14 {D : Den} {σ : Sig} {F : Nat} (hF : Fits2 Try.prog D σ) (H : H14 D σ F) : (e14 F).Ok Try.prog := by
  refine ⟨fun args r h => ?_, ⟨Try.f14, Try.func14, rfl, rfl⟩⟩
  obtain ⟨x0, x1, y, rfl, hy, rfl⟩ := dn2_open h
  exact contract_run hF (by kernel_rfl) Try.func14 rfl c14 (show 2 ≤ Try.f14.ntmps by decide) (t14 H x0 x1 _ ⟨rfl, rfl⟩ hy)
/- loop.example/g01109/laws.eqIntS -/
def A15_2 : AC := (AC.cond (O.t 14) AC.skip (AC.exit 0))
def A15_4 : AC := (AC.cond (O.t 25) (AC.seq (AC.reg [] [(I.mk (some 4) none false (X.v (A.mov (O.k (V.bool false)))))] []) AC.ret) AC.skip)
def A15_5 : AC := (AC.reg [] [(I.mk (some 15) none false (X.v (A.mov (O.t 5)))), (I.mk (some 16) none false (X.v (A.bin BinOp.add (O.t 15) (O.k (V.int IntKind.i64 (Int.ofNat 1)))))), (I.mk (some 5) none false (X.v (A.mov (O.t 16))))] [])
def A15_3 : AC := (AC.seq (AC.block 1 (AC.seq (AC.reg [] [(I.mk (some 17) none false (X.v (A.mov (O.t 0)))), (I.mk (some 18) none false (X.v (A.mov (O.t 5)))), (I.mk (some 19) none false (X.v (A.idx (O.t 17) (O.t 18) 1))), (I.mk (some 20) none false (X.v (A.load Sh.s (O.t 19)))), (I.mk (some 21) none false (X.v (A.mov (O.t 1)))), (I.mk (some 22) none false (X.v (A.mov (O.t 5)))), (I.mk (some 23) none false (X.v (A.idx (O.t 21) (O.t 22) 1))), (I.mk (some 24) none false (X.v (A.load Sh.s (O.t 23)))), (I.mk (some 25) none false (X.v (A.bin BinOp.neq (O.t 20) (O.t 24))))] []) A15_4)) A15_5)
def A15_1 : AC := (AC.seq (AC.seq (AC.reg [] [(I.mk (some 11) none false (X.v (A.mov (O.t 5)))), (I.mk (some 12) none false (X.v (A.mov (O.t 0)))), (I.mk (some 13) none false (X.v (A.len (O.t 12)))), (I.mk (some 14) none false (X.v (A.bin BinOp.lss (O.t 11) (O.t 13))))] []) A15_2) A15_3)
def A15_6 : AC := (AC.seq (AC.reg [] [(I.mk (some 4) none false (X.v (A.mov (O.k (V.bool true)))))] []) AC.ret)
def A15_8 : AC := (AC.cond (O.t 10) (AC.seq (AC.reg [] [(I.mk (some 4) none false (X.v (A.mov (O.k (V.bool false)))))] []) AC.ret) AC.skip)
def A15_10 : AC := (AC.block 0 (AC.loop A15_1))
def A15_9 : AC := (AC.seq (AC.seq (AC.reg [] [(I.mk (some 5) none false (X.v (A.mov (O.k (V.int IntKind.i64 (Int.ofNat 0))))))] []) A15_10) A15_6)
def A15_7 : AC := (AC.seq (AC.seq (AC.reg [] [(I.mk (some 6) none false (X.v (A.mov (O.t 0)))), (I.mk (some 7) none false (X.v (A.len (O.t 6)))), (I.mk (some 8) none false (X.v (A.mov (O.t 1)))), (I.mk (some 9) none false (X.v (A.len (O.t 8)))), (I.mk (some 10) none false (X.v (A.bin BinOp.neq (O.t 7) (O.t 9))))] []) A15_8) A15_9)
def A15 : AC := (AC.seq (AC.reg [] [(I.mk (some 4) none false (X.v (A.mov (O.k (V.bool false)))))] []) A15_7)
def an15 : List An := []
theorem c15 : cC Try.prog Try.f15.ntmps an15 (Try.f15.body.getD .skip) = some A15 := by rfl
structure H15 (D : Den) (σ : Sig) (F : Nat) : Prop where
  mk ::
abbrev R15 (r : Bool) : (Nat → V) → Prop := RR Try.prog [.tmp 4] 0 false (Enc.enc (r : Bool))
section
variable {D : Den} {σ : Sig} {F : Nat} {r : Bool}
def w_eqIntS_l1 (F : Nat) (a_1 : (List Int)) (b_2 : (List Int))  : Nat → Int → Option Bool
  | 0, _ => none
  | k + 1, i_5 =>
    bif decide (i_5 < (a_1.length : Int)) then
      (idx a_1 i_5).bind fun e_8 =>
      (idx b_2 i_5).bind fun e_9 =>
      bif (e_8 != e_9) then
        some false
      else
        (w_eqIntS_l1 F a_1 b_2 k) (w64 (i_5 + 1))
    else
      some true
theorem t_f15_l1 (H : H15 D σ F) (a_1 : (List Int)) (b_2 : (List Int))  : ∀ (k : Nat) (i_5 : Int) (s : Nat → V), Facts [(0, (Enc.enc (a_1 : List Int))), (1, (Enc.enc (b_2 : List Int))), (4, (.bool false)), (5, (.int .i64 i_5))] s → w_eqIntS_l1 F a_1 b_2 k i_5 = some r → Run D σ (R15 r) (.run A15_1 [.lp A15_1, .bk 0, .sq A15_6]) s := by
  intro k
  induction k with
  | zero => intro i_5 s _ h; exact nomatch (h : (none : Option _) = some r)
  | succ k ih =>
    intro i_5 s hs h
    rw [w_eqIntS_l1] at h
    obtain ⟨h0, h1, h4, h5⟩ := hs
    refine .seq ?_
    refine .seq ?_
    refine run_reg ?_
    refine e_end ?_
    refine g_v1 (t := 5) (u := (.int .i64 i_5)) (.int .i64 i_5) h5 rfl rfl ?_
    refine g_v1 (t := 0) (u := (Enc.enc (a_1 : List Int))) (Enc.enc (a_1 : List Int)) h0 rfl rfl ?_
    refine g_v (.int .i64 (a_1.length : Int)) (ev_len (xs := a_1) rfl) ?_
    refine g_v2 (t1 := 11) (t2 := 13) (u1 := (.int .i64 i_5)) (u2 := (.int .i64 (a_1.length : Int))) (.bool (decide (i_5 < (a_1.length : Int)))) rfl rfl rfl rfl ?_
    refine g_end ?_
    refine e_end ?_
    refine renew [(0, (Enc.enc (a_1 : List Int))), (1, (Enc.enc (b_2 : List Int))), (4, (.bool false)), (5, (.int .i64 i_5)), (14, (.bool (decide (i_5 < (a_1.length : Int)))))] ⟨h0, h1, h4, h5, rfl⟩ ?_
    rintro s ⟨h0, h1, h4, h5, h14⟩
    refine .nsq ?_
    refine run_cond (t := decide (i_5 < (a_1.length : Int))) h14 h (fun h => ?_) (fun h => ?_)
    · refine .skip ?_
      refine .nsq ?_
      refine .seq ?_
      refine .block ?_
      refine .seq ?_
      refine run_reg ?_
      refine e_end ?_
      refine g_v1 (t := 0) (u := (Enc.enc (a_1 : List Int))) (Enc.enc (a_1 : List Int)) h0 rfl rfl ?_
      refine g_v1 (t := 5) (u := (.int .i64 i_5)) (.int .i64 i_5) h5 rfl rfl ?_
      obtain ⟨e_8, E_e_8, h⟩ := bind_some h
      refine g_v (.ref .sh 0 [] (.int .i64 e_8)) (ev_idx (t := .sh) (lo := 0) (xs := a_1) rfl rfl E_e_8 rfl rfl) ?_
      refine g_v1 (t := 19) (u := (.ref .sh 0 [] (.int .i64 e_8))) (.int .i64 e_8) rfl rfl rfl ?_
      refine g_v1 (t := 1) (u := (Enc.enc (b_2 : List Int))) (Enc.enc (b_2 : List Int)) h1 rfl rfl ?_
      refine g_v1 (t := 5) (u := (.int .i64 i_5)) (.int .i64 i_5) h5 rfl rfl ?_
      obtain ⟨e_9, E_e_9, h⟩ := bind_some h
      refine g_v (.ref .sh 0 [] (.int .i64 e_9)) (ev_idx (t := .sh) (lo := 0) (xs := b_2) rfl rfl E_e_9 rfl rfl) ?_
      refine g_v1 (t := 23) (u := (.ref .sh 0 [] (.int .i64 e_9))) (.int .i64 e_9) rfl rfl rfl ?_
      refine g_v2 (t1 := 20) (t2 := 24) (u1 := (.int .i64 e_8)) (u2 := (.int .i64 e_9)) (.bool (e_8 != e_9)) rfl rfl rfl rfl ?_
      refine g_end ?_
      refine e_end ?_
      refine renew [(0, (Enc.enc (a_1 : List Int))), (1, (Enc.enc (b_2 : List Int))), (4, (.bool false)), (5, (.int .i64 i_5)), (25, (.bool (e_8 != e_9)))] ⟨h0, h1, h4, h5, rfl⟩ ?_
      rintro s ⟨h0, h1, h4, h5, h25⟩
      refine .nsq ?_
      refine run_cond (t := (e_8 != e_9)) h25 h (fun h => ?_) (fun h => ?_)
      · refine .seq ?_
        refine run_reg ?_
        refine e_end ?_
        refine g_v0 (.bool false) rfl rfl ?_
        refine g_end ?_
        refine e_end ?_
        refine renew [(0, (Enc.enc (a_1 : List Int))), (1, (Enc.enc (b_2 : List Int))), (4, (.bool false)), (5, (.int .i64 i_5))] ⟨h0, h1, rfl, h5⟩ ?_
        rintro s ⟨h0, h1, h4, h5⟩
        refine .nsq ?_
        refine .ret ?_
        have hr := Option.some.inj h
        subst hr
        exact rrA (res_tmp h4) rfl
      · refine .skip ?_
        refine .nbk ?_
        refine .nsq ?_
        refine run_reg ?_
        refine e_end ?_
        refine g_v1 (t := 5) (u := (.int .i64 i_5)) (.int .i64 i_5) h5 rfl rfl ?_
        refine g_v1 (t := 15) (u := (.int .i64 i_5)) (.int .i64 (w64 (i_5 + 1))) rfl rfl rfl ?_
        refine g_v1 (t := 16) (u := (.int .i64 (w64 (i_5 + 1)))) (.int .i64 (w64 (i_5 + 1))) rfl rfl rfl ?_
        refine g_end ?_
        refine e_end ?_
        refine renew [(0, (Enc.enc (a_1 : List Int))), (1, (Enc.enc (b_2 : List Int))), (4, (.bool false)), (5, (.int .i64 (w64 (i_5 + 1))))] ⟨h0, h1, h4, rfl⟩ ?_
        rintro s ⟨h0, h1, h4, h5⟩
        refine .nlp ?_
        exact ih (w64 (i_5 + 1)) _ ⟨h0, h1, h4, h5⟩ h
    · refine .exit ?_
      refine .esq ?_
      refine .elp ?_
      refine .ebk ?_
      refine .nsq ?_
      refine .seq ?_
      refine run_reg ?_
      refine e_end ?_
      refine g_v0 (.bool true) rfl rfl ?_
      refine g_end ?_
      refine e_end ?_
      refine renew [(4, (.bool true))] rfl ?_
      rintro s h4
      refine .nsq ?_
      refine .ret ?_
      have hr := Option.some.inj h
      subst hr
      exact rrA (res_tmp h4) rfl
def w_eqIntS (F : Nat) (a_1 : (List Int)) (b_2 : (List Int)) : Option Bool :=
  bif ((a_1.length : Int) != (b_2.length : Int)) then
    some false
  else
    w_eqIntS_l1 F a_1 b_2 F 0
theorem t15 (H : H15 D σ F) (a_1 : (List Int)) (b_2 : (List Int)) (s : Nat → V) (hs : Facts [(0, (Enc.enc (a_1 : List Int))), (1, (Enc.enc (b_2 : List Int)))] s) (h : w_eqIntS F a_1 b_2 = some r) : Run D σ (R15 r) (.run A15 []) s := by
  unfold w_eqIntS at h
  obtain ⟨h0, h1⟩ := hs
  refine .seq ?_
  refine run_reg ?_
  refine e_end ?_
  refine g_v0 (.bool false) rfl rfl ?_
  refine g_end ?_
  refine e_end ?_
  refine renew [(0, (Enc.enc (a_1 : List Int))), (1, (Enc.enc (b_2 : List Int))), (4, (.bool false))] ⟨h0, h1, rfl⟩ ?_
  rintro s ⟨h0, h1, h4⟩
  refine .nsq ?_
  refine .seq ?_
  refine .seq ?_
  refine run_reg ?_
  refine e_end ?_
  refine g_v1 (t := 0) (u := (Enc.enc (a_1 : List Int))) (Enc.enc (a_1 : List Int)) h0 rfl rfl ?_
  refine g_v (.int .i64 (a_1.length : Int)) (ev_len (xs := a_1) rfl) ?_
  refine g_v1 (t := 1) (u := (Enc.enc (b_2 : List Int))) (Enc.enc (b_2 : List Int)) h1 rfl rfl ?_
  refine g_v (.int .i64 (b_2.length : Int)) (ev_len (xs := b_2) rfl) ?_
  refine g_v2 (t1 := 7) (t2 := 9) (u1 := (.int .i64 (a_1.length : Int))) (u2 := (.int .i64 (b_2.length : Int))) (.bool ((a_1.length : Int) != (b_2.length : Int))) rfl rfl rfl rfl ?_
  refine g_end ?_
  refine e_end ?_
  refine renew [(0, (Enc.enc (a_1 : List Int))), (1, (Enc.enc (b_2 : List Int))), (4, (.bool false)), (10, (.bool ((a_1.length : Int) != (b_2.length : Int))))] ⟨h0, h1, h4, rfl⟩ ?_
  rintro s ⟨h0, h1, h4, h10⟩
  refine .nsq ?_
  refine run_cond (t := ((a_1.length : Int) != (b_2.length : Int))) h10 h (fun h => ?_) (fun h => ?_)
  · refine .seq ?_
    refine run_reg ?_
    refine e_end ?_
    refine g_v0 (.bool false) rfl rfl ?_
    refine g_end ?_
    refine e_end ?_
    refine renew [(0, (Enc.enc (a_1 : List Int))), (1, (Enc.enc (b_2 : List Int))), (4, (.bool false))] ⟨h0, h1, rfl⟩ ?_
    rintro s ⟨h0, h1, h4⟩
    refine .nsq ?_
    refine .ret ?_
    have hr := Option.some.inj h
    subst hr
    exact rrA (res_tmp h4) rfl
  · refine .skip ?_
    refine .nsq ?_
    refine .seq ?_
    refine .seq ?_
    refine run_reg ?_
    refine e_end ?_
    refine g_v0 (.int .i64 0) rfl rfl ?_
    refine g_end ?_
    refine e_end ?_
    refine renew [(0, (Enc.enc (a_1 : List Int))), (1, (Enc.enc (b_2 : List Int))), (4, (.bool false)), (5, (.int .i64 0))] ⟨h0, h1, h4, rfl⟩ ?_
    rintro s ⟨h0, h1, h4, h5⟩
    refine .nsq ?_
    refine .block ?_
    refine .loop ?_
    exact t_f15_l1 H a_1 b_2 F 0 _ ⟨h0, h1, h4, h5⟩ h
end
def e15 (F : Nat) : Ent := ⟨15, dn2 (w_eqIntS F) (fun (r : Bool) => (Enc.enc (r : Bool))), 0, false⟩
theorem o15 {D : Den} {σ : Sig} {F : Nat} (hF : Fits2 Try.prog D σ) (H : H15 D σ F) : (e15 F).Ok Try.prog := by
  refine ⟨fun args r h => ?_, ⟨Try.f15, Try.func15, rfl, rfl⟩⟩
  obtain ⟨x0, x1, y, rfl, hy, rfl⟩ := dn2_open h
  exact contract_run hF (by kernel_rfl) Try.func15 rfl c15 (show 2 ≤ Try.f15.ntmps by decide) (t15 H x0 x1 _ ⟨rfl, rfl⟩ hy)
/- loop.example/g01109/laws.FnExactIsForest -/
def A4_1 : AC := (AC.cond (O.t 45) (AC.seq (AC.reg [] [(I.mk (some 4) none false (X.v (A.mov (O.k (V.bool false)))))] []) AC.ret) AC.skip)
def A4_3 : AC := (AC.cond (O.t 50) (AC.seq (AC.reg [] [(I.mk (some 4) none false (X.v (A.mov (O.k (V.bool false)))))] []) AC.ret) AC.skip)
def A4_5 : AC := (AC.cond (O.t 55) (AC.seq (AC.reg [] [(I.mk (some 4) none false (X.v (A.mov (O.k (V.bool false)))))] []) AC.ret) AC.skip)
def A4_6 : AC := (AC.seq (AC.reg [] [(I.mk (some 4) none false (X.v (A.mov (O.k (V.bool true)))))] []) AC.ret)
def A4_4 : AC := (AC.seq (AC.seq (AC.reg [] [(I.mk (some 51) none false (X.v (A.mov (O.t 9)))), (I.mk (some 52) none false (X.v (A.mov (O.t 1)))), (I.mk (some 53) none false (X.call (O.k (V.fn 12 [] [])) [(O.t 52)])), (I.mk (some 54) none false (X.call (O.k (V.fn 15 [] [])) [(O.t 51), (O.t 53)])), (I.mk (some 55) none false (X.v (A.un UnOp.not (O.t 54))))] []) A4_5) A4_6)
def A4_2 : AC := (AC.seq (AC.seq (AC.reg [] [(I.mk (some 46) none false (X.v (A.load (Sh.ag [Sh.s, Sh.p]) (O.t 8)))), (I.mk (some 47) none false (X.v (A.load (Sh.ag [Sh.s, Sh.p]) (O.t 2)))), (I.mk (some 48) none false (X.call (O.k (V.fn 11 [] [])) [(O.t 47)])), (I.mk (some 49) none false (X.call (O.k (V.fn 14 [] [])) [(O.t 46), (O.t 48)])), (I.mk (some 50) none false (X.v (A.un UnOp.not (O.t 49))))] []) A4_3) A4_4)
def A4_8 : AC := (AC.cond (O.t 14) (AC.seq (AC.reg [] [(I.mk (some 4) none false (X.v (A.mov (O.k (V.bool true)))))] []) AC.ret) AC.skip)
def A4_12 : AC := (AC.cond (O.t 19) (AC.seq (AC.reg [] [(I.mk (some 4) none false (X.v (A.mov (O.k (V.bool true)))))] []) AC.ret) AC.skip)
def A4_17 : AC := (AC.seq (AC.seq (AC.reg [] [(I.mk (some 38) none false (X.v (A.mov (O.t 10)))), (I.mk (some 39) none false (X.v (A.mov (O.t 6)))), (I.mk (some 40) none false (X.v (A.beq true (O.t 38) (O.t 39)))), (I.mk (some 41) none false (X.v (A.mov (O.t 40)))), (I.mk (some 42) (some (41, false)) false (X.v (A.mov (O.t 11)))), (I.mk (some 43) (some (41, false)) false (X.v (A.mov (O.t 7)))), (I.mk (some 44) (some (41, false)) false (X.v (A.beq true (O.t 42) (O.t 43)))), (I.mk (some 45) none false (X.v (A.pick (O.t 41) (O.k (V.bool true)) (O.t 44))))] []) A4_1) A4_2)
def A4_16 : AC := (AC.seq (AC.reg [] [(I.mk (some 33) none false (X.v (A.load (Sh.ag [Sh.s, Sh.p]) (O.t 8)))), (I.mk (some 34) none false (X.v (A.mov (O.t 9)))), (I.mk (some 35) none false (X.call (O.k (V.fn 17 [] [])) [(O.t 33), (O.t 34)])), (I.mk (some 32) none false (X.v (A.mov (O.t 35)))), (I.mk (some 36) none false (X.v (A.ext (O.t 32) 0))), (I.mk (some 37) none false (X.v (A.ext (O.t 32) 1))), (I.mk (some 10) none false (X.v (A.mov (O.t 36)))), (I.mk (some 11) none false (X.v (A.mov (O.t 37))))] []) A4_17)
def A4_15 : AC := (AC.seq (AC.reg [] [(I.mk (some 30) none false (X.v (A.mov (O.t 1)))), (I.mk (some 31) none false (X.call (O.k (V.fn 12 [] [])) [(O.t 30)])), (I.mk (some 9) none false (X.v (A.mov (O.t 31))))] []) A4_16)
def A4_14 : AC := (AC.seq (AC.reg [.clr [8]] [(I.mk (some 28) none false (X.v (A.load (Sh.ag [Sh.s, Sh.p]) (O.t 2)))), (I.mk (some 29) none false (X.call (O.k (V.fn 11 [] [])) [(O.t 28)])), (I.mk (some 8) none false (X.alloc (V.agg [(V.int IntKind.i64 (Int.ofNat 0)), (V.sl Tok.nl (Sh.ag [Sh.s, Sh.s]) 0 [])]))), (I.mk none none false (X.store (Sh.ag [Sh.s, Sh.p]) (O.t 8) (O.t 29)))] []) A4_15)
def A4_13 : AC := (AC.seq (AC.reg [] [(I.mk (some 21) none false (X.v (A.load (Sh.ag [Sh.s, Sh.p]) (O.t 2)))), (I.mk (some 22) none false (X.call (O.k (V.fn 11 [] [])) [(O.t 21)])), (I.mk (some 23) none false (X.v (A.mov (O.t 1)))), (I.mk (some 24) none false (X.call (O.k (V.fn 12 [] [])) [(O.t 23)])), (I.mk (some 25) none false (X.call (O.k (V.fn 16 [] [])) [(O.t 22), (O.t 24)])), (I.mk (some 20) none false (X.v (A.mov (O.t 25)))), (I.mk (some 26) none false (X.v (A.ext (O.t 20) 0))), (I.mk (some 27) none false (X.v (A.ext (O.t 20) 1))), (I.mk (some 6) none false (X.v (A.mov (O.t 26)))), (I.mk (some 7) none false (X.v (A.mov (O.t 27))))] []) A4_14)
def A4_11 : AC := (AC.seq (AC.seq (AC.reg [] [(I.mk (some 18) none false (X.v (A.mov (O.t 5)))), (I.mk (some 19) none false (X.v (A.bin BinOp.lss (O.t 18) (O.k (V.int IntKind.i64 (Int.ofNat 0))))))] []) A4_12) A4_13)
def A4_10 : AC := (AC.seq (AC.reg [] [(I.mk (some 15) none false (X.v (A.load (Sh.ag [Sh.s, Sh.p]) (O.t 2)))), (I.mk (some 16) none false (X.v (A.mov (O.t 5)))), (I.mk (some 17) none false (X.call (O.k (V.fn 9 [] [])) [(O.t 15), (O.t 16)])), (I.mk (some 5) none false (X.v (A.mov (O.t 17))))] []) A4_11)
def A4_9 : AC := (AC.seq (AC.reg [] [(I.mk (some 5) none false (X.v (A.mov (O.k (V.int IntKind.i64 (Int.ofNat 1048576))))))] []) A4_10)
def A4_7 : AC := (AC.seq (AC.seq (AC.reg [] [(I.mk (some 12) none false (X.v (A.mov (O.t 1)))), (I.mk (some 13) none false (X.v (A.len (O.t 12)))), (I.mk (some 14) none false (X.v (A.bin BinOp.gtr (O.t 13) (O.k (V.int IntKind.i64 (Int.ofNat 1048576))))))] []) A4_8) A4_9)
def A4 : AC := (AC.seq (AC.reg [.clr [2]] [(I.mk (some 2) none false (X.box (O.t 0))), (I.mk (some 4) none false (X.v (A.mov (O.k (V.bool false)))))] []) A4_7)
def an4 : List An := [{ id := 0, pre := [.clr [2]], ep := [] }, { id := 8, pre := [.clr [8]], ep := [] }]
theorem c4 : cC Try.prog Try.f4.ntmps an4 (Try.f4.body.getD .skip) = some A4 := by rfl
structure H4 (D : Den) (σ : Sig) (F : Nat) : Prop where
  c9 : ∀ x0 x1 r, w_szGraph F x0 x1 = some r → D 9 [Enc.enc x0, Enc.enc x1] = some (Enc.enc (r : Int))
  g9 : σ 9 = some (0, false)
  c11 : ∀ x0 r, w_toGraph F x0 = some r → D 11 [Enc.enc x0] = some (Enc.enc (r : (Int × (List (Int × Int)))))
  g11 : σ 11 = some (0, true)
  c12 : ∀ x0 r, w_toIntS F x0 = some r → D 12 [Enc.enc x0] = some (Enc.enc (r : (List Int)))
  g12 : σ 12 = some (0, true)
  c16 : ∀ x0 x1 r, s_IsForest F x0 x1 = some r → D 16 [Enc.enc x0, Enc.enc x1] = some (.tup [Enc.enc (r.1 : Bool), Enc.enc (r.2 : Bool)])
  g16 : σ 16 = some (0, false)
  c17 : ∀ x0 x1 r, i_IsForest F x0 x1 = some r → D 17 [Enc.enc x0, Enc.enc x1] = some (.tup [Enc.enc (r.1 : Bool), Enc.enc (r.2 : Bool)])
  g17 : σ 17 = some (0, false)
  c14 : ∀ x0 x1 r, w_eqGraph F x0 x1 = some r → D 14 [Enc.enc x0, Enc.enc x1] = some (Enc.enc (r : Bool))
  g14 : σ 14 = some (0, false)
  c15 : ∀ x0 x1 r, w_eqIntS F x0 x1 = some r → D 15 [Enc.enc x0, Enc.enc x1] = some (Enc.enc (r : Bool))
  g15 : σ 15 = some (0, false)
abbrev R4 (r : Bool) : (Nat → V) → Prop := RR Try.prog [.tmp 4] 0 false (Enc.enc (r : Bool))
section
variable {D : Den} {σ : Sig} {F : Nat} {r : Bool}
def w_FnExactIsForest_j1 (F : Nat) (aParents_2 : (List Int)) (aG_1 : (Int × (List (Int × Int)))) (r_7 : (Int × (List (Int × Int)))) (r_8 : (List Int))  (t45_10 : Bool) : Option Bool :=
  bif t45_10 then
    some false
  else
    (w_toGraph F aG_1).bind fun r_11 =>
    (w_eqGraph F r_7 r_11).bind fun r_12 =>
    bif (!r_12) then
      some false
    else
      (w_toIntS F aParents_2).bind fun r_13 =>
      (w_eqIntS F r_8 r_13).bind fun r_14 =>
      bif (!r_14) then
        some false
      else
        some true
theorem t_f4_j1 (H : H4 D σ F) (aParents_2 : (List Int)) (aG_1 : (Int × (List (Int × Int)))) (r_7 : (Int × (List (Int × Int)))) (r_8 : (List Int))  (t45_10 : Bool) (s : Nat → V) (hs : Facts [(1, (Enc.enc (aParents_2 : List Int))), (2, (.ref (.bx 2) 0 [] (.agg [(.int .i64 aG_1.1), (Enc.enc (aG_1.2 : List (Int × Int)))]))), (4, (.bool false)), (8, (.ref (.bx 8) 0 [] (.agg [(.int .i64 r_7.1), (Enc.enc (r_7.2 : List (Int × Int)))]))), (9, (Enc.enc (r_8 : List Int))), (45, (.bool t45_10))] s) (h : w_FnExactIsForest_j1 F aParents_2 aG_1 r_7 r_8  t45_10 = some r) : Run D σ (R4 r) (.nrm [.sq A4_1, .sq A4_2]) s := by
  unfold w_FnExactIsForest_j1 at h
  obtain ⟨h1, h2, h4, h8, h9, h45⟩ := hs
  refine .nsq ?_
  refine run_cond (t := t45_10) h45 h (fun h => ?_) (fun h => ?_)
  · refine .seq ?_
    refine run_reg ?_
    refine e_end ?_
    refine g_v0 (.bool false) rfl rfl ?_
    refine g_end ?_
    refine e_end ?_
    refine renew [(1, (Enc.enc (aParents_2 : List Int))), (2, (.ref (.bx 2) 0 [] (.agg [(.int .i64 aG_1.1), (Enc.enc (aG_1.2 : List (Int × Int)))]))), (4, (.bool false)), (8, (.ref (.bx 8) 0 [] (.agg [(.int .i64 r_7.1), (Enc.enc (r_7.2 : List (Int × Int)))]))), (9, (Enc.enc (r_8 : List Int)))] ⟨h1, h2, rfl, h8, h9⟩ ?_
    rintro s ⟨h1, h2, h4, h8, h9⟩
    refine .nsq ?_
    refine .ret ?_
    have hr := Option.some.inj h
    subst hr
    exact rrA (res_tmp h4) rfl
  · refine .skip ?_
    refine .nsq ?_
    refine .seq ?_
    refine .seq ?_
    refine run_reg ?_
    refine e_end ?_
    refine g_v1 (t := 8) (u := (.ref (.bx 8) 0 [] (.agg [(.int .i64 r_7.1), (Enc.enc (r_7.2 : List (Int × Int)))]))) (.agg [(.int .i64 r_7.1), (Enc.enc (r_7.2 : List (Int × Int)))]) h8 rfl rfl ?_
    refine g_v1 (t := 2) (u := (.ref (.bx 2) 0 [] (.agg [(.int .i64 aG_1.1), (Enc.enc (aG_1.2 : List (Int × Int)))]))) (.agg [(.int .i64 aG_1.1), (Enc.enc (aG_1.2 : List (Int × Int)))]) h2 rfl rfl ?_
    obtain ⟨r_11, E_r_11, h⟩ := bind_some h
    refine g_call (m := 0) (al := true) (r := (Enc.enc (r_11 : (Int × (List (Int × Int)))))) [Enc.enc (aG_1 : (Int × (List (Int × Int))))] (ta_cons (v := (.agg [(.int .i64 aG_1.1), (Enc.enc (aG_1.2 : List (Int × Int)))])) rfl rfl (Enc.erase_enc (aG_1 : (Int × (List (Int × Int))))) ta_nil) (H.c11 _ _ E_r_11) H.g11 (hal_of (ht_cons (v := (.agg [(.int .i64 aG_1.1), (Enc.enc (aG_1.2 : List (Int × Int)))])) rfl rfl rfl ht_nil)) rfl rfl rfl ?_
    obtain ⟨r_12, E_r_12, h⟩ := bind_some h
    refine g_call (m := 0) (al := false) (r := (Enc.enc (r_12 : Bool))) [Enc.enc (r_7 : (Int × (List (Int × Int)))), Enc.enc (r_11 : (Int × (List (Int × Int))))] (ta_cons (v := (.agg [(.int .i64 r_7.1), (Enc.enc (r_7.2 : List (Int × Int)))])) rfl rfl (Enc.erase_enc (r_7 : (Int × (List (Int × Int))))) (ta_cons (v := (.agg [(.int .i64 r_11.1), (Enc.enc (r_11.2 : List (Int × Int)))])) rfl rfl (Enc.erase_enc (r_11 : (Int × (List (Int × Int))))) ta_nil)) (H.c14 _ _ _ E_r_12) H.g14 rfl rfl rfl rfl ?_
    refine g_v1 (t := 49) (u := (.bool r_12)) (.bool (!r_12)) rfl rfl rfl ?_
    refine g_end ?_
    refine e_end ?_
    refine renew [(1, (Enc.enc (aParents_2 : List Int))), (4, (.bool false)), (9, (Enc.enc (r_8 : List Int))), (50, (.bool (!r_12)))] ⟨h1, h4, h9, rfl⟩ ?_
    rintro s ⟨h1, h4, h9, h50⟩
    refine .nsq ?_
    refine run_cond (t := (!r_12)) h50 h (fun h => ?_) (fun h => ?_)
    · refine .seq ?_
      refine run_reg ?_
      refine e_end ?_
      refine g_v0 (.bool false) rfl rfl ?_
      refine g_end ?_
      refine e_end ?_
      refine renew [(1, (Enc.enc (aParents_2 : List Int))), (4, (.bool false)), (9, (Enc.enc (r_8 : List Int)))] ⟨h1, rfl, h9⟩ ?_
      rintro s ⟨h1, h4, h9⟩
      refine .nsq ?_
      refine .ret ?_
      have hr := Option.some.inj h
      subst hr
      exact rrA (res_tmp h4) rfl
    · refine .skip ?_
      refine .nsq ?_
      refine .seq ?_
      refine .seq ?_
      refine run_reg ?_
      refine e_end ?_
      refine g_v1 (t := 9) (u := (Enc.enc (r_8 : List Int))) (Enc.enc (r_8 : List Int)) h9 rfl rfl ?_
      refine g_v1 (t := 1) (u := (Enc.enc (aParents_2 : List Int))) (Enc.enc (aParents_2 : List Int)) h1 rfl rfl ?_
      obtain ⟨r_13, E_r_13, h⟩ := bind_some h
      refine g_call (m := 0) (al := true) (r := (Enc.enc (r_13 : (List Int)))) [Enc.enc (aParents_2 : (List Int))] (ta_cons (v := (Enc.enc (aParents_2 : List Int))) rfl rfl (Enc.erase_enc (aParents_2 : (List Int))) ta_nil) (H.c12 _ _ E_r_13) H.g12 (hal_of (ht_cons (v := (Enc.enc (aParents_2 : List Int))) rfl rfl rfl ht_nil)) rfl rfl rfl ?_
      obtain ⟨r_14, E_r_14, h⟩ := bind_some h
      refine g_call (m := 0) (al := false) (r := (Enc.enc (r_14 : Bool))) [Enc.enc (r_8 : (List Int)), Enc.enc (r_13 : (List Int))] (ta_cons (v := (Enc.enc (r_8 : List Int))) rfl rfl (Enc.erase_enc (r_8 : (List Int))) (ta_cons (v := (Enc.enc (r_13 : List Int))) rfl rfl (Enc.erase_enc (r_13 : (List Int))) ta_nil)) (H.c15 _ _ _ E_r_14) H.g15 rfl rfl rfl rfl ?_
      refine g_v1 (t := 54) (u := (.bool r_14)) (.bool (!r_14)) rfl rfl rfl ?_
      refine g_end ?_
      refine e_end ?_
      refine renew [(4, (.bool false)), (55, (.bool (!r_14)))] ⟨h4, rfl⟩ ?_
      rintro s ⟨h4, h55⟩
      refine .nsq ?_
      refine run_cond (t := (!r_14)) h55 h (fun h => ?_) (fun h => ?_)
      · refine .seq ?_
        refine run_reg ?_
        refine e_end ?_
        refine g_v0 (.bool false) rfl rfl ?_
        refine g_end ?_
        refine e_end ?_
        refine renew [(4, (.bool false))] rfl ?_
        rintro s h4
        refine .nsq ?_
        refine .ret ?_
        have hr := Option.some.inj h
        subst hr
        exact rrA (res_tmp h4) rfl
      · refine .skip ?_
        refine .nsq ?_
        refine .seq ?_
        refine run_reg ?_
        refine e_end ?_
        refine g_v0 (.bool true) rfl rfl ?_
        refine g_end ?_
        refine e_end ?_
        refine renew [(4, (.bool true))] rfl ?_
        rintro s h4
        refine .nsq ?_
        refine .ret ?_
        have hr := Option.some.inj h
        subst hr
        exact rrA (res_tmp h4) rfl
def w_FnExactIsForest (F : Nat) (aG_1 : (Int × (List (Int × Int)))) (aParents_2 : (List Int)) : Option Bool :=
  bif decide ((aParents_2.length : Int) > 1048576) then
    some true
  else
    (w_szGraph F aG_1 1048576).bind fun r_3 =>
    bif decide (r_3 < 0) then
      some true
    else
      (w_toGraph F aG_1).bind fun r_4 =>
      (w_toIntS F aParents_2).bind fun r_5 =>
      (s_IsForest F r_4 r_5).bind fun r_6 =>
      (w_toGraph F aG_1).bind fun r_7 =>
      (w_toIntS F aParents_2).bind fun r_8 =>
      (i_IsForest F r_7 r_8).bind fun r_9 =>
      bif (r_9.1 != r_6.1) then
        w_FnExactIsForest_j1 F aParents_2 aG_1 r_7 r_8 true
      else
        w_FnExactIsForest_j1 F aParents_2 aG_1 r_7 r_8 (r_9.2 != r_6.2)
theorem t4 (H : H4 D σ F) (aG_1 : (Int × (List (Int × Int)))) (aParents_2 : (List Int)) (s : Nat → V) (hs : Facts [(0, (.agg [(.int .i64 aG_1.1), (Enc.enc (aG_1.2 : List (Int × Int)))])), (1, (Enc.enc (aParents_2 : List Int)))] s) (h : w_FnExactIsForest F aG_1 aParents_2 = some r) : Run D σ (R4 r) (.run A4 []) s := by
  unfold w_FnExactIsForest at h
  obtain ⟨h0, h1⟩ := hs
  refine .seq ?_
  refine run_reg ?_
  refine e_clr ?_
  refine e_end ?_
  refine g_box (.agg [(.int .i64 aG_1.1), (Enc.enc (aG_1.2 : List (Int × Int)))]) (rd_of (keep_clear (s := s) (pk := [2]) h0 rfl (map_agg (maps_cons rfl (maps_cons (Enc.map_enc _ (aG_1.2 : List (Int × Int))) maps_nil)))) rfl) (gone_clear (s := s) (pk := [2]) (t := 2) rfl) rfl ?_
  refine g_v0 (.bool false) rfl rfl ?_
  refine g_end ?_
  refine e_end ?_
  refine renew [(1, (Enc.enc (aParents_2 : List Int))), (2, (.ref (.bx 2) 0 [] (.agg [(.int .i64 aG_1.1), (Enc.enc (aG_1.2 : List (Int × Int)))]))), (4, (.bool false))] ⟨(keep_clear (s := s) (pk := [2]) h1 rfl (Enc.map_enc _ (aParents_2 : List Int))), rfl, rfl⟩ ?_
  rintro s ⟨h1, h2, h4⟩
  refine .nsq ?_
  refine .seq ?_
  refine .seq ?_
  refine run_reg ?_
  refine e_end ?_
  refine g_v1 (t := 1) (u := (Enc.enc (aParents_2 : List Int))) (Enc.enc (aParents_2 : List Int)) h1 rfl rfl ?_
  refine g_v (.int .i64 (aParents_2.length : Int)) (ev_len (xs := aParents_2) rfl) ?_
  refine g_v1 (t := 13) (u := (.int .i64 (aParents_2.length : Int))) (.bool (decide ((aParents_2.length : Int) > 1048576))) rfl rfl rfl ?_
  refine g_end ?_
  refine e_end ?_
  refine renew [(1, (Enc.enc (aParents_2 : List Int))), (2, (.ref (.bx 2) 0 [] (.agg [(.int .i64 aG_1.1), (Enc.enc (aG_1.2 : List (Int × Int)))]))), (4, (.bool false)), (14, (.bool (decide ((aParents_2.length : Int) > 1048576))))] ⟨h1, h2, h4, rfl⟩ ?_
  rintro s ⟨h1, h2, h4, h14⟩
  refine .nsq ?_
  refine run_cond (t := decide ((aParents_2.length : Int) > 1048576)) h14 h (fun h => ?_) (fun h => ?_)
  · refine .seq ?_
    refine run_reg ?_
    refine e_end ?_
    refine g_v0 (.bool true) rfl rfl ?_
    refine g_end ?_
    refine e_end ?_
    refine renew [(1, (Enc.enc (aParents_2 : List Int))), (2, (.ref (.bx 2) 0 [] (.agg [(.int .i64 aG_1.1), (Enc.enc (aG_1.2 : List (Int × Int)))]))), (4, (.bool true))] ⟨h1, h2, rfl⟩ ?_
    rintro s ⟨h1, h2, h4⟩
    refine .nsq ?_
    refine .ret ?_
    have hr := Option.some.inj h
    subst hr
    exact rrA (res_tmp h4) rfl
  · refine .skip ?_
    refine .nsq ?_
    refine .seq ?_
    refine run_reg ?_
    refine e_end ?_
    refine g_v0 (.int .i64 1048576) rfl rfl ?_
    refine g_end ?_
    refine e_end ?_
    refine renew [(1, (Enc.enc (aParents_2 : List Int))), (2, (.ref (.bx 2) 0 [] (.agg [(.int .i64 aG_1.1), (Enc.enc (aG_1.2 : List (Int × Int)))]))), (4, (.bool false)), (5, (.int .i64 1048576))] ⟨h1, h2, h4, rfl⟩ ?_
    rintro s ⟨h1, h2, h4, h5⟩
    refine .nsq ?_
    refine .seq ?_
    refine run_reg ?_
    refine e_end ?_
    refine g_v1 (t := 2) (u := (.ref (.bx 2) 0 [] (.agg [(.int .i64 aG_1.1), (Enc.enc (aG_1.2 : List (Int × Int)))]))) (.agg [(.int .i64 aG_1.1), (Enc.enc (aG_1.2 : List (Int × Int)))]) h2 rfl rfl ?_
    refine g_v1 (t := 5) (u := (.int .i64 1048576)) (.int .i64 1048576) h5 rfl rfl ?_
    obtain ⟨r_3, E_r_3, h⟩ := bind_some h
    refine g_call (m := 0) (al := false) (r := (Enc.enc (r_3 : Int))) [Enc.enc (aG_1 : (Int × (List (Int × Int)))), Enc.enc (1048576 : Int)] (ta_cons (v := (.agg [(.int .i64 aG_1.1), (Enc.enc (aG_1.2 : List (Int × Int)))])) rfl rfl (Enc.erase_enc (aG_1 : (Int × (List (Int × Int))))) (ta_cons (v := (.int .i64 1048576)) rfl rfl rfl ta_nil)) (H.c9 _ _ _ E_r_3) H.g9 rfl rfl rfl rfl ?_
    refine g_v1 (t := 17) (u := (.int .i64 r_3)) (.int .i64 r_3) rfl rfl rfl ?_
    refine g_end ?_
    refine e_end ?_
    refine renew [(1, (Enc.enc (aParents_2 : List Int))), (2, (.ref (.bx 2) 0 [] (.agg [(.int .i64 aG_1.1), (Enc.enc (aG_1.2 : List (Int × Int)))]))), (4, (.bool false)), (5, (.int .i64 r_3))] ⟨h1, h2, h4, rfl⟩ ?_
    rintro s ⟨h1, h2, h4, h5⟩
    refine .nsq ?_
    refine .seq ?_
    refine .seq ?_
    refine run_reg ?_
    refine e_end ?_
    refine g_v1 (t := 5) (u := (.int .i64 r_3)) (.int .i64 r_3) h5 rfl rfl ?_
    refine g_v1 (t := 18) (u := (.int .i64 r_3)) (.bool (decide (r_3 < 0))) rfl rfl rfl ?_
    refine g_end ?_
    refine e_end ?_
    refine renew [(1, (Enc.enc (aParents_2 : List Int))), (2, (.ref (.bx 2) 0 [] (.agg [(.int .i64 aG_1.1), (Enc.enc (aG_1.2 : List (Int × Int)))]))), (4, (.bool false)), (19, (.bool (decide (r_3 < 0))))] ⟨h1, h2, h4, rfl⟩ ?_
    rintro s ⟨h1, h2, h4, h19⟩
    refine .nsq ?_
    refine run_cond (t := decide (r_3 < 0)) h19 h (fun h => ?_) (fun h => ?_)
    · refine .seq ?_
      refine run_reg ?_
      refine e_end ?_
      refine g_v0 (.bool true) rfl rfl ?_
      refine g_end ?_
      refine e_end ?_
      refine renew [(1, (Enc.enc (aParents_2 : List Int))), (2, (.ref (.bx 2) 0 [] (.agg [(.int .i64 aG_1.1), (Enc.enc (aG_1.2 : List (Int × Int)))]))), (4, (.bool true))] ⟨h1, h2, rfl⟩ ?_
      rintro s ⟨h1, h2, h4⟩
      refine .nsq ?_
      refine .ret ?_
      have hr := Option.some.inj h
      subst hr
      exact rrA (res_tmp h4) rfl
    · refine .skip ?_
      refine .nsq ?_
      refine .seq ?_
      refine run_reg ?_
      refine e_end ?_
      refine g_v1 (t := 2) (u := (.ref (.bx 2) 0 [] (.agg [(.int .i64 aG_1.1), (Enc.enc (aG_1.2 : List (Int × Int)))]))) (.agg [(.int .i64 aG_1.1), (Enc.enc (aG_1.2 : List (Int × Int)))]) h2 rfl rfl ?_
      obtain ⟨r_4, E_r_4, h⟩ := bind_some h
      refine g_call (m := 0) (al := true) (r := (Enc.enc (r_4 : (Int × (List (Int × Int)))))) [Enc.enc (aG_1 : (Int × (List (Int × Int))))] (ta_cons (v := (.agg [(.int .i64 aG_1.1), (Enc.enc (aG_1.2 : List (Int × Int)))])) rfl rfl (Enc.erase_enc (aG_1 : (Int × (List (Int × Int))))) ta_nil) (H.c11 _ _ E_r_4) H.g11 (hal_of (ht_cons (v := (.agg [(.int .i64 aG_1.1), (Enc.enc (aG_1.2 : List (Int × Int)))])) rfl rfl rfl ht_nil)) rfl rfl rfl ?_
      refine g_v1 (t := 1) (u := (Enc.enc (aParents_2 : List Int))) (Enc.enc (aParents_2 : List Int)) h1 rfl rfl ?_
      obtain ⟨r_5, E_r_5, h⟩ := bind_some h
      refine g_call (m := 0) (al := true) (r := (Enc.enc (r_5 : (List Int)))) [Enc.enc (aParents_2 : (List Int))] (ta_cons (v := (Enc.enc (aParents_2 : List Int))) rfl rfl (Enc.erase_enc (aParents_2 : (List Int))) ta_nil) (H.c12 _ _ E_r_5) H.g12 (hal_of (ht_cons (v := (Enc.enc (aParents_2 : List Int))) rfl rfl rfl ht_nil)) rfl rfl rfl ?_
      obtain ⟨r_6, E_r_6, h⟩ := bind_some h
      refine g_call (m := 0) (al := false) (r := (.tup [Enc.enc (r_6.1 : Bool), Enc.enc (r_6.2 : Bool)])) [Enc.enc (r_4 : (Int × (List (Int × Int)))), Enc.enc (r_5 : (List Int))] (ta_cons (v := (.agg [(.int .i64 r_4.1), (Enc.enc (r_4.2 : List (Int × Int)))])) rfl rfl (Enc.erase_enc (r_4 : (Int × (List (Int × Int))))) (ta_cons (v := (Enc.enc (r_5 : List Int))) rfl rfl (Enc.erase_enc (r_5 : (List Int))) ta_nil)) (H.c16 _ _ _ E_r_6) H.g16 rfl rfl rfl rfl ?_
      refine g_v1 (t := 25) (u := (.tup [(.bool r_6.1), (.bool r_6.2)])) (.tup [(.bool r_6.1), (.bool r_6.2)]) rfl rfl rfl ?_
      refine g_v1 (t := 20) (u := (.tup [(.bool r_6.1), (.bool r_6.2)])) (.bool r_6.1) rfl rfl rfl ?_
      refine g_v1 (t := 20) (u := (.tup [(.bool r_6.1), (.bool r_6.2)])) (.bool r_6.2) rfl rfl rfl ?_
      refine g_v1 (t := 26) (u := (.bool r_6.1)) (.bool r_6.1) rfl rfl rfl ?_
      refine g_v1 (t := 27) (u := (.bool r_6.2)) (.bool r_6.2) rfl rfl rfl ?_
      refine g_end ?_
      refine e_end ?_
      refine renew [(1, (Enc.enc (aParents_2 : List Int))), (2, (.ref (.bx 2) 0 [] (.agg [(.int .i64 aG_1.1), (Enc.enc (aG_1.2 : List (Int × Int)))]))), (4, (.bool false)), (6, (.bool r_6.1)), (7, (.bool r_6.2))] ⟨h1, h2, h4, rfl, rfl⟩ ?_
      rintro s ⟨h1, h2, h4, h6, h7⟩
      refine .nsq ?_
      refine .seq ?_
      refine run_reg ?_
      refine e_clr ?_
      refine e_end ?_
      refine g_v1 (t := 2) (u := (.ref (.bx 2) 0 [] (.agg [(.int .i64 aG_1.1), (Enc.enc (aG_1.2 : List (Int × Int)))]))) (.agg [(.int .i64 aG_1.1), (Enc.enc (aG_1.2 : List (Int × Int)))]) (keep_clear (s := s) (pk := [8]) h2 rfl (map_bx rfl (map_agg (maps_cons rfl (maps_cons (Enc.map_enc _ (aG_1.2 : List (Int × Int))) maps_nil))))) rfl rfl ?_
      obtain ⟨r_7, E_r_7, h⟩ := bind_some h
      refine g_call (m := 0) (al := true) (r := (Enc.enc (r_7 : (Int × (List (Int × Int)))))) [Enc.enc (aG_1 : (Int × (List (Int × Int))))] (ta_cons (v := (.agg [(.int .i64 aG_1.1), (Enc.enc (aG_1.2 : List (Int × Int)))])) rfl rfl (Enc.erase_enc (aG_1 : (Int × (List (Int × Int))))) ta_nil) (H.c11 _ _ E_r_7) H.g11 (hal_of (ht_cons (v := (.agg [(.int .i64 aG_1.1), (Enc.enc (aG_1.2 : List (Int × Int)))])) rfl rfl rfl ht_nil)) rfl rfl rfl ?_
      refine g_alloc (gone_clear (s := s) (pk := [8]) (t := 8) rfl) ?_
      refine g_store (.agg [(.int .i64 r_7.1), (Enc.enc (r_7.2 : List (Int × Int)))]) (rd_of rfl rfl) (rd_of rfl rfl) (by refine ⟨by decide, by decide, rfl, rfl, rfl, ?_⟩; first | rfl | simp [V.toks, V.tokss, Enc.toks_enc]) ?_
      refine g_end ?_
      refine e_end ?_
      refine renew [(1, (Enc.enc (aParents_2 : List Int))), (2, (.ref (.bx 2) 0 [] (.agg [(.int .i64 aG_1.1), (Enc.enc (aG_1.2 : List (Int × Int)))]))), (4, (.bool false)), (6, (.bool r_6.1)), (7, (.bool r_6.2)), (8, (.ref (.bx 8) 0 [] (.agg [(.int .i64 r_7.1), (Enc.enc (r_7.2 : List (Int × Int)))])))] ⟨(keep_mut (keep_clear (s := s) (pk := [8]) h1 rfl (Enc.map_enc _ (aParents_2 : List Int))) (Enc.mut_enc _ _ _ _ (aParents_2 : List Int))), (keep_mut (keep_clear (s := s) (pk := [8]) h2 rfl (map_bx rfl (map_agg (maps_cons rfl (maps_cons (Enc.map_enc _ (aG_1.2 : List (Int × Int))) maps_nil))))) (mut_ref_ne rfl rfl (mut_agg (muts_cons rfl (muts_cons (Enc.mut_enc _ _ _ _ (aG_1.2 : List (Int × Int))) rfl))))), (keep_mut (keep_clear (s := s) (pk := [8]) h4 rfl rfl) rfl), (keep_mut (keep_clear (s := s) (pk := [8]) h6 rfl rfl) rfl), (keep_mut (keep_clear (s := s) (pk := [8]) h7 rfl rfl) rfl), (keep_mut rfl rfl)⟩ ?_
      rintro s ⟨h1, h2, h4, h6, h7, h8⟩
      refine .nsq ?_
      refine .seq ?_
      refine run_reg ?_
      refine e_end ?_
      refine g_v1 (t := 1) (u := (Enc.enc (aParents_2 : List Int))) (Enc.enc (aParents_2 : List Int)) h1 rfl rfl ?_
      obtain ⟨r_8, E_r_8, h⟩ := bind_some h
      refine g_call (m := 0) (al := true) (r := (Enc.enc (r_8 : (List Int)))) [Enc.enc (aParents_2 : (List Int))] (ta_cons (v := (Enc.enc (aParents_2 : List Int))) rfl rfl (Enc.erase_enc (aParents_2 : (List Int))) ta_nil) (H.c12 _ _ E_r_8) H.g12 (hal_of (ht_cons (v := (Enc.enc (aParents_2 : List Int))) rfl rfl rfl ht_nil)) rfl rfl rfl ?_
      refine g_v1 (t := 31) (u := (Enc.enc (r_8 : List Int))) (Enc.enc (r_8 : List Int)) rfl rfl rfl ?_
      refine g_end ?_
      refine e_end ?_
      refine renew [(1, (Enc.enc (aParents_2 : List Int))), (2, (.ref (.bx 2) 0 [] (.agg [(.int .i64 aG_1.1), (Enc.enc (aG_1.2 : List (Int × Int)))]))), (4, (.bool false)), (6, (.bool r_6.1)), (7, (.bool r_6.2)), (8, (.ref (.bx 8) 0 [] (.agg [(.int .i64 r_7.1), (Enc.enc (r_7.2 : List (Int × Int)))]))), (9, (Enc.enc (r_8 : List Int)))] ⟨h1, h2, h4, h6, h7, h8, rfl⟩ ?_
      rintro s ⟨h1, h2, h4, h6, h7, h8, h9⟩
      refine .nsq ?_
      refine .seq ?_
      refine run_reg ?_
      refine e_end ?_
      refine g_v1 (t := 8) (u := (.ref (.bx 8) 0 [] (.agg [(.int .i64 r_7.1), (Enc.enc (r_7.2 : List (Int × Int)))]))) (.agg [(.int .i64 r_7.1), (Enc.enc (r_7.2 : List (Int × Int)))]) h8 rfl rfl ?_
      refine g_v1 (t := 9) (u := (Enc.enc (r_8 : List Int))) (Enc.enc (r_8 : List Int)) h9 rfl rfl ?_
      obtain ⟨r_9, E_r_9, h⟩ := bind_some h
      refine g_call (m := 0) (al := false) (r := (.tup [Enc.enc (r_9.1 : Bool), Enc.enc (r_9.2 : Bool)])) [Enc.enc (r_7 : (Int × (List (Int × Int)))), Enc.enc (r_8 : (List Int))] (ta_cons (v := (.agg [(.int .i64 r_7.1), (Enc.enc (r_7.2 : List (Int × Int)))])) rfl rfl (Enc.erase_enc (r_7 : (Int × (List (Int × Int))))) (ta_cons (v := (Enc.enc (r_8 : List Int))) rfl rfl (Enc.erase_enc (r_8 : (List Int))) ta_nil)) (H.c17 _ _ _ E_r_9) H.g17 rfl rfl rfl rfl ?_
      refine g_v1 (t := 35) (u := (.tup [(.bool r_9.1), (.bool r_9.2)])) (.tup [(.bool r_9.1), (.bool r_9.2)]) rfl rfl rfl ?_
      refine g_v1 (t := 32) (u := (.tup [(.bool r_9.1), (.bool r_9.2)])) (.bool r_9.1) rfl rfl rfl ?_
      refine g_v1 (t := 32) (u := (.tup [(.bool r_9.1), (.bool r_9.2)])) (.bool r_9.2) rfl rfl rfl ?_
      refine g_v1 (t := 36) (u := (.bool r_9.1)) (.bool r_9.1) rfl rfl rfl ?_
      refine g_v1 (t := 37) (u := (.bool r_9.2)) (.bool r_9.2) rfl rfl rfl ?_
      refine g_end ?_
      refine e_end ?_
      refine renew [(1, (Enc.enc (aParents_2 : List Int))), (2, (.ref (.bx 2) 0 [] (.agg [(.int .i64 aG_1.1), (Enc.enc (aG_1.2 : List (Int × Int)))]))), (4, (.bool false)), (6, (.bool r_6.1)), (7, (.bool r_6.2)), (8, (.ref (.bx 8) 0 [] (.agg [(.int .i64 r_7.1), (Enc.enc (r_7.2 : List (Int × Int)))]))), (9, (Enc.enc (r_8 : List Int))), (10, (.bool r_9.1)), (11, (.bool r_9.2))] ⟨h1, h2, h4, h6, h7, h8, h9, rfl, rfl⟩ ?_
      rintro s ⟨h1, h2, h4, h6, h7, h8, h9, h10, h11⟩
      refine .nsq ?_
      refine .seq ?_
      refine .seq ?_
      refine run_reg ?_
      refine e_end ?_
      refine g_v1 (t := 10) (u := (.bool r_9.1)) (.bool r_9.1) h10 rfl rfl ?_
      refine g_v1 (t := 6) (u := (.bool r_6.1)) (.bool r_6.1) h6 rfl rfl ?_
      refine g_v2 (t1 := 38) (t2 := 39) (u1 := (.bool r_9.1)) (u2 := (.bool r_6.1)) (.bool (r_9.1 != r_6.1)) rfl rfl rfl rfl ?_
      refine g_v1 (t := 40) (u := (.bool (r_9.1 != r_6.1))) (.bool (r_9.1 != r_6.1)) rfl rfl rfl ?_
      refine split_on (c := (r_9.1 != r_6.1)) h (fun hg4 h => ?_) (fun hg4 h => ?_)
      · refine g_no (Eq.trans (b := .bool (r_9.1 != r_6.1)) rfl (congrArg V.bool hg4)) ?_
        refine g_no (Eq.trans (b := .bool (r_9.1 != r_6.1)) rfl (congrArg V.bool hg4)) ?_
        refine g_no (Eq.trans (b := .bool (r_9.1 != r_6.1)) rfl (congrArg V.bool hg4)) ?_
        refine g_v2 (t1 := 41) (t2 := 44) (u1 := (.bool true)) (u2 := (.tup [])) (.bool true) (Eq.trans (b := .bool (r_9.1 != r_6.1)) rfl (congrArg V.bool hg4)) rfl rfl rfl ?_
        refine g_end ?_
        refine e_end ?_
        refine renew [(1, (Enc.enc (aParents_2 : List Int))), (2, (.ref (.bx 2) 0 [] (.agg [(.int .i64 aG_1.1), (Enc.enc (aG_1.2 : List (Int × Int)))]))), (4, (.bool false)), (8, (.ref (.bx 8) 0 [] (.agg [(.int .i64 r_7.1), (Enc.enc (r_7.2 : List (Int × Int)))]))), (9, (Enc.enc (r_8 : List Int))), (45, (.bool true))] ⟨h1, h2, h4, h8, h9, rfl⟩ ?_
        rintro s ⟨h1, h2, h4, h8, h9, h45⟩
        exact t_f4_j1 H aParents_2 aG_1 r_7 r_8 true _ ⟨h1, h2, h4, h8, h9, h45⟩ h
      · refine g_yes (Eq.trans (b := .bool (r_9.1 != r_6.1)) rfl (congrArg V.bool hg4)) (g_v1 (t := 11) (u := (.bool r_9.2)) (.bool r_9.2) h11 rfl rfl ?_)
        refine g_yes (Eq.trans (b := .bool (r_9.1 != r_6.1)) rfl (congrArg V.bool hg4)) (g_v1 (t := 7) (u := (.bool r_6.2)) (.bool r_6.2) h7 rfl rfl ?_)
        refine g_yes (Eq.trans (b := .bool (r_9.1 != r_6.1)) rfl (congrArg V.bool hg4)) (g_v2 (t1 := 42) (t2 := 43) (u1 := (.bool r_9.2)) (u2 := (.bool r_6.2)) (.bool (r_9.2 != r_6.2)) rfl rfl rfl rfl ?_)
        refine g_v2 (t1 := 41) (t2 := 44) (u1 := (.bool false)) (u2 := (.bool (r_9.2 != r_6.2))) (.bool (r_9.2 != r_6.2)) (Eq.trans (b := .bool (r_9.1 != r_6.1)) rfl (congrArg V.bool hg4)) rfl rfl rfl ?_
        refine g_end ?_
        refine e_end ?_
        refine renew [(1, (Enc.enc (aParents_2 : List Int))), (2, (.ref (.bx 2) 0 [] (.agg [(.int .i64 aG_1.1), (Enc.enc (aG_1.2 : List (Int × Int)))]))), (4, (.bool false)), (8, (.ref (.bx 8) 0 [] (.agg [(.int .i64 r_7.1), (Enc.enc (r_7.2 : List (Int × Int)))]))), (9, (Enc.enc (r_8 : List Int))), (45, (.bool (r_9.2 != r_6.2)))] ⟨h1, h2, h4, h8, h9, rfl⟩ ?_
        rintro s ⟨h1, h2, h4, h8, h9, h45⟩
        exact t_f4_j1 H aParents_2 aG_1 r_7 r_8 (r_9.2 != r_6.2) _ ⟨h1, h2, h4, h8, h9, h45⟩ h
end
def e4 (F : Nat) : Ent := ⟨4, dn2 (w_FnExactIsForest F) (fun (r : Bool) => (Enc.enc (r : Bool))), 0, false⟩
theorem o4 {D : Den} {σ : Sig} {F : Nat} (hF : Fits2 Try.prog D σ) (H : H4 D σ F) : (e4 F).Ok Try.prog := by
  refine ⟨fun args r h => ?_, ⟨Try.f4, Try.func4, rfl, rfl⟩⟩
  obtain ⟨x0, x1, y, rfl, hy, rfl⟩ := dn2_open h
  exact contract_run hF (by kernel_rfl) Try.func4 rfl c4 (show 2 ≤ Try.f4.ntmps by decide) (t4 H x0 x1 _ ⟨rfl, rfl⟩ hy)
end Go.Zq
