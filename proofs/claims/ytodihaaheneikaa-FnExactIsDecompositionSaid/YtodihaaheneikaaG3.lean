/- Functions of the program as typed functions, and that the machine runs as they say (part 3). No further condition. -/
import Derived.Test.YtodihaaheneikaaK2
import Derived.Test.YtodihaaheneikaaProg
import Derived.Test.YtodihaaheneikaaChecked
import Derived.KernelRfl
import Derived.Test.YtodihaaheneikaaG2
set_option linter.unusedVariables false
set_option linter.unusedSimpArgs false
/- Functions of the program, as typed functions, and that the machine runs as they say. -/
namespace Go.Zq
open Go.Proofs
/- loop.example/g01109/impl.IsGraph -/
def A53_5 : AC := (AC.cond (O.t 48) (AC.seq (AC.reg [] [(I.mk (some 2) none false (X.v (A.mov (O.k (V.bool false)))))] []) AC.ret) AC.skip)
def A53_4 : AC := (AC.seq (AC.reg [] [(I.mk (some 17) none false (X.v (A.idxA (O.t 4) (O.k (V.int IntKind.i64 (Int.ofNat 0))) 2 1))), (I.mk (some 18) none false (X.v (A.load Sh.s (O.t 17)))), (I.mk (some 19) none false (X.v (A.bin BinOp.lss (O.t 18) (O.k (V.int IntKind.i64 (Int.ofNat 0)))))), (I.mk (some 20) none false (X.v (A.mov (O.t 19)))), (I.mk (some 21) (some (20, false)) false (X.v (A.idxA (O.t 4) (O.k (V.int IntKind.i64 (Int.ofNat 0))) 2 1))), (I.mk (some 22) (some (20, false)) false (X.v (A.load Sh.s (O.t 21)))), (I.mk (some 23) (some (20, false)) false (X.v (A.idxA (O.t 4) (O.k (V.int IntKind.i64 (Int.ofNat 1))) 2 1))), (I.mk (some 24) (some (20, false)) false (X.v (A.load Sh.s (O.t 23)))), (I.mk (some 25) (some (20, false)) false (X.v (A.bin BinOp.geq (O.t 22) (O.t 24)))), (I.mk (some 26) none false (X.v (A.pick (O.t 20) (O.k (V.bool true)) (O.t 25)))), (I.mk (some 27) none false (X.v (A.mov (O.t 26)))), (I.mk (some 28) (some (27, false)) false (X.v (A.idxA (O.t 4) (O.k (V.int IntKind.i64 (Int.ofNat 1))) 2 1))), (I.mk (some 29) (some (27, false)) false (X.v (A.load Sh.s (O.t 28)))), (I.mk (some 30) (some (27, false)) false (X.v (A.fld (O.t 1) 0 0))), (I.mk (some 31) (some (27, false)) false (X.v (A.load Sh.s (O.t 30)))), (I.mk (some 32) (some (27, false)) false (X.v (A.bin BinOp.geq (O.t 29) (O.t 31)))), (I.mk (some 33) none false (X.v (A.pick (O.t 27) (O.k (V.bool true)) (O.t 32)))), (I.mk (some 34) none false (X.v (A.mov (O.t 33)))), (I.mk (some 35) (some (34, false)) false (X.v (A.mov (O.t 3)))), (I.mk (some 36) (some (34, false)) false (X.v (A.bin BinOp.gtr (O.t 35) (O.k (V.int IntKind.i64 (Int.ofNat 0)))))), (I.mk (some 37) (some (34, false)) false (X.v (A.mov (O.t 36)))), (I.mk (some 38) (some (37, true)) false (X.v (A.fld (O.t 1) 1 1))), (I.mk (some 39) (some (37, true)) false (X.v (A.load Sh.p (O.t 38)))), (I.mk (some 40) (some (37, true)) false (X.v (A.mov (O.t 3)))), (I.mk (some 41) (some (37, true)) false (X.v (A.bin BinOp.sub (O.t 40) (O.k (V.int IntKind.i64 (Int.ofNat 1)))))), (I.mk (some 42) (some (37, true)) false (X.v (A.idx (O.t 39) (O.t 41) 2))), (I.mk (some 43) (some (37, true)) false (X.v (A.sliceA (O.t 42) 2 Sh.s))), (I.mk (some 44) (some (37, true)) false (X.v (A.sliceA (O.t 4) 2 Sh.s))), (I.mk (some 45) (some (37, true)) false (X.call (O.k (V.fn 81 [] [])) [(O.t 43), (O.t 44)])), (I.mk (some 46) (some (37, true)) false (X.v (A.bin BinOp.geq (O.t 45) (O.k (V.int IntKind.i64 (Int.ofNat 0)))))), (I.mk (some 47) (some (34, false)) false (X.v (A.pick (O.t 37) (O.t 46) (O.k (V.bool false))))), (I.mk (some 48) none false (X.v (A.pick (O.t 34) (O.k (V.bool true)) (O.t 47))))] []) A53_5)
def A53_6 : AC := (AC.reg [] [(I.mk (some 49) none false (X.v (A.bin BinOp.add (O.t 12) (O.k (V.int IntKind.i64 (Int.ofNat 1)))))), (I.mk (some 12) none false (X.v (A.mov (O.t 49))))] [])
def A53_3 : AC := (AC.seq (AC.block 1 (AC.seq (AC.reg [.clr [4]] [(I.mk (some 14) none false (X.v (A.mov (O.t 12)))), (I.mk (some 15) none false (X.v (A.idx (O.t 10) (O.t 12) 2))), (I.mk (some 16) none false (X.v (A.load (Sh.ag [Sh.s, Sh.s]) (O.t 15)))), (I.mk (some 4) none false (X.alloc (V.agg [(V.int IntKind.i64 (Int.ofNat 0)), (V.int IntKind.i64 (Int.ofNat 0))]))), (I.mk (some 3) none false (X.v (A.mov (O.t 14)))), (I.mk none none false (X.store (Sh.ag [Sh.s, Sh.s]) (O.t 4) (O.t 16)))] []) A53_4)) A53_6)
def A53_2 : AC := (AC.seq (AC.cond (O.t 13) AC.skip (AC.exit 0)) A53_3)
def A53_1 : AC := (AC.seq (AC.reg [] [(I.mk (some 13) none false (X.v (A.bin BinOp.lss (O.t 12) (O.t 11))))] []) A53_2)
def A53_7 : AC := (AC.seq (AC.reg [] [(I.mk (some 2) none false (X.v (A.mov (O.k (V.bool true)))))] []) AC.ret)
def A53_9 : AC := (AC.cond (O.t 8) (AC.seq (AC.reg [] [(I.mk (some 2) none false (X.v (A.mov (O.k (V.bool false)))))] []) AC.ret) AC.skip)
def A53_11 : AC := (AC.block 0 (AC.loop A53_1))
def A53_10 : AC := (AC.seq (AC.seq (AC.reg [] [(I.mk (some 9) none false (X.v (A.fld (O.t 1) 1 1))), (I.mk (some 10) none false (X.v (A.load Sh.p (O.t 9)))), (I.mk (some 11) none false (X.v (A.len (O.t 10)))), (I.mk (some 12) none false (X.v (A.mov (O.k (V.int IntKind.i64 (Int.ofNat 0))))))] []) A53_11) A53_7)
def A53_8 : AC := (AC.seq (AC.seq (AC.reg [] [(I.mk (some 5) none false (X.v (A.fld (O.t 1) 0 0))), (I.mk (some 6) none false (X.v (A.load Sh.s (O.t 5)))), (I.mk (some 7) none false (X.call (O.k (V.fn 62 [] [])) [(O.t 6), (O.k (V.int IntKind.i64 (Int.ofNat 0))), (O.k (V.int IntKind.i64 (Int.ofNat 8)))])), (I.mk (some 8) none false (X.v (A.un UnOp.not (O.t 7))))] []) A53_9) A53_10)
def A53 : AC := (AC.seq (AC.reg [.clr [1]] [(I.mk (some 1) none false (X.box (O.t 0))), (I.mk (some 2) none false (X.v (A.mov (O.k (V.bool false)))))] []) A53_8)
def an53 : List An := [{ id := 0, pre := [.clr [1]], ep := [], lin := [], sp := [] }, { id := 5, pre := [.clr [4]], ep := [], lin := [], sp := [] }]
theorem c53 : cC Try.prog Try.f53.ntmps an53 (Try.f53.body.getD .skip) = some A53 := by kernel_rfl
structure H53 (D : Den) (σ : Sig) (F : Nat) : Prop where
  c62 : ∀ (x0 : Int) (x1 : Int) (x2 : Int) r, i_within F x0 x1 x2 = some r → D 62 [Enc.enc x0, Enc.enc x1, Enc.enc x2] = some (Enc.enc (r : Bool))
  g62 : σ 62 = some (0, false)
  c81 : ∀ (x0 : (List Int)) (x1 : (List Int)) r, slices_Compare F x0 x1 = some r → D 81 [Enc.enc x0, Enc.enc x1] = some (Enc.enc (r : Int))
  g81 : σ 81 = some (0, false)
abbrev R53 (r : Bool) : (Nat → V) → Prop := RR Try.prog [.tmp 2] 0 false (Enc.enc (r : Bool))
section
variable {D : Den} {σ : Sig} {F : Nat} {r : Bool}
def i_IsGraph_j1 (F : Nat) (g_1 : (Int × (List (Int × Int)))) (t12_9 : Int) (c1 : Int → Option Bool) (t48_19 : Bool) : Option Bool :=
  bif t48_19 then
    some false
  else
    c1 (w64 (t12_9 + 1))
theorem t_f53_j1 (H : H53 D σ F) (g_1 : (Int × (List (Int × Int)))) (t12_9 : Int) (c1 : Int → Option Bool) (Hc1 : ∀ (t12_9 : Int) (s : Nat → V), Facts [(1, (.ref (.bx 1) 0 [] (.agg [(.int .i64 g_1.1), (Enc.enc (g_1.2 : List (Int × Int)))]))), (2, (.bool false)), (10, (Enc.enc (g_1.2 : List (Int × Int)))), (11, (.int .i64 (g_1.2.length : Int))), (12, (.int .i64 t12_9))] s → c1 t12_9 = some r → Run D σ (R53 r) (.run A53_1 [.lp A53_1, .bk 0, .sq A53_7]) s) (t48_19 : Bool) (s : Nat → V) (hs : Facts [(1, (.ref (.bx 1) 0 [] (.agg [(.int .i64 g_1.1), (Enc.enc (g_1.2 : List (Int × Int)))]))), (2, (.bool false)), (10, (Enc.enc (g_1.2 : List (Int × Int)))), (11, (.int .i64 (g_1.2.length : Int))), (12, (.int .i64 t12_9)), (48, (.bool t48_19))] s) (h : i_IsGraph_j1 F g_1 t12_9 c1 t48_19 = some r) : Run D σ (R53 r) (.nrm [.sq A53_5, .bk 1, .sq A53_6, .lp A53_1, .bk 0, .sq A53_7]) s := by
  unfold i_IsGraph_j1 at h
  obtain ⟨h1, h2, h10, h11, h12, h48⟩ := hs
  refine .nsq ?_
  refine run_cond (t := t48_19) h48 h (fun h => ?_) (fun h => ?_)
  · refine .seq ?_
    refine run_reg ?_
    refine e_end ?_
    refine g_v0 (.bool false) rfl rfl ?_
    refine g_end ?_
    refine e_end ?_
    refine renew [(1, (.ref (.bx 1) 0 [] (.agg [(.int .i64 g_1.1), (Enc.enc (g_1.2 : List (Int × Int)))]))), (2, (.bool false)), (10, (Enc.enc (g_1.2 : List (Int × Int)))), (11, (.int .i64 (g_1.2.length : Int))), (12, (.int .i64 t12_9))] ⟨h1, rfl, h10, h11, h12⟩ ?_
    rintro s ⟨h1, h2, h10, h11, h12⟩
    refine .nsq ?_
    refine .ret ?_
    have hr := Option.some.inj h
    subst hr
    exact rrA (res_tmp h2) rfl
  · refine .skip ?_
    refine .nbk ?_
    refine .nsq ?_
    refine run_reg ?_
    refine e_end ?_
    refine g_v1 (t := 12) (u := (.int .i64 t12_9)) (.int .i64 (w64 (t12_9 + 1))) h12 rfl rfl ?_
    refine g_v1 (t := 49) (u := (.int .i64 (w64 (t12_9 + 1)))) (.int .i64 (w64 (t12_9 + 1))) rfl rfl rfl ?_
    refine g_end ?_
    refine e_end ?_
    refine renew [(1, (.ref (.bx 1) 0 [] (.agg [(.int .i64 g_1.1), (Enc.enc (g_1.2 : List (Int × Int)))]))), (2, (.bool false)), (10, (Enc.enc (g_1.2 : List (Int × Int)))), (11, (.int .i64 (g_1.2.length : Int))), (12, (.int .i64 (w64 (t12_9 + 1))))] ⟨h1, h2, h10, h11, rfl⟩ ?_
    rintro s ⟨h1, h2, h10, h11, h12⟩
    refine .nlp ?_
    exact Hc1 (w64 (t12_9 + 1)) _ ⟨h1, h2, h10, h11, h12⟩ h
def i_IsGraph_l1 (F : Nat) (g_1 : (Int × (List (Int × Int))))  : Nat → Int → Option Bool
  | 0, _ => none
  | k + 1, t12_9 =>
    bif decide (t12_9 < (g_1.2.length : Int)) then
      (idx g_1.2 t12_9).bind fun e_16 =>
      bif decide (e_16.1 < 0) then
        i_IsGraph_j1 F g_1 t12_9 (i_IsGraph_l1 F g_1 k) true
      else
        bif decide (e_16.1 ≥ e_16.2) then
          i_IsGraph_j1 F g_1 t12_9 (i_IsGraph_l1 F g_1 k) true
        else
          bif decide (e_16.2 ≥ g_1.1) then
            i_IsGraph_j1 F g_1 t12_9 (i_IsGraph_l1 F g_1 k) true
          else
            bif decide (t12_9 > 0) then
              (idx g_1.2 (w64 (t12_9 - 1))).bind fun e_20 =>
              (slices_Compare F [e_20.1, e_20.2] [e_16.1, e_16.2]).bind fun r_21 =>
              i_IsGraph_j1 F g_1 t12_9 (i_IsGraph_l1 F g_1 k) (decide (r_21 ≥ 0))
            else
              i_IsGraph_j1 F g_1 t12_9 (i_IsGraph_l1 F g_1 k) false
    else
      some true
theorem t_f53_l1 (H : H53 D σ F) (g_1 : (Int × (List (Int × Int))))  : ∀ (k : Nat) (t12_9 : Int) (s : Nat → V), Facts [(1, (.ref (.bx 1) 0 [] (.agg [(.int .i64 g_1.1), (Enc.enc (g_1.2 : List (Int × Int)))]))), (2, (.bool false)), (10, (Enc.enc (g_1.2 : List (Int × Int)))), (11, (.int .i64 (g_1.2.length : Int))), (12, (.int .i64 t12_9))] s → i_IsGraph_l1 F g_1 k t12_9 = some r → Run D σ (R53 r) (.run A53_1 [.lp A53_1, .bk 0, .sq A53_7]) s := by
  intro k
  induction k with
  | zero => intro t12_9 s _ h; exact nomatch (h : (none : Option _) = some r)
  | succ k ih =>
    intro t12_9 s hs h
    rw [i_IsGraph_l1] at h
    obtain ⟨h1, h2, h10, h11, h12⟩ := hs
    refine .seq ?_
    refine run_reg ?_
    refine e_end ?_
    refine g_v2 (t1 := 12) (t2 := 11) (u1 := (.int .i64 t12_9)) (u2 := (.int .i64 (g_1.2.length : Int))) (.bool (decide (t12_9 < (g_1.2.length : Int)))) h12 h11 rfl rfl ?_
    refine g_end ?_
    refine e_end ?_
    refine renew [(1, (.ref (.bx 1) 0 [] (.agg [(.int .i64 g_1.1), (Enc.enc (g_1.2 : List (Int × Int)))]))), (2, (.bool false)), (10, (Enc.enc (g_1.2 : List (Int × Int)))), (11, (.int .i64 (g_1.2.length : Int))), (12, (.int .i64 t12_9)), (13, (.bool (decide (t12_9 < (g_1.2.length : Int)))))] ⟨h1, h2, h10, h11, h12, rfl⟩ ?_
    rintro s ⟨h1, h2, h10, h11, h12, h13⟩
    refine .nsq ?_
    refine .seq ?_
    refine run_cond (t := decide (t12_9 < (g_1.2.length : Int))) h13 h (fun h => ?_) (fun h => ?_)
    · refine .skip ?_
      refine .nsq ?_
      refine .seq ?_
      refine .block ?_
      refine .seq ?_
      refine run_reg ?_
      refine e_clr ?_
      refine e_end ?_
      refine g_v1 (t := 12) (u := (.int .i64 t12_9)) (.int .i64 t12_9) (keep_clear (s := s) (pk := [4]) h12 rfl rfl) rfl rfl ?_
      obtain ⟨e_16, E_e_16, h⟩ := bind_some h
      refine g_v (.ref .sh 0 [] (.agg [(.int .i64 e_16.1), (.int .i64 e_16.2)])) (ev_idx (t := .sh) (lo := 0) (xs := g_1.2) (keep_clear (s := s) (pk := [4]) h10 rfl (Enc.map_enc _ (g_1.2 : List (Int × Int)))) (keep_clear (s := s) (pk := [4]) h12 rfl rfl) E_e_16 rfl rfl) ?_
      refine g_v1 (t := 15) (u := (.ref .sh 0 [] (.agg [(.int .i64 e_16.1), (.int .i64 e_16.2)]))) (.agg [(.int .i64 e_16.1), (.int .i64 e_16.2)]) rfl rfl rfl ?_
      refine g_alloc (gone_clear (s := s) (pk := [4]) (t := 4) rfl) ?_
      refine g_v1 (t := 14) (u := (.int .i64 t12_9)) (.int .i64 t12_9) rfl rfl rfl ?_
      refine g_store (.agg [(.int .i64 e_16.1), (.int .i64 e_16.2)]) (rd_of rfl rfl) (rd_of rfl rfl) (by refine ⟨by decide, by decide, rfl, rfl, rfl, ?_⟩; first | rfl | simp [V.toks, V.tokss, Enc.toks_enc]) ?_
      refine g_end ?_
      refine e_end ?_
      refine renew [(1, (.ref (.bx 1) 0 [] (.agg [(.int .i64 g_1.1), (Enc.enc (g_1.2 : List (Int × Int)))]))), (2, (.bool false)), (3, (.int .i64 t12_9)), (4, (.ref (.bx 4) 0 [] (.agg [(.int .i64 e_16.1), (.int .i64 e_16.2)]))), (10, (Enc.enc (g_1.2 : List (Int × Int)))), (11, (.int .i64 (g_1.2.length : Int))), (12, (.int .i64 t12_9))] ⟨(keep_mut (keep_clear (s := s) (pk := [4]) h1 rfl (map_bx rfl (map_agg (maps_cons rfl (maps_cons (Enc.map_enc _ (g_1.2 : List (Int × Int))) maps_nil))))) (mut_ref_ne rfl rfl (mut_agg (muts_cons rfl (muts_cons (Enc.mut_enc _ _ _ _ (g_1.2 : List (Int × Int))) rfl))))), (keep_mut (keep_clear (s := s) (pk := [4]) h2 rfl rfl) rfl), (keep_mut rfl rfl), (keep_mut rfl rfl), (keep_mut (keep_clear (s := s) (pk := [4]) h10 rfl (Enc.map_enc _ (g_1.2 : List (Int × Int)))) (Enc.mut_enc _ _ _ _ (g_1.2 : List (Int × Int)))), (keep_mut (keep_clear (s := s) (pk := [4]) h11 rfl rfl) rfl), (keep_mut (keep_clear (s := s) (pk := [4]) h12 rfl rfl) rfl)⟩ ?_
      rintro s ⟨h1, h2, h3, h4, h10, h11, h12⟩
      refine .nsq ?_
      refine .seq ?_
      refine run_reg ?_
      refine e_end ?_
      refine g_v1 (t := 4) (u := (.ref (.bx 4) 0 [] (.agg [(.int .i64 e_16.1), (.int .i64 e_16.2)]))) (.ref (.bx 4) 0 [0] (.int .i64 e_16.1)) h4 rfl rfl ?_
      refine g_v1 (t := 17) (u := (.ref (.bx 4) 0 [0] (.int .i64 e_16.1))) (.int .i64 e_16.1) rfl rfl rfl ?_
      refine g_v1 (t := 18) (u := (.int .i64 e_16.1)) (.bool (decide (e_16.1 < 0))) rfl rfl rfl ?_
      refine g_v1 (t := 19) (u := (.bool (decide (e_16.1 < 0)))) (.bool (decide (e_16.1 < 0))) rfl rfl rfl ?_
      refine split_on (c := decide (e_16.1 < 0)) h (fun hg4 h => ?_) (fun hg4 h => ?_)
      · refine g_no (Eq.trans (b := .bool (decide (e_16.1 < 0))) rfl (congrArg V.bool hg4)) ?_
        refine g_no (Eq.trans (b := .bool (decide (e_16.1 < 0))) rfl (congrArg V.bool hg4)) ?_
        refine g_no (Eq.trans (b := .bool (decide (e_16.1 < 0))) rfl (congrArg V.bool hg4)) ?_
        refine g_no (Eq.trans (b := .bool (decide (e_16.1 < 0))) rfl (congrArg V.bool hg4)) ?_
        refine g_no (Eq.trans (b := .bool (decide (e_16.1 < 0))) rfl (congrArg V.bool hg4)) ?_
        refine g_v2 (t1 := 20) (t2 := 25) (u1 := (.bool true)) (u2 := (.tup [])) (.bool true) (Eq.trans (b := .bool (decide (e_16.1 < 0))) rfl (congrArg V.bool hg4)) rfl rfl rfl ?_
        refine g_v1 (t := 26) (u := (.bool true)) (.bool true) rfl rfl rfl ?_
        refine g_no rfl ?_
        refine g_no rfl ?_
        refine g_no rfl ?_
        refine g_no rfl ?_
        refine g_no rfl ?_
        refine g_v2 (t1 := 27) (t2 := 32) (u1 := (.bool true)) (u2 := (.tup [])) (.bool true) rfl rfl rfl rfl ?_
        refine g_v1 (t := 33) (u := (.bool true)) (.bool true) rfl rfl rfl ?_
        refine g_no rfl ?_
        refine g_no rfl ?_
        refine g_no rfl ?_
        refine g_skip rfl ?_
        refine g_skip rfl ?_
        refine g_skip rfl ?_
        refine g_skip rfl ?_
        refine g_skip rfl ?_
        refine g_skip rfl ?_
        refine g_skip rfl ?_
        refine g_skip rfl ?_
        refine g_skip rfl ?_
        refine g_no rfl ?_
        refine g_v2 (t1 := 34) (t2 := 47) (u1 := (.bool true)) (u2 := (.tup [])) (.bool true) rfl rfl rfl rfl ?_
        refine g_end ?_
        refine e_end ?_
        refine renew [(1, (.ref (.bx 1) 0 [] (.agg [(.int .i64 g_1.1), (Enc.enc (g_1.2 : List (Int × Int)))]))), (2, (.bool false)), (10, (Enc.enc (g_1.2 : List (Int × Int)))), (11, (.int .i64 (g_1.2.length : Int))), (12, (.int .i64 t12_9)), (48, (.bool true))] ⟨h1, h2, h10, h11, h12, rfl⟩ ?_
        rintro s ⟨h1, h2, h10, h11, h12, h48⟩
        exact t_f53_j1 H g_1 t12_9 (i_IsGraph_l1 F g_1 k) ih true _ ⟨h1, h2, h10, h11, h12, h48⟩ h
      · refine g_yes (Eq.trans (b := .bool (decide (e_16.1 < 0))) rfl (congrArg V.bool hg4)) (g_v1 (t := 4) (u := (.ref (.bx 4) 0 [] (.agg [(.int .i64 e_16.1), (.int .i64 e_16.2)]))) (.ref (.bx 4) 0 [0] (.int .i64 e_16.1)) h4 rfl rfl ?_)
        refine g_yes (Eq.trans (b := .bool (decide (e_16.1 < 0))) rfl (congrArg V.bool hg4)) (g_v1 (t := 21) (u := (.ref (.bx 4) 0 [0] (.int .i64 e_16.1))) (.int .i64 e_16.1) rfl rfl rfl ?_)
        refine g_yes (Eq.trans (b := .bool (decide (e_16.1 < 0))) rfl (congrArg V.bool hg4)) (g_v1 (t := 4) (u := (.ref (.bx 4) 0 [] (.agg [(.int .i64 e_16.1), (.int .i64 e_16.2)]))) (.ref (.bx 4) 0 [1] (.int .i64 e_16.2)) h4 rfl rfl ?_)
        refine g_yes (Eq.trans (b := .bool (decide (e_16.1 < 0))) rfl (congrArg V.bool hg4)) (g_v1 (t := 23) (u := (.ref (.bx 4) 0 [1] (.int .i64 e_16.2))) (.int .i64 e_16.2) rfl rfl rfl ?_)
        refine g_yes (Eq.trans (b := .bool (decide (e_16.1 < 0))) rfl (congrArg V.bool hg4)) (g_v2 (t1 := 22) (t2 := 24) (u1 := (.int .i64 e_16.1)) (u2 := (.int .i64 e_16.2)) (.bool (decide (e_16.1 ≥ e_16.2))) rfl rfl rfl rfl ?_)
        refine g_v2 (t1 := 20) (t2 := 25) (u1 := (.bool false)) (u2 := (.bool (decide (e_16.1 ≥ e_16.2)))) (.bool (decide (e_16.1 ≥ e_16.2))) (Eq.trans (b := .bool (decide (e_16.1 < 0))) rfl (congrArg V.bool hg4)) rfl rfl rfl ?_
        refine g_v1 (t := 26) (u := (.bool (decide (e_16.1 ≥ e_16.2)))) (.bool (decide (e_16.1 ≥ e_16.2))) rfl rfl rfl ?_
        refine split_on (c := decide (e_16.1 ≥ e_16.2)) h (fun hg11 h => ?_) (fun hg11 h => ?_)
        · refine g_no (Eq.trans (b := .bool (decide (e_16.1 ≥ e_16.2))) rfl (congrArg V.bool hg11)) ?_
          refine g_no (Eq.trans (b := .bool (decide (e_16.1 ≥ e_16.2))) rfl (congrArg V.bool hg11)) ?_
          refine g_no (Eq.trans (b := .bool (decide (e_16.1 ≥ e_16.2))) rfl (congrArg V.bool hg11)) ?_
          refine g_no (Eq.trans (b := .bool (decide (e_16.1 ≥ e_16.2))) rfl (congrArg V.bool hg11)) ?_
          refine g_no (Eq.trans (b := .bool (decide (e_16.1 ≥ e_16.2))) rfl (congrArg V.bool hg11)) ?_
          refine g_v2 (t1 := 27) (t2 := 32) (u1 := (.bool true)) (u2 := (.tup [])) (.bool true) (Eq.trans (b := .bool (decide (e_16.1 ≥ e_16.2))) rfl (congrArg V.bool hg11)) rfl rfl rfl ?_
          refine g_v1 (t := 33) (u := (.bool true)) (.bool true) rfl rfl rfl ?_
          refine g_no rfl ?_
          refine g_no rfl ?_
          refine g_no rfl ?_
          refine g_skip rfl ?_
          refine g_skip rfl ?_
          refine g_skip rfl ?_
          refine g_skip rfl ?_
          refine g_skip rfl ?_
          refine g_skip rfl ?_
          refine g_skip rfl ?_
          refine g_skip rfl ?_
          refine g_skip rfl ?_
          refine g_no rfl ?_
          refine g_v2 (t1 := 34) (t2 := 47) (u1 := (.bool true)) (u2 := (.tup [])) (.bool true) rfl rfl rfl rfl ?_
          refine g_end ?_
          refine e_end ?_
          refine renew [(1, (.ref (.bx 1) 0 [] (.agg [(.int .i64 g_1.1), (Enc.enc (g_1.2 : List (Int × Int)))]))), (2, (.bool false)), (10, (Enc.enc (g_1.2 : List (Int × Int)))), (11, (.int .i64 (g_1.2.length : Int))), (12, (.int .i64 t12_9)), (48, (.bool true))] ⟨h1, h2, h10, h11, h12, rfl⟩ ?_
          rintro s ⟨h1, h2, h10, h11, h12, h48⟩
          exact t_f53_j1 H g_1 t12_9 (i_IsGraph_l1 F g_1 k) ih true _ ⟨h1, h2, h10, h11, h12, h48⟩ h
        · refine g_yes (Eq.trans (b := .bool (decide (e_16.1 ≥ e_16.2))) rfl (congrArg V.bool hg11)) (g_v1 (t := 4) (u := (.ref (.bx 4) 0 [] (.agg [(.int .i64 e_16.1), (.int .i64 e_16.2)]))) (.ref (.bx 4) 0 [1] (.int .i64 e_16.2)) h4 rfl rfl ?_)
          refine g_yes (Eq.trans (b := .bool (decide (e_16.1 ≥ e_16.2))) rfl (congrArg V.bool hg11)) (g_v1 (t := 28) (u := (.ref (.bx 4) 0 [1] (.int .i64 e_16.2))) (.int .i64 e_16.2) rfl rfl rfl ?_)
          refine g_yes (Eq.trans (b := .bool (decide (e_16.1 ≥ e_16.2))) rfl (congrArg V.bool hg11)) (g_v1 (t := 1) (u := (.ref (.bx 1) 0 [] (.agg [(.int .i64 g_1.1), (Enc.enc (g_1.2 : List (Int × Int)))]))) (.ref (.bx 1) 0 [0] (.int .i64 g_1.1)) h1 rfl rfl ?_)
          refine g_yes (Eq.trans (b := .bool (decide (e_16.1 ≥ e_16.2))) rfl (congrArg V.bool hg11)) (g_v1 (t := 30) (u := (.ref (.bx 1) 0 [0] (.int .i64 g_1.1))) (.int .i64 g_1.1) rfl rfl rfl ?_)
          refine g_yes (Eq.trans (b := .bool (decide (e_16.1 ≥ e_16.2))) rfl (congrArg V.bool hg11)) (g_v2 (t1 := 29) (t2 := 31) (u1 := (.int .i64 e_16.2)) (u2 := (.int .i64 g_1.1)) (.bool (decide (e_16.2 ≥ g_1.1))) rfl rfl rfl rfl ?_)
          refine g_v2 (t1 := 27) (t2 := 32) (u1 := (.bool false)) (u2 := (.bool (decide (e_16.2 ≥ g_1.1)))) (.bool (decide (e_16.2 ≥ g_1.1))) (Eq.trans (b := .bool (decide (e_16.1 ≥ e_16.2))) rfl (congrArg V.bool hg11)) rfl rfl rfl ?_
          refine g_v1 (t := 33) (u := (.bool (decide (e_16.2 ≥ g_1.1)))) (.bool (decide (e_16.2 ≥ g_1.1))) rfl rfl rfl ?_
          refine split_on (c := decide (e_16.2 ≥ g_1.1)) h (fun hg18 h => ?_) (fun hg18 h => ?_)
          · refine g_no (Eq.trans (b := .bool (decide (e_16.2 ≥ g_1.1))) rfl (congrArg V.bool hg18)) ?_
            refine g_no (Eq.trans (b := .bool (decide (e_16.2 ≥ g_1.1))) rfl (congrArg V.bool hg18)) ?_
            refine g_no (Eq.trans (b := .bool (decide (e_16.2 ≥ g_1.1))) rfl (congrArg V.bool hg18)) ?_
            refine g_skip rfl ?_
            refine g_skip rfl ?_
            refine g_skip rfl ?_
            refine g_skip rfl ?_
            refine g_skip rfl ?_
            refine g_skip rfl ?_
            refine g_skip rfl ?_
            refine g_skip rfl ?_
            refine g_skip rfl ?_
            refine g_no (Eq.trans (b := .bool (decide (e_16.2 ≥ g_1.1))) rfl (congrArg V.bool hg18)) ?_
            refine g_v2 (t1 := 34) (t2 := 47) (u1 := (.bool true)) (u2 := (.tup [])) (.bool true) (Eq.trans (b := .bool (decide (e_16.2 ≥ g_1.1))) rfl (congrArg V.bool hg18)) rfl rfl rfl ?_
            refine g_end ?_
            refine e_end ?_
            refine renew [(1, (.ref (.bx 1) 0 [] (.agg [(.int .i64 g_1.1), (Enc.enc (g_1.2 : List (Int × Int)))]))), (2, (.bool false)), (10, (Enc.enc (g_1.2 : List (Int × Int)))), (11, (.int .i64 (g_1.2.length : Int))), (12, (.int .i64 t12_9)), (48, (.bool true))] ⟨h1, h2, h10, h11, h12, rfl⟩ ?_
            rintro s ⟨h1, h2, h10, h11, h12, h48⟩
            exact t_f53_j1 H g_1 t12_9 (i_IsGraph_l1 F g_1 k) ih true _ ⟨h1, h2, h10, h11, h12, h48⟩ h
          · refine g_yes (Eq.trans (b := .bool (decide (e_16.2 ≥ g_1.1))) rfl (congrArg V.bool hg18)) (g_v1 (t := 3) (u := (.int .i64 t12_9)) (.int .i64 t12_9) h3 rfl rfl ?_)
            refine g_yes (Eq.trans (b := .bool (decide (e_16.2 ≥ g_1.1))) rfl (congrArg V.bool hg18)) (g_v1 (t := 35) (u := (.int .i64 t12_9)) (.bool (decide (t12_9 > 0))) rfl rfl rfl ?_)
            refine g_yes (Eq.trans (b := .bool (decide (e_16.2 ≥ g_1.1))) rfl (congrArg V.bool hg18)) (g_v1 (t := 36) (u := (.bool (decide (t12_9 > 0)))) (.bool (decide (t12_9 > 0))) rfl rfl rfl ?_)
            refine split_on (c := decide (t12_9 > 0)) h (fun hg21 h => ?_) (fun hg21 h => ?_)
            · refine g_yes (Eq.trans (b := .bool (decide (t12_9 > 0))) rfl (congrArg V.bool hg21)) (g_v1 (t := 1) (u := (.ref (.bx 1) 0 [] (.agg [(.int .i64 g_1.1), (Enc.enc (g_1.2 : List (Int × Int)))]))) (.ref (.bx 1) 0 [1] (Enc.enc (g_1.2 : List (Int × Int)))) h1 rfl rfl ?_)
              refine g_yes (Eq.trans (b := .bool (decide (t12_9 > 0))) rfl (congrArg V.bool hg21)) (g_v1 (t := 38) (u := (.ref (.bx 1) 0 [1] (Enc.enc (g_1.2 : List (Int × Int))))) (Enc.enc (g_1.2 : List (Int × Int))) rfl rfl rfl ?_)
              refine g_yes (Eq.trans (b := .bool (decide (t12_9 > 0))) rfl (congrArg V.bool hg21)) (g_v1 (t := 3) (u := (.int .i64 t12_9)) (.int .i64 t12_9) h3 rfl rfl ?_)
              refine g_yes (Eq.trans (b := .bool (decide (t12_9 > 0))) rfl (congrArg V.bool hg21)) (g_v1 (t := 40) (u := (.int .i64 t12_9)) (.int .i64 (w64 (t12_9 - 1))) rfl rfl rfl ?_)
              obtain ⟨e_20, E_e_20, h⟩ := bind_some h
              refine g_yes (Eq.trans (b := .bool (decide (t12_9 > 0))) rfl (congrArg V.bool hg21)) (g_v (.ref .sh 0 [] (.agg [(.int .i64 e_20.1), (.int .i64 e_20.2)])) (ev_idx (t := .sh) (lo := 0) (xs := g_1.2) rfl rfl E_e_20 rfl rfl) ?_)
              refine g_yes (Eq.trans (b := .bool (decide (t12_9 > 0))) rfl (congrArg V.bool hg21)) (g_v1 (t := 42) (u := (.ref .sh 0 [] (.agg [(.int .i64 e_20.1), (.int .i64 e_20.2)]))) (Enc.enc ([e_20.1, e_20.2] : List Int)) rfl rfl rfl ?_)
              refine g_yes (Eq.trans (b := .bool (decide (t12_9 > 0))) rfl (congrArg V.bool hg21)) (g_v1 (t := 4) (u := (.ref (.bx 4) 0 [] (.agg [(.int .i64 e_16.1), (.int .i64 e_16.2)]))) (encO (.bx 4) (.of ([e_16.1, e_16.2] : List Int))) h4 rfl rfl ?_)
              obtain ⟨r_21, E_r_21, h⟩ := bind_some h
              refine g_yes (Eq.trans (b := .bool (decide (t12_9 > 0))) rfl (congrArg V.bool hg21)) (g_call (m := 0) (al := false) (r := (Enc.enc (r_21 : Int))) [Enc.enc ([e_20.1, e_20.2] : (List Int)), Enc.enc ([e_16.1, e_16.2] : (List Int))] (ta_cons (v := (Enc.enc ([e_20.1, e_20.2] : List Int))) rfl rfl (Enc.erase_enc ([e_20.1, e_20.2] : (List Int))) (ta_cons (v := (encO (.bx 4) (.of ([e_16.1, e_16.2] : List Int)))) rfl rfl (erase_encO (o := .of [e_16.1, e_16.2])) ta_nil)) (H.c81 _ _ _ E_r_21) H.g81 rfl rfl rfl rfl ?_)
              refine g_yes (Eq.trans (b := .bool (decide (t12_9 > 0))) rfl (congrArg V.bool hg21)) (g_v1 (t := 45) (u := (.int .i64 r_21)) (.bool (decide (r_21 ≥ 0))) rfl rfl rfl ?_)
              refine g_yes (Eq.trans (b := .bool (decide (e_16.2 ≥ g_1.1))) rfl (congrArg V.bool hg18)) (g_v2 (t1 := 37) (t2 := 46) (u1 := (.bool true)) (u2 := (.bool (decide (r_21 ≥ 0)))) (.bool (decide (r_21 ≥ 0))) (Eq.trans (b := .bool (decide (t12_9 > 0))) rfl (congrArg V.bool hg21)) rfl rfl rfl ?_)
              refine g_v2 (t1 := 34) (t2 := 47) (u1 := (.bool false)) (u2 := (.bool (decide (r_21 ≥ 0)))) (.bool (decide (r_21 ≥ 0))) (Eq.trans (b := .bool (decide (e_16.2 ≥ g_1.1))) rfl (congrArg V.bool hg18)) rfl rfl rfl ?_
              refine g_end ?_
              refine e_end ?_
              refine renew [(1, (.ref (.bx 1) 0 [] (.agg [(.int .i64 g_1.1), (Enc.enc (g_1.2 : List (Int × Int)))]))), (2, (.bool false)), (10, (Enc.enc (g_1.2 : List (Int × Int)))), (11, (.int .i64 (g_1.2.length : Int))), (12, (.int .i64 t12_9)), (48, (.bool (decide (r_21 ≥ 0))))] ⟨h1, h2, h10, h11, h12, rfl⟩ ?_
              rintro s ⟨h1, h2, h10, h11, h12, h48⟩
              exact t_f53_j1 H g_1 t12_9 (i_IsGraph_l1 F g_1 k) ih (decide (r_21 ≥ 0)) _ ⟨h1, h2, h10, h11, h12, h48⟩ h
            · refine g_no (Eq.trans (b := .bool (decide (t12_9 > 0))) rfl (congrArg V.bool hg21)) ?_
              refine g_no (Eq.trans (b := .bool (decide (t12_9 > 0))) rfl (congrArg V.bool hg21)) ?_
              refine g_no (Eq.trans (b := .bool (decide (t12_9 > 0))) rfl (congrArg V.bool hg21)) ?_
              refine g_no (Eq.trans (b := .bool (decide (t12_9 > 0))) rfl (congrArg V.bool hg21)) ?_
              refine g_no (Eq.trans (b := .bool (decide (t12_9 > 0))) rfl (congrArg V.bool hg21)) ?_
              refine g_no (Eq.trans (b := .bool (decide (t12_9 > 0))) rfl (congrArg V.bool hg21)) ?_
              refine g_no (Eq.trans (b := .bool (decide (t12_9 > 0))) rfl (congrArg V.bool hg21)) ?_
              refine g_no (Eq.trans (b := .bool (decide (t12_9 > 0))) rfl (congrArg V.bool hg21)) ?_
              refine g_no (Eq.trans (b := .bool (decide (t12_9 > 0))) rfl (congrArg V.bool hg21)) ?_
              refine g_yes (Eq.trans (b := .bool (decide (e_16.2 ≥ g_1.1))) rfl (congrArg V.bool hg18)) (g_v2 (t1 := 37) (t2 := 46) (u1 := (.bool false)) (u2 := (.tup [])) (.bool false) (Eq.trans (b := .bool (decide (t12_9 > 0))) rfl (congrArg V.bool hg21)) rfl rfl rfl ?_)
              refine g_v2 (t1 := 34) (t2 := 47) (u1 := (.bool false)) (u2 := (.bool false)) (.bool false) (Eq.trans (b := .bool (decide (e_16.2 ≥ g_1.1))) rfl (congrArg V.bool hg18)) rfl rfl rfl ?_
              refine g_end ?_
              refine e_end ?_
              refine renew [(1, (.ref (.bx 1) 0 [] (.agg [(.int .i64 g_1.1), (Enc.enc (g_1.2 : List (Int × Int)))]))), (2, (.bool false)), (10, (Enc.enc (g_1.2 : List (Int × Int)))), (11, (.int .i64 (g_1.2.length : Int))), (12, (.int .i64 t12_9)), (48, (.bool false))] ⟨h1, h2, h10, h11, h12, rfl⟩ ?_
              rintro s ⟨h1, h2, h10, h11, h12, h48⟩
              exact t_f53_j1 H g_1 t12_9 (i_IsGraph_l1 F g_1 k) ih false _ ⟨h1, h2, h10, h11, h12, h48⟩ h
    · refine .exit ?_
      refine .esq ?_
      refine .elp ?_
      refine .ebk ?_
      refine .nsq ?_
      refine .seq ?_
      refine run_reg ?_
      refine e_end ?_
      refine g_v0 (.bool true) rfl rfl ?_
      refine g_end ?_
      refine e_end ?_
      refine renew [(2, (.bool true))] rfl ?_
      rintro s h2
      refine .nsq ?_
      refine .ret ?_
      have hr := Option.some.inj h
      subst hr
      exact rrA (res_tmp h2) rfl
def i_IsGraph (F : Nat) (g_1 : (Int × (List (Int × Int)))) : Option Bool :=
  (i_within F g_1.1 0 8).bind fun r_2 =>
  bif (!r_2) then
    some false
  else
    i_IsGraph_l1 F g_1 F 0
theorem t53 (H : H53 D σ F) (g_1 : (Int × (List (Int × Int)))) (s : Nat → V) (hs : Facts [(0, (.agg [(.int .i64 g_1.1), (Enc.enc (g_1.2 : List (Int × Int)))]))] s) (h : i_IsGraph F g_1 = some r) : Run D σ (R53 r) (.run A53 []) s := by
  unfold i_IsGraph at h
  have h0 := hs
  refine .seq ?_
  refine run_reg ?_
  refine e_clr ?_
  refine e_end ?_
  refine g_box (.agg [(.int .i64 g_1.1), (Enc.enc (g_1.2 : List (Int × Int)))]) (rd_of (keep_clear (s := s) (pk := [1]) h0 rfl (map_agg (maps_cons rfl (maps_cons (Enc.map_enc _ (g_1.2 : List (Int × Int))) maps_nil)))) rfl) (gone_clear (s := s) (pk := [1]) (t := 1) rfl) rfl ?_
  refine g_v0 (.bool false) rfl rfl ?_
  refine g_end ?_
  refine e_end ?_
  refine renew [(1, (.ref (.bx 1) 0 [] (.agg [(.int .i64 g_1.1), (Enc.enc (g_1.2 : List (Int × Int)))]))), (2, (.bool false))] ⟨rfl, rfl⟩ ?_
  rintro s ⟨h1, h2⟩
  refine .nsq ?_
  refine .seq ?_
  refine .seq ?_
  refine run_reg ?_
  refine e_end ?_
  refine g_v1 (t := 1) (u := (.ref (.bx 1) 0 [] (.agg [(.int .i64 g_1.1), (Enc.enc (g_1.2 : List (Int × Int)))]))) (.ref (.bx 1) 0 [0] (.int .i64 g_1.1)) h1 rfl rfl ?_
  refine g_v1 (t := 5) (u := (.ref (.bx 1) 0 [0] (.int .i64 g_1.1))) (.int .i64 g_1.1) rfl rfl rfl ?_
  obtain ⟨r_2, E_r_2, h⟩ := bind_some h
  refine g_call (m := 0) (al := false) (r := (Enc.enc (r_2 : Bool))) [Enc.enc (g_1.1 : Int), Enc.enc (0 : Int), Enc.enc (8 : Int)] (ta_cons (v := (.int .i64 g_1.1)) rfl rfl rfl (ta_cons (v := (.int .i64 0)) rfl rfl rfl (ta_cons (v := (.int .i64 8)) rfl rfl rfl ta_nil))) (H.c62 _ _ _ _ E_r_2) H.g62 rfl rfl rfl rfl ?_
  refine g_v1 (t := 7) (u := (.bool r_2)) (.bool (!r_2)) rfl rfl rfl ?_
  refine g_end ?_
  refine e_end ?_
  refine renew [(1, (.ref (.bx 1) 0 [] (.agg [(.int .i64 g_1.1), (Enc.enc (g_1.2 : List (Int × Int)))]))), (2, (.bool false)), (8, (.bool (!r_2)))] ⟨h1, h2, rfl⟩ ?_
  rintro s ⟨h1, h2, h8⟩
  refine .nsq ?_
  refine run_cond (t := (!r_2)) h8 h (fun h => ?_) (fun h => ?_)
  · refine .seq ?_
    refine run_reg ?_
    refine e_end ?_
    refine g_v0 (.bool false) rfl rfl ?_
    refine g_end ?_
    refine e_end ?_
    refine renew [(1, (.ref (.bx 1) 0 [] (.agg [(.int .i64 g_1.1), (Enc.enc (g_1.2 : List (Int × Int)))]))), (2, (.bool false))] ⟨h1, rfl⟩ ?_
    rintro s ⟨h1, h2⟩
    refine .nsq ?_
    refine .ret ?_
    have hr := Option.some.inj h
    subst hr
    exact rrA (res_tmp h2) rfl
  · refine .skip ?_
    refine .nsq ?_
    refine .seq ?_
    refine .seq ?_
    refine run_reg ?_
    refine e_end ?_
    refine g_v1 (t := 1) (u := (.ref (.bx 1) 0 [] (.agg [(.int .i64 g_1.1), (Enc.enc (g_1.2 : List (Int × Int)))]))) (.ref (.bx 1) 0 [1] (Enc.enc (g_1.2 : List (Int × Int)))) h1 rfl rfl ?_
    refine g_v1 (t := 9) (u := (.ref (.bx 1) 0 [1] (Enc.enc (g_1.2 : List (Int × Int))))) (Enc.enc (g_1.2 : List (Int × Int))) rfl rfl rfl ?_
    refine g_v (.int .i64 (g_1.2.length : Int)) (ev_len (xs := g_1.2) rfl) ?_
    refine g_v0 (.int .i64 0) rfl rfl ?_
    refine g_end ?_
    refine e_end ?_
    refine renew [(1, (.ref (.bx 1) 0 [] (.agg [(.int .i64 g_1.1), (Enc.enc (g_1.2 : List (Int × Int)))]))), (2, (.bool false)), (10, (Enc.enc (g_1.2 : List (Int × Int)))), (11, (.int .i64 (g_1.2.length : Int))), (12, (.int .i64 0))] ⟨h1, h2, rfl, rfl, rfl⟩ ?_
    rintro s ⟨h1, h2, h10, h11, h12⟩
    refine .nsq ?_
    refine .block ?_
    refine .loop ?_
    exact t_f53_l1 H g_1 F 0 _ ⟨h1, h2, h10, h11, h12⟩ h
end
def e53 (F : Nat) : Ent := ⟨53, da (fun (x : ((Int × (List (Int × Int))) × Unit)) => i_IsGraph F x.1) (fun (r : Bool) => (Enc.enc (r : Bool))), 0, false, selF []⟩
theorem p53 {F : Nat} {x0 : (Int × (List (Int × Int)))} {r : Bool} (h : i_IsGraph F x0 = some r) : (e53 F).den [Enc.enc x0] = some (Enc.enc (r : Bool)) := da_put (f := fun (x : ((Int × (List (Int × Int))) × Unit)) => i_IsGraph F x.1) (t := fun (r : Bool) => (Enc.enc (r : Bool))) (x0, ()) h
theorem o53 {D : Den} {σ : Sig} {F : Nat} (hF : Fits2 Try.prog D σ) (H : H53 D σ F) : (e53 F).Ok Try.prog := by
  refine ⟨fun args r h => ?_, ⟨Try.f53, Try.func53, rfl, rfl⟩⟩
  obtain ⟨⟨x0, _⟩, y, rfl, hy, rfl⟩ := da_open h
  exact contract_run hF (by kernel_rfl) Try.func53 rfl c53 (show 1 ≤ Try.f53.ntmps by decide) (t53 H x0 _ rfl hy)
/- loop.example/g01109/impl.netOf -/
def A67_5 : AC := (AC.reg [] [(I.mk (some 28) none false (X.v (A.fld (O.t 3) 0 0))), (I.mk (some 29) none false (X.v (A.load Sh.p (O.t 28)))), (I.mk (some 30) none false (X.v (A.idxA (O.t 5) (O.k (V.int IntKind.i64 (Int.ofNat 1))) 2 1))), (I.mk (some 31) none false (X.v (A.load Sh.s (O.t 30)))), (I.mk (some 32) none false (X.v (A.idx (O.t 29) (O.t 31) 1))), (I.mk (some 33) none false (X.v (A.load Sh.s (O.t 32)))), (I.mk (some 34) none false (X.v (A.idxA (O.t 5) (O.k (V.int IntKind.i64 (Int.ofNat 0))) 2 1))), (I.mk (some 35) none false (X.v (A.load Sh.s (O.t 34)))), (I.mk (some 36) none false (X.v (A.bin BinOp.shl (O.k (V.int IntKind.i64 (Int.ofNat 1))) (O.t 35)))), (I.mk (some 37) none false (X.v (A.bin BinOp.or (O.t 33) (O.t 36)))), (I.mk (some 38) none false (X.v (A.idx (O.t 29) (O.t 31) 1))), (I.mk none none false (X.store Sh.s (O.t 38) (O.t 37)))] [])
def A67_4 : AC := (AC.seq (AC.reg [] [(I.mk (some 17) none false (X.v (A.fld (O.t 3) 0 0))), (I.mk (some 18) none false (X.v (A.load Sh.p (O.t 17)))), (I.mk (some 19) none false (X.v (A.idxA (O.t 5) (O.k (V.int IntKind.i64 (Int.ofNat 0))) 2 1))), (I.mk (some 20) none false (X.v (A.load Sh.s (O.t 19)))), (I.mk (some 21) none false (X.v (A.idx (O.t 18) (O.t 20) 1))), (I.mk (some 22) none false (X.v (A.load Sh.s (O.t 21)))), (I.mk (some 23) none false (X.v (A.idxA (O.t 5) (O.k (V.int IntKind.i64 (Int.ofNat 1))) 2 1))), (I.mk (some 24) none false (X.v (A.load Sh.s (O.t 23)))), (I.mk (some 25) none false (X.v (A.bin BinOp.shl (O.k (V.int IntKind.i64 (Int.ofNat 1))) (O.t 24)))), (I.mk (some 26) none false (X.v (A.bin BinOp.or (O.t 22) (O.t 25)))), (I.mk (some 27) none false (X.v (A.idx (O.t 18) (O.t 20) 1))), (I.mk none none false (X.store Sh.s (O.t 27) (O.t 26)))] []) A67_5)
def A67_6 : AC := (AC.reg [] [(I.mk (some 39) none false (X.v (A.bin BinOp.add (O.t 13) (O.k (V.int IntKind.i64 (Int.ofNat 1)))))), (I.mk (some 13) none false (X.v (A.mov (O.t 39))))] [])
def A67_3 : AC := (AC.seq (AC.block 1 (AC.seq (AC.reg [.clr [5]] [(I.mk (some 15) none false (X.v (A.idx (O.t 11) (O.t 13) 2))), (I.mk (some 16) none false (X.v (A.load (Sh.ag [Sh.s, Sh.s]) (O.t 15)))), (I.mk (some 5) none false (X.alloc (V.agg [(V.int IntKind.i64 (Int.ofNat 0)), (V.int IntKind.i64 (Int.ofNat 0))]))), (I.mk none none false (X.store (Sh.ag [Sh.s, Sh.s]) (O.t 5) (O.t 16)))] []) A67_4)) A67_6)
def A67_2 : AC := (AC.seq (AC.cond (O.t 14) AC.skip (AC.exit 0)) A67_3)
def A67_1 : AC := (AC.seq (AC.reg [] [(I.mk (some 14) none false (X.v (A.bin BinOp.lss (O.t 13) (O.t 12))))] []) A67_2)
def A67_7 : AC := (AC.seq (AC.reg [] [(I.mk (some 40) none false (X.v (A.load (Sh.ag [Sh.p]) (O.t 3)))), (I.mk none none false (X.store (Sh.ag [Sh.p]) (O.t 2) (O.t 40)))] []) AC.ret)
def A67_10 : AC := (AC.block 0 (AC.loop A67_1))
def A67_9 : AC := (AC.seq (AC.seq (AC.reg [] [(I.mk (some 10) none false (X.v (A.fld (O.t 1) 1 1))), (I.mk (some 11) none false (X.v (A.load Sh.p (O.t 10)))), (I.mk (some 12) none false (X.v (A.len (O.t 11)))), (I.mk (some 13) none false (X.v (A.mov (O.k (V.int IntKind.i64 (Int.ofNat 0))))))] []) A67_10) A67_7)
def A67_8 : AC := (AC.seq (AC.reg [.clr [8, 3]] [(I.mk (some 6) none false (X.v (A.fld (O.t 1) 0 0))), (I.mk (some 7) none false (X.v (A.load Sh.s (O.t 6)))), (I.mk (some 8) none false (X.mk (O.t 7) (V.int IntKind.i64 (Int.ofNat 0)))), (I.mk (some 9) none false (X.v (A.bld (V.agg [(V.sl Tok.nl Sh.s 0 [])]) [(0, 0, (O.t 8))]))), (I.mk (some 3) none false (X.alloc (V.agg [(V.sl Tok.nl Sh.s 0 [])]))), (I.mk none none false (X.store (Sh.ag [Sh.p]) (O.t 3) (O.t 9)))] []) A67_9)
def A67 : AC := (AC.seq (AC.reg [.clr [1, 2]] [(I.mk (some 1) none false (X.box (O.t 0))), (I.mk (some 2) none false (X.alloc (V.agg [(V.sl Tok.nl Sh.s 0 [])])))] []) A67_8)
def an67 : List An := [{ id := 0, pre := [.clr [1, 2]], ep := [], lin := [], sp := [] }, { id := 1, pre := [.clr [8, 3]], ep := [], lin := [], sp := [] }, { id := 4, pre := [.clr [5]], ep := [], lin := [], sp := [] }]
theorem c67 : cC Try.prog Try.f67.ntmps an67 (Try.f67.body.getD .skip) = some A67 := by kernel_rfl
structure H67 (D : Den) (σ : Sig) (F : Nat) : Prop where
  mk ::
abbrev R67 (r : (S1 (List Int))) : (Nat → V) → Prop := RR Try.prog [.cell 2 95] 0 false (Enc.enc (r : (S1 (List Int))))
section
variable {D : Den} {σ : Sig} {F : Nat} {r : (S1 (List Int))}
def i_netOf_l1 (F : Nat) (g_1 : (Int × (List (Int × Int))))  : Nat → (List Int) → Int → Option (S1 (List Int))
  | 0, _, _ => none
  | k + 1, w_10, t13_11 =>
    bif decide (t13_11 < (g_1.2.length : Int)) then
      (idx g_1.2 t13_11).bind fun e_19 =>
      (idx w_10 e_19.1).bind fun e_20 =>
      (shlI .i64 1 e_19.2).bind fun q_21 =>
      (idx w_10 e_19.1).bind fun e_22 =>
      (idx (w_10.set e_19.1.toNat (ior .i64 e_20 q_21)) e_19.2).bind fun e_23 =>
      (shlI .i64 1 e_19.1).bind fun q_24 =>
      (idx (w_10.set e_19.1.toNat (ior .i64 e_20 q_21)) e_19.2).bind fun e_25 =>
      (i_netOf_l1 F g_1 k) ((w_10.set e_19.1.toNat (ior .i64 e_20 q_21)).set e_19.2.toNat (ior .i64 e_23 q_24)) (w64 (t13_11 + 1))
    else
      some (S1.mk w_10)
theorem t_f67_l1 (H : H67 D σ F) (g_1 : (Int × (List (Int × Int))))  : ∀ (k : Nat) (w_10 : (List Int)) (t13_11 : Int) (s : Nat → V), Facts [(2, (.ref (.bx 2) 0 [] (.agg [(.sl .nl (Enc.shp Int) 0 [])]))), (3, (.ref (.bx 3) 0 [] (.agg [(encO (.at 8 []) (.of (w_10 : List Int)))]))), (11, (Enc.enc (g_1.2 : List (Int × Int)))), (12, (.int .i64 (g_1.2.length : Int))), (13, (.int .i64 t13_11))] s → i_netOf_l1 F g_1 k w_10 t13_11 = some r → Run D σ (R67 r) (.run A67_1 [.lp A67_1, .bk 0, .sq A67_7]) s := by
  intro k
  induction k with
  | zero => intro w_10 t13_11 s _ h; exact nomatch (h : (none : Option _) = some r)
  | succ k ih =>
    intro w_10 t13_11 s hs h
    rw [i_netOf_l1] at h
    obtain ⟨h2, h3, h11, h12, h13⟩ := hs
    refine .seq ?_
    refine run_reg ?_
    refine e_end ?_
    refine g_v2 (t1 := 13) (t2 := 12) (u1 := (.int .i64 t13_11)) (u2 := (.int .i64 (g_1.2.length : Int))) (.bool (decide (t13_11 < (g_1.2.length : Int)))) h13 h12 rfl rfl ?_
    refine g_end ?_
    refine e_end ?_
    refine renew [(2, (.ref (.bx 2) 0 [] (.agg [(.sl .nl (Enc.shp Int) 0 [])]))), (3, (.ref (.bx 3) 0 [] (.agg [(encO (.at 8 []) (.of (w_10 : List Int)))]))), (11, (Enc.enc (g_1.2 : List (Int × Int)))), (12, (.int .i64 (g_1.2.length : Int))), (13, (.int .i64 t13_11)), (14, (.bool (decide (t13_11 < (g_1.2.length : Int)))))] ⟨h2, h3, h11, h12, h13, rfl⟩ ?_
    rintro s ⟨h2, h3, h11, h12, h13, h14⟩
    refine .nsq ?_
    refine .seq ?_
    refine run_cond (t := decide (t13_11 < (g_1.2.length : Int))) h14 h (fun h => ?_) (fun h => ?_)
    · refine .skip ?_
      refine .nsq ?_
      refine .seq ?_
      refine .block ?_
      refine .seq ?_
      refine run_reg ?_
      refine e_clr ?_
      refine e_end ?_
      obtain ⟨e_19, E_e_19, h⟩ := bind_some h
      refine g_v (.ref .sh 0 [] (.agg [(.int .i64 e_19.1), (.int .i64 e_19.2)])) (ev_idx (t := .sh) (lo := 0) (xs := g_1.2) (keep_clear (s := s) (pk := [5]) h11 rfl (Enc.map_enc _ (g_1.2 : List (Int × Int)))) (keep_clear (s := s) (pk := [5]) h13 rfl rfl) E_e_19 rfl rfl) ?_
      refine g_v1 (t := 15) (u := (.ref .sh 0 [] (.agg [(.int .i64 e_19.1), (.int .i64 e_19.2)]))) (.agg [(.int .i64 e_19.1), (.int .i64 e_19.2)]) rfl rfl rfl ?_
      refine g_alloc (gone_clear (s := s) (pk := [5]) (t := 5) rfl) ?_
      refine g_store (.agg [(.int .i64 e_19.1), (.int .i64 e_19.2)]) (rd_of rfl rfl) (rd_of rfl rfl) (by refine ⟨by decide, by decide, rfl, rfl, rfl, ?_⟩; first | rfl | simp [V.toks, V.tokss, Enc.toks_enc]) ?_
      refine g_end ?_
      refine e_end ?_
      refine renew [(2, (.ref (.bx 2) 0 [] (.agg [(.sl .nl (Enc.shp Int) 0 [])]))), (3, (.ref (.bx 3) 0 [] (.agg [(encO (.at 8 []) (.of (w_10 : List Int)))]))), (5, (.ref (.bx 5) 0 [] (.agg [(.int .i64 e_19.1), (.int .i64 e_19.2)]))), (11, (Enc.enc (g_1.2 : List (Int × Int)))), (12, (.int .i64 (g_1.2.length : Int))), (13, (.int .i64 t13_11))] ⟨(keep_mut (keep_clear (s := s) (pk := [5]) h2 rfl (map_bx rfl (map_agg (maps_cons rfl maps_nil)))) (mut_ref_ne rfl rfl (mut_agg (muts_cons rfl rfl)))), (keep_mut (keep_clear (s := s) (pk := [5]) h3 rfl (map_bx rfl (map_agg (maps_cons (map_encO (r := 8) (p := []) rfl rfl) maps_nil)))) (mut_ref_ne rfl rfl (mut_agg (muts_cons (mut_own_ne rfl rfl) rfl)))), (keep_mut rfl rfl), (keep_mut (keep_clear (s := s) (pk := [5]) h11 rfl (Enc.map_enc _ (g_1.2 : List (Int × Int)))) (Enc.mut_enc _ _ _ _ (g_1.2 : List (Int × Int)))), (keep_mut (keep_clear (s := s) (pk := [5]) h12 rfl rfl) rfl), (keep_mut (keep_clear (s := s) (pk := [5]) h13 rfl rfl) rfl)⟩ ?_
      rintro s ⟨h2, h3, h5, h11, h12, h13⟩
      refine .nsq ?_
      refine .seq ?_
      refine run_reg ?_
      refine e_end ?_
      refine g_v1 (t := 3) (u := (.ref (.bx 3) 0 [] (.agg [(encO (.at 8 []) (.of (w_10 : List Int)))]))) (.ref (.bx 3) 0 [0] (encO (.at 8 []) (.of (w_10 : List Int)))) h3 rfl rfl ?_
      refine g_v1 (t := 17) (u := (.ref (.bx 3) 0 [0] (encO (.at 8 []) (.of (w_10 : List Int))))) (encO (.at 8 []) (.of (w_10 : List Int))) rfl rfl rfl ?_
      refine g_v1 (t := 5) (u := (.ref (.bx 5) 0 [] (.agg [(.int .i64 e_19.1), (.int .i64 e_19.2)]))) (.ref (.bx 5) 0 [0] (.int .i64 e_19.1)) h5 rfl rfl ?_
      refine g_v1 (t := 19) (u := (.ref (.bx 5) 0 [0] (.int .i64 e_19.1))) (.int .i64 e_19.1) rfl rfl rfl ?_
      obtain ⟨e_20, E_e_20, h⟩ := bind_some h
      refine g_v (.ref (.at 8 []) e_19.1.toNat [] (.int .i64 e_20)) (ev_idxO (o := (.of w_10)) rfl rfl E_e_20 rfl) ?_
      refine g_v1 (t := 21) (u := (.ref (.at 8 []) e_19.1.toNat [] (.int .i64 e_20))) (.int .i64 e_20) rfl rfl rfl ?_
      refine g_v1 (t := 5) (u := (.ref (.bx 5) 0 [] (.agg [(.int .i64 e_19.1), (.int .i64 e_19.2)]))) (.ref (.bx 5) 0 [1] (.int .i64 e_19.2)) h5 rfl rfl ?_
      refine g_v1 (t := 23) (u := (.ref (.bx 5) 0 [1] (.int .i64 e_19.2))) (.int .i64 e_19.2) rfl rfl rfl ?_
      obtain ⟨q_21, E_q_21, h⟩ := bind_some h
      refine g_v (.int .i64 q_21) (ev_shl rfl rfl E_q_21) ?_
      refine g_v2 (t1 := 22) (t2 := 25) (u1 := (.int .i64 e_20)) (u2 := (.int .i64 q_21)) (.int .i64 (ior .i64 e_20 q_21)) rfl rfl rfl rfl ?_
      obtain ⟨e_22, E_e_22, h⟩ := bind_some h
      refine g_v (.ref (.at 8 []) e_19.1.toNat [] (.int .i64 e_22)) (ev_idxO (o := (.of w_10)) rfl rfl E_e_22 rfl) ?_
      refine g_store (.int .i64 (ior .i64 e_20 q_21)) (rd_of rfl rfl) (rd_of rfl rfl) (by refine ⟨by decide, by decide, rfl, rfl, rfl, ?_⟩; first | rfl | simp [V.toks, V.tokss, Enc.toks_enc]) ?_
      refine g_end ?_
      refine e_end ?_
      refine renew [(2, (.ref (.bx 2) 0 [] (.agg [(.sl .nl (Enc.shp Int) 0 [])]))), (3, (.ref (.bx 3) 0 [] (.agg [(encO (.at 8 []) (.of (w_10.set e_19.1.toNat (ior .i64 e_20 q_21) : List Int)))]))), (5, (.ref (.bx 5) 0 [] (.agg [(.int .i64 e_19.1), (.int .i64 e_19.2)]))), (11, (Enc.enc (g_1.2 : List (Int × Int)))), (12, (.int .i64 (g_1.2.length : Int))), (13, (.int .i64 t13_11))] ⟨(keep_mut h2 (mut_ref_ne rfl rfl (mut_agg (muts_cons rfl rfl)))), (keep_mut h3 (mut_ref_ne rfl rfl (mut_agg (muts_cons mut_own rfl)))), (keep_mut h5 rfl), (keep_mut h11 (Enc.mut_enc _ _ _ _ (g_1.2 : List (Int × Int)))), (keep_mut h12 rfl), (keep_mut h13 rfl)⟩ ?_
      rintro s ⟨h2, h3, h5, h11, h12, h13⟩
      refine .nsq ?_
      refine run_reg ?_
      refine e_end ?_
      refine g_v1 (t := 3) (u := (.ref (.bx 3) 0 [] (.agg [(encO (.at 8 []) (.of (w_10.set e_19.1.toNat (ior .i64 e_20 q_21) : List Int)))]))) (.ref (.bx 3) 0 [0] (encO (.at 8 []) (.of (w_10.set e_19.1.toNat (ior .i64 e_20 q_21) : List Int)))) h3 rfl rfl ?_
      refine g_v1 (t := 28) (u := (.ref (.bx 3) 0 [0] (encO (.at 8 []) (.of (w_10.set e_19.1.toNat (ior .i64 e_20 q_21) : List Int))))) (encO (.at 8 []) (.of (w_10.set e_19.1.toNat (ior .i64 e_20 q_21) : List Int))) rfl rfl rfl ?_
      refine g_v1 (t := 5) (u := (.ref (.bx 5) 0 [] (.agg [(.int .i64 e_19.1), (.int .i64 e_19.2)]))) (.ref (.bx 5) 0 [1] (.int .i64 e_19.2)) h5 rfl rfl ?_
      refine g_v1 (t := 30) (u := (.ref (.bx 5) 0 [1] (.int .i64 e_19.2))) (.int .i64 e_19.2) rfl rfl rfl ?_
      obtain ⟨e_23, E_e_23, h⟩ := bind_some h
      refine g_v (.ref (.at 8 []) e_19.2.toNat [] (.int .i64 e_23)) (ev_idxO (o := (.of (w_10.set e_19.1.toNat (ior .i64 e_20 q_21)))) rfl rfl E_e_23 rfl) ?_
      refine g_v1 (t := 32) (u := (.ref (.at 8 []) e_19.2.toNat [] (.int .i64 e_23))) (.int .i64 e_23) rfl rfl rfl ?_
      refine g_v1 (t := 5) (u := (.ref (.bx 5) 0 [] (.agg [(.int .i64 e_19.1), (.int .i64 e_19.2)]))) (.ref (.bx 5) 0 [0] (.int .i64 e_19.1)) h5 rfl rfl ?_
      refine g_v1 (t := 34) (u := (.ref (.bx 5) 0 [0] (.int .i64 e_19.1))) (.int .i64 e_19.1) rfl rfl rfl ?_
      obtain ⟨q_24, E_q_24, h⟩ := bind_some h
      refine g_v (.int .i64 q_24) (ev_shl rfl rfl E_q_24) ?_
      refine g_v2 (t1 := 33) (t2 := 36) (u1 := (.int .i64 e_23)) (u2 := (.int .i64 q_24)) (.int .i64 (ior .i64 e_23 q_24)) rfl rfl rfl rfl ?_
      obtain ⟨e_25, E_e_25, h⟩ := bind_some h
      refine g_v (.ref (.at 8 []) e_19.2.toNat [] (.int .i64 e_25)) (ev_idxO (o := (.of (w_10.set e_19.1.toNat (ior .i64 e_20 q_21)))) rfl rfl E_e_25 rfl) ?_
      refine g_store (.int .i64 (ior .i64 e_23 q_24)) (rd_of rfl rfl) (rd_of rfl rfl) (by refine ⟨by decide, by decide, rfl, rfl, rfl, ?_⟩; first | rfl | simp [V.toks, V.tokss, Enc.toks_enc]) ?_
      refine g_end ?_
      refine e_end ?_
      refine renew [(2, (.ref (.bx 2) 0 [] (.agg [(.sl .nl (Enc.shp Int) 0 [])]))), (3, (.ref (.bx 3) 0 [] (.agg [(encO (.at 8 []) (.of ((w_10.set e_19.1.toNat (ior .i64 e_20 q_21)).set e_19.2.toNat (ior .i64 e_23 q_24) : List Int)))]))), (11, (Enc.enc (g_1.2 : List (Int × Int)))), (12, (.int .i64 (g_1.2.length : Int))), (13, (.int .i64 t13_11))] ⟨(keep_mut h2 (mut_ref_ne rfl rfl (mut_agg (muts_cons rfl rfl)))), (keep_mut h3 (mut_ref_ne rfl rfl (mut_agg (muts_cons mut_own rfl)))), (keep_mut h11 (Enc.mut_enc _ _ _ _ (g_1.2 : List (Int × Int)))), (keep_mut h12 rfl), (keep_mut h13 rfl)⟩ ?_
      rintro s ⟨h2, h3, h11, h12, h13⟩
      refine .nbk ?_
      refine .nsq ?_
      refine run_reg ?_
      refine e_end ?_
      refine g_v1 (t := 13) (u := (.int .i64 t13_11)) (.int .i64 (w64 (t13_11 + 1))) h13 rfl rfl ?_
      refine g_v1 (t := 39) (u := (.int .i64 (w64 (t13_11 + 1)))) (.int .i64 (w64 (t13_11 + 1))) rfl rfl rfl ?_
      refine g_end ?_
      refine e_end ?_
      refine renew [(2, (.ref (.bx 2) 0 [] (.agg [(.sl .nl (Enc.shp Int) 0 [])]))), (3, (.ref (.bx 3) 0 [] (.agg [(encO (.at 8 []) (.of ((w_10.set e_19.1.toNat (ior .i64 e_20 q_21)).set e_19.2.toNat (ior .i64 e_23 q_24) : List Int)))]))), (11, (Enc.enc (g_1.2 : List (Int × Int)))), (12, (.int .i64 (g_1.2.length : Int))), (13, (.int .i64 (w64 (t13_11 + 1))))] ⟨h2, h3, h11, h12, rfl⟩ ?_
      rintro s ⟨h2, h3, h11, h12, h13⟩
      refine .nlp ?_
      exact ih ((w_10.set e_19.1.toNat (ior .i64 e_20 q_21)).set e_19.2.toNat (ior .i64 e_23 q_24)) (w64 (t13_11 + 1)) _ ⟨h2, h3, h11, h12, h13⟩ h
    · refine .exit ?_
      refine .esq ?_
      refine .elp ?_
      refine .ebk ?_
      refine .nsq ?_
      refine .seq ?_
      refine run_reg ?_
      refine e_end ?_
      refine g_v1 (t := 3) (u := (.ref (.bx 3) 0 [] (.agg [(encO (.at 8 []) (.of (w_10 : List Int)))]))) (.agg [(encO (.at 8 []) (.of (w_10 : List Int)))]) h3 rfl rfl ?_
      refine g_store (.agg [(encO (.at 8 []) (.of (w_10 : List Int)))]) (rd_of h2 rfl) (rd_of rfl rfl) (by refine ⟨by decide, by decide, rfl, rfl, rfl, ?_⟩; first | rfl | simp [V.toks, V.tokss, Enc.toks_enc]) ?_
      refine g_end ?_
      refine e_end ?_
      refine renew [(2, (.ref (.bx 2) 0 [] (.agg [(encO (.at 8 []) (.of (w_10 : List Int)))])))] (keep_mut h2 rfl) ?_
      rintro s h2
      refine .nsq ?_
      refine .ret ?_
      have hr := Option.some.inj h
      subst hr
      exact rrA (res_cell h2 (by kernel_rfl)) (fin_retF (fin_agg (fins_cons (fin_own (o := .of w_10)) fins_nil)) (mine_agg (mines_cons (mine_own rfl) mines_nil)))
def i_netOf (F : Nat) (g_1 : (Int × (List (Int × Int)))) : Option (S1 (List Int)) :=
  (mkN g_1.1 0).bind fun mk_2 =>
  i_netOf_l1 F g_1 F mk_2 0
theorem t67 (H : H67 D σ F) (g_1 : (Int × (List (Int × Int)))) (s : Nat → V) (hs : Facts [(0, (.agg [(.int .i64 g_1.1), (Enc.enc (g_1.2 : List (Int × Int)))]))] s) (h : i_netOf F g_1 = some r) : Run D σ (R67 r) (.run A67 []) s := by
  unfold i_netOf at h
  have h0 := hs
  refine .seq ?_
  refine run_reg ?_
  refine e_clr ?_
  refine e_end ?_
  refine g_box (.agg [(.int .i64 g_1.1), (Enc.enc (g_1.2 : List (Int × Int)))]) (rd_of (keep_clear (s := s) (pk := [1, 2]) h0 rfl (map_agg (maps_cons rfl (maps_cons (Enc.map_enc _ (g_1.2 : List (Int × Int))) maps_nil)))) rfl) (gone_clear (s := s) (pk := [1, 2]) (t := 1) rfl) rfl ?_
  refine g_alloc (gone_clear (s := s) (pk := [1, 2]) (t := 2) rfl) ?_
  refine g_end ?_
  refine e_end ?_
  refine renew [(1, (.ref (.bx 1) 0 [] (.agg [(.int .i64 g_1.1), (Enc.enc (g_1.2 : List (Int × Int)))]))), (2, (.ref (.bx 2) 0 [] (.agg [(.sl .nl (Enc.shp Int) 0 [])])))] ⟨rfl, rfl⟩ ?_
  rintro s ⟨h1, h2⟩
  refine .nsq ?_
  refine .seq ?_
  refine run_reg ?_
  refine e_clr ?_
  refine e_end ?_
  refine g_v1 (t := 1) (u := (.ref (.bx 1) 0 [] (.agg [(.int .i64 g_1.1), (Enc.enc (g_1.2 : List (Int × Int)))]))) (.ref (.bx 1) 0 [0] (.int .i64 g_1.1)) (keep_clear (s := s) (pk := [8, 3]) h1 rfl (map_bx rfl (map_agg (maps_cons rfl (maps_cons (Enc.map_enc _ (g_1.2 : List (Int × Int))) maps_nil))))) rfl rfl ?_
  refine g_v1 (t := 6) (u := (.ref (.bx 1) 0 [0] (.int .i64 g_1.1))) (.int .i64 g_1.1) rfl rfl rfl ?_
  obtain ⟨mk_2, E_mk_2, h⟩ := bind_some h
  refine g_mk (0 : Int) rfl rfl (gone_clear (s := s) (pk := [8, 3]) (t := 8) rfl) E_mk_2 ?_
  refine g_v1 (t := 8) (u := (encO (.at 8 []) (.of (mk_2 : List Int)))) (.agg [(encO (.at 8 []) (.of (mk_2 : List Int)))]) rfl rfl rfl ?_
  refine g_alloc (gone_clear (s := s) (pk := [8, 3]) (t := 3) rfl) ?_
  refine g_store (.agg [(encO (.at 8 []) (.of (mk_2 : List Int)))]) (rd_of rfl rfl) (rd_of rfl rfl) (by refine ⟨by decide, by decide, rfl, rfl, rfl, ?_⟩; first | rfl | simp [V.toks, V.tokss, Enc.toks_enc]) ?_
  refine g_end ?_
  refine e_end ?_
  refine renew [(1, (.ref (.bx 1) 0 [] (.agg [(.int .i64 g_1.1), (Enc.enc (g_1.2 : List (Int × Int)))]))), (2, (.ref (.bx 2) 0 [] (.agg [(.sl .nl (Enc.shp Int) 0 [])]))), (3, (.ref (.bx 3) 0 [] (.agg [(encO (.at 8 []) (.of (mk_2 : List Int)))])))] ⟨(keep_mut (keep_clear (s := s) (pk := [8, 3]) h1 rfl (map_bx rfl (map_agg (maps_cons rfl (maps_cons (Enc.map_enc _ (g_1.2 : List (Int × Int))) maps_nil))))) (mut_ref_ne rfl rfl (mut_agg (muts_cons rfl (muts_cons (Enc.mut_enc _ _ _ _ (g_1.2 : List (Int × Int))) rfl))))), (keep_mut (keep_clear (s := s) (pk := [8, 3]) h2 rfl (map_bx rfl (map_agg (maps_cons rfl maps_nil)))) (mut_ref_ne rfl rfl (mut_agg (muts_cons rfl rfl)))), (keep_mut rfl rfl)⟩ ?_
  rintro s ⟨h1, h2, h3⟩
  refine .nsq ?_
  refine .seq ?_
  refine .seq ?_
  refine run_reg ?_
  refine e_end ?_
  refine g_v1 (t := 1) (u := (.ref (.bx 1) 0 [] (.agg [(.int .i64 g_1.1), (Enc.enc (g_1.2 : List (Int × Int)))]))) (.ref (.bx 1) 0 [1] (Enc.enc (g_1.2 : List (Int × Int)))) h1 rfl rfl ?_
  refine g_v1 (t := 10) (u := (.ref (.bx 1) 0 [1] (Enc.enc (g_1.2 : List (Int × Int))))) (Enc.enc (g_1.2 : List (Int × Int))) rfl rfl rfl ?_
  refine g_v (.int .i64 (g_1.2.length : Int)) (ev_len (xs := g_1.2) rfl) ?_
  refine g_v0 (.int .i64 0) rfl rfl ?_
  refine g_end ?_
  refine e_end ?_
  refine renew [(2, (.ref (.bx 2) 0 [] (.agg [(.sl .nl (Enc.shp Int) 0 [])]))), (3, (.ref (.bx 3) 0 [] (.agg [(encO (.at 8 []) (.of (mk_2 : List Int)))]))), (11, (Enc.enc (g_1.2 : List (Int × Int)))), (12, (.int .i64 (g_1.2.length : Int))), (13, (.int .i64 0))] ⟨h2, h3, rfl, rfl, rfl⟩ ?_
  rintro s ⟨h2, h3, h11, h12, h13⟩
  refine .nsq ?_
  refine .block ?_
  refine .loop ?_
  exact t_f67_l1 H g_1 F mk_2 0 _ ⟨h2, h3, h11, h12, h13⟩ h
end
def e67 (F : Nat) : Ent := ⟨67, da (fun (x : ((Int × (List (Int × Int))) × Unit)) => i_netOf F x.1) (fun (r : (S1 (List Int))) => (Enc.enc (r : (S1 (List Int))))), 0, false, selF []⟩
theorem p67 {F : Nat} {x0 : (Int × (List (Int × Int)))} {r : (S1 (List Int))} (h : i_netOf F x0 = some r) : (e67 F).den [Enc.enc x0] = some (Enc.enc (r : (S1 (List Int)))) := da_put (f := fun (x : ((Int × (List (Int × Int))) × Unit)) => i_netOf F x.1) (t := fun (r : (S1 (List Int))) => (Enc.enc (r : (S1 (List Int))))) (x0, ()) h
theorem o67 {D : Den} {σ : Sig} {F : Nat} (hF : Fits2 Try.prog D σ) (H : H67 D σ F) : (e67 F).Ok Try.prog := by
  refine ⟨fun args r h => ?_, ⟨Try.f67, Try.func67, rfl, rfl⟩⟩
  obtain ⟨⟨x0, _⟩, y, rfl, hy, rfl⟩ := da_open h
  exact contract_run hF (by kernel_rfl) Try.func67 rfl c67 (show 1 ≤ Try.f67.ntmps by decide) (t67 H x0 _ rfl hy)
/- (loop.example/g01109/impl.net).around -/
def A123_5 : AC := (AC.cond (O.t 21) (AC.reg [] [(I.mk (some 22) none false (X.v (A.mov (O.t 5)))), (I.mk (some 23) none false (X.v (A.mov (O.t 7)))), (I.mk (some 24) none false (X.v (A.bin BinOp.or (O.t 22) (O.t 23)))), (I.mk (some 5) none false (X.v (A.mov (O.t 24))))] []) AC.skip)
def A123_4 : AC := (AC.seq (AC.reg [] [(I.mk (some 17) none false (X.v (A.mov (O.t 1)))), (I.mk (some 18) none false (X.v (A.mov (O.t 6)))), (I.mk (some 19) none false (X.v (A.bin BinOp.shr (O.t 17) (O.t 18)))), (I.mk (some 20) none false (X.v (A.bin BinOp.and (O.t 19) (O.k (V.int IntKind.i64 (Int.ofNat 1)))))), (I.mk (some 21) none false (X.v (A.bin BinOp.eql (O.t 20) (O.k (V.int IntKind.i64 (Int.ofNat 1))))))] []) A123_5)
def A123_6 : AC := (AC.reg [] [(I.mk (some 25) none false (X.v (A.bin BinOp.add (O.t 12) (O.k (V.int IntKind.i64 (Int.ofNat 1)))))), (I.mk (some 12) none false (X.v (A.mov (O.t 25))))] [])
def A123_3 : AC := (AC.seq (AC.block 1 (AC.seq (AC.reg [] [(I.mk (some 14) none false (X.v (A.mov (O.t 12)))), (I.mk (some 15) none false (X.v (A.idx (O.t 10) (O.t 12) 1))), (I.mk (some 16) none false (X.v (A.load Sh.s (O.t 15)))), (I.mk (some 6) none false (X.v (A.mov (O.t 14)))), (I.mk (some 7) none false (X.v (A.mov (O.t 16))))] []) A123_4)) A123_6)
def A123_2 : AC := (AC.seq (AC.cond (O.t 13) AC.skip (AC.exit 0)) A123_3)
def A123_1 : AC := (AC.seq (AC.reg [] [(I.mk (some 13) none false (X.v (A.bin BinOp.lss (O.t 12) (O.t 11))))] []) A123_2)
def A123_7 : AC := (AC.seq (AC.reg [] [(I.mk (some 26) none false (X.v (A.mov (O.t 5)))), (I.mk (some 4) none false (X.v (A.mov (O.t 26))))] []) AC.ret)
def A123_10 : AC := (AC.block 0 (AC.loop A123_1))
def A123_9 : AC := (AC.seq (AC.seq (AC.reg [] [(I.mk (some 9) none false (X.v (A.fld (O.t 2) 0 0))), (I.mk (some 10) none false (X.v (A.load Sh.p (O.t 9)))), (I.mk (some 11) none false (X.v (A.len (O.t 10)))), (I.mk (some 12) none false (X.v (A.mov (O.k (V.int IntKind.i64 (Int.ofNat 0))))))] []) A123_10) A123_7)
def A123_8 : AC := (AC.seq (AC.reg [] [(I.mk (some 8) none false (X.v (A.mov (O.t 1)))), (I.mk (some 5) none false (X.v (A.mov (O.t 8))))] []) A123_9)
def A123 : AC := (AC.seq (AC.reg [.clr [2]] [(I.mk (some 2) none false (X.box (O.t 0))), (I.mk (some 4) none false (X.v (A.mov (O.k (V.int IntKind.i64 (Int.ofNat 0))))))] []) A123_8)
def an123 : List An := [{ id := 0, pre := [.clr [2]], ep := [], lin := [], sp := [] }]
theorem c123 : cC Try.prog Try.f123.ntmps an123 (Try.f123.body.getD .skip) = some A123 := by kernel_rfl
structure H123 (D : Den) (σ : Sig) (F : Nat) : Prop where
  mk ::
abbrev R123 (r : Int) : (Nat → V) → Prop := RR Try.prog [.tmp 4] 0 false (Enc.enc (r : Int))
section
variable {D : Den} {σ : Sig} {F : Nat} {r : Int}
def i_net_around_j1 (F : Nat) (set_2 : Int) (w_1 : (S1 (List Int))) (t12_7 : Int) (c1 : Int → Int → Option Int) (out_13 : Int) : Option Int :=
  c1 out_13 (w64 (t12_7 + 1))
theorem t_f123_j1 (H : H123 D σ F) (set_2 : Int) (w_1 : (S1 (List Int))) (t12_7 : Int) (c1 : Int → Int → Option Int) (Hc1 : ∀ (out_6 : Int) (t12_7 : Int) (s : Nat → V), Facts [(1, (.int .i64 set_2)), (4, (.int .i64 0)), (5, (.int .i64 out_6)), (10, (Enc.enc (w_1.a : List Int))), (11, (.int .i64 (w_1.a.length : Int))), (12, (.int .i64 t12_7))] s → c1 out_6 t12_7 = some r → Run D σ (R123 r) (.run A123_1 [.lp A123_1, .bk 0, .sq A123_7]) s) (out_13 : Int) (s : Nat → V) (hs : Facts [(1, (.int .i64 set_2)), (4, (.int .i64 0)), (5, (.int .i64 out_13)), (10, (Enc.enc (w_1.a : List Int))), (11, (.int .i64 (w_1.a.length : Int))), (12, (.int .i64 t12_7))] s) (h : i_net_around_j1 F set_2 w_1 t12_7 c1 out_13 = some r) : Run D σ (R123 r) (.nrm [.bk 1, .sq A123_6, .lp A123_1, .bk 0, .sq A123_7]) s := by
  unfold i_net_around_j1 at h
  obtain ⟨h1, h4, h5, h10, h11, h12⟩ := hs
  refine .nbk ?_
  refine .nsq ?_
  refine run_reg ?_
  refine e_end ?_
  refine g_v1 (t := 12) (u := (.int .i64 t12_7)) (.int .i64 (w64 (t12_7 + 1))) h12 rfl rfl ?_
  refine g_v1 (t := 25) (u := (.int .i64 (w64 (t12_7 + 1)))) (.int .i64 (w64 (t12_7 + 1))) rfl rfl rfl ?_
  refine g_end ?_
  refine e_end ?_
  refine renew [(1, (.int .i64 set_2)), (4, (.int .i64 0)), (5, (.int .i64 out_13)), (10, (Enc.enc (w_1.a : List Int))), (11, (.int .i64 (w_1.a.length : Int))), (12, (.int .i64 (w64 (t12_7 + 1))))] ⟨h1, h4, h5, h10, h11, rfl⟩ ?_
  rintro s ⟨h1, h4, h5, h10, h11, h12⟩
  refine .nlp ?_
  exact Hc1 out_13 (w64 (t12_7 + 1)) _ ⟨h1, h4, h5, h10, h11, h12⟩ h
def i_net_around_l1 (F : Nat) (set_2 : Int) (w_1 : (S1 (List Int)))  : Nat → Int → Int → Option Int
  | 0, _, _ => none
  | k + 1, out_6, t12_7 =>
    bif decide (t12_7 < (w_1.a.length : Int)) then
      (idx w_1.a t12_7).bind fun e_11 =>
      (shrI .i64 set_2 t12_7).bind fun q_12 =>
      bif ((iand .i64 q_12 1) == 1) then
        i_net_around_j1 F set_2 w_1 t12_7 (i_net_around_l1 F set_2 w_1 k) (ior .i64 out_6 e_11)
      else
        i_net_around_j1 F set_2 w_1 t12_7 (i_net_around_l1 F set_2 w_1 k) out_6
    else
      some out_6
theorem t_f123_l1 (H : H123 D σ F) (set_2 : Int) (w_1 : (S1 (List Int)))  : ∀ (k : Nat) (out_6 : Int) (t12_7 : Int) (s : Nat → V), Facts [(1, (.int .i64 set_2)), (4, (.int .i64 0)), (5, (.int .i64 out_6)), (10, (Enc.enc (w_1.a : List Int))), (11, (.int .i64 (w_1.a.length : Int))), (12, (.int .i64 t12_7))] s → i_net_around_l1 F set_2 w_1 k out_6 t12_7 = some r → Run D σ (R123 r) (.run A123_1 [.lp A123_1, .bk 0, .sq A123_7]) s := by
  intro k
  induction k with
  | zero => intro out_6 t12_7 s _ h; exact nomatch (h : (none : Option _) = some r)
  | succ k ih =>
    intro out_6 t12_7 s hs h
    rw [i_net_around_l1] at h
    obtain ⟨h1, h4, h5, h10, h11, h12⟩ := hs
    refine .seq ?_
    refine run_reg ?_
    refine e_end ?_
    refine g_v2 (t1 := 12) (t2 := 11) (u1 := (.int .i64 t12_7)) (u2 := (.int .i64 (w_1.a.length : Int))) (.bool (decide (t12_7 < (w_1.a.length : Int)))) h12 h11 rfl rfl ?_
    refine g_end ?_
    refine e_end ?_
    refine renew [(1, (.int .i64 set_2)), (4, (.int .i64 0)), (5, (.int .i64 out_6)), (10, (Enc.enc (w_1.a : List Int))), (11, (.int .i64 (w_1.a.length : Int))), (12, (.int .i64 t12_7)), (13, (.bool (decide (t12_7 < (w_1.a.length : Int)))))] ⟨h1, h4, h5, h10, h11, h12, rfl⟩ ?_
    rintro s ⟨h1, h4, h5, h10, h11, h12, h13⟩
    refine .nsq ?_
    refine .seq ?_
    refine run_cond (t := decide (t12_7 < (w_1.a.length : Int))) h13 h (fun h => ?_) (fun h => ?_)
    · refine .skip ?_
      refine .nsq ?_
      refine .seq ?_
      refine .block ?_
      refine .seq ?_
      refine run_reg ?_
      refine e_end ?_
      refine g_v1 (t := 12) (u := (.int .i64 t12_7)) (.int .i64 t12_7) h12 rfl rfl ?_
      obtain ⟨e_11, E_e_11, h⟩ := bind_some h
      refine g_v (.ref .sh 0 [] (.int .i64 e_11)) (ev_idx (t := .sh) (lo := 0) (xs := w_1.a) h10 h12 E_e_11 rfl rfl) ?_
      refine g_v1 (t := 15) (u := (.ref .sh 0 [] (.int .i64 e_11))) (.int .i64 e_11) rfl rfl rfl ?_
      refine g_v1 (t := 14) (u := (.int .i64 t12_7)) (.int .i64 t12_7) rfl rfl rfl ?_
      refine g_v1 (t := 16) (u := (.int .i64 e_11)) (.int .i64 e_11) rfl rfl rfl ?_
      refine g_end ?_
      refine e_end ?_
      refine renew [(1, (.int .i64 set_2)), (4, (.int .i64 0)), (5, (.int .i64 out_6)), (6, (.int .i64 t12_7)), (7, (.int .i64 e_11)), (10, (Enc.enc (w_1.a : List Int))), (11, (.int .i64 (w_1.a.length : Int))), (12, (.int .i64 t12_7))] ⟨h1, h4, h5, rfl, rfl, h10, h11, h12⟩ ?_
      rintro s ⟨h1, h4, h5, h6, h7, h10, h11, h12⟩
      refine .nsq ?_
      refine .seq ?_
      refine run_reg ?_
      refine e_end ?_
      refine g_v1 (t := 1) (u := (.int .i64 set_2)) (.int .i64 set_2) h1 rfl rfl ?_
      refine g_v1 (t := 6) (u := (.int .i64 t12_7)) (.int .i64 t12_7) h6 rfl rfl ?_
      obtain ⟨q_12, E_q_12, h⟩ := bind_some h
      refine g_v (.int .i64 q_12) (ev_shr rfl rfl E_q_12) ?_
      refine g_v1 (t := 19) (u := (.int .i64 q_12)) (.int .i64 (iand .i64 q_12 1)) rfl rfl rfl ?_
      refine g_v1 (t := 20) (u := (.int .i64 (iand .i64 q_12 1))) (.bool ((iand .i64 q_12 1) == 1)) rfl rfl rfl ?_
      refine g_end ?_
      refine e_end ?_
      refine renew [(1, (.int .i64 set_2)), (4, (.int .i64 0)), (5, (.int .i64 out_6)), (7, (.int .i64 e_11)), (10, (Enc.enc (w_1.a : List Int))), (11, (.int .i64 (w_1.a.length : Int))), (12, (.int .i64 t12_7)), (21, (.bool ((iand .i64 q_12 1) == 1)))] ⟨h1, h4, h5, h7, h10, h11, h12, rfl⟩ ?_
      rintro s ⟨h1, h4, h5, h7, h10, h11, h12, h21⟩
      refine .nsq ?_
      refine run_cond (t := ((iand .i64 q_12 1) == 1)) h21 h (fun h => ?_) (fun h => ?_)
      · refine run_reg ?_
        refine e_end ?_
        refine g_v1 (t := 5) (u := (.int .i64 out_6)) (.int .i64 out_6) h5 rfl rfl ?_
        refine g_v1 (t := 7) (u := (.int .i64 e_11)) (.int .i64 e_11) h7 rfl rfl ?_
        refine g_v2 (t1 := 22) (t2 := 23) (u1 := (.int .i64 out_6)) (u2 := (.int .i64 e_11)) (.int .i64 (ior .i64 out_6 e_11)) rfl rfl rfl rfl ?_
        refine g_v1 (t := 24) (u := (.int .i64 (ior .i64 out_6 e_11))) (.int .i64 (ior .i64 out_6 e_11)) rfl rfl rfl ?_
        refine g_end ?_
        refine e_end ?_
        refine renew [(1, (.int .i64 set_2)), (4, (.int .i64 0)), (5, (.int .i64 (ior .i64 out_6 e_11))), (10, (Enc.enc (w_1.a : List Int))), (11, (.int .i64 (w_1.a.length : Int))), (12, (.int .i64 t12_7))] ⟨h1, h4, rfl, h10, h11, h12⟩ ?_
        rintro s ⟨h1, h4, h5, h10, h11, h12⟩
        exact t_f123_j1 H set_2 w_1 t12_7 (i_net_around_l1 F set_2 w_1 k) ih (ior .i64 out_6 e_11) _ ⟨h1, h4, h5, h10, h11, h12⟩ h
      · refine .skip ?_
        exact t_f123_j1 H set_2 w_1 t12_7 (i_net_around_l1 F set_2 w_1 k) ih out_6 _ ⟨h1, h4, h5, h10, h11, h12⟩ h
    · refine .exit ?_
      refine .esq ?_
      refine .elp ?_
      refine .ebk ?_
      refine .nsq ?_
      refine .seq ?_
      refine run_reg ?_
      refine e_end ?_
      refine g_v1 (t := 5) (u := (.int .i64 out_6)) (.int .i64 out_6) h5 rfl rfl ?_
      refine g_v1 (t := 26) (u := (.int .i64 out_6)) (.int .i64 out_6) rfl rfl rfl ?_
      refine g_end ?_
      refine e_end ?_
      refine renew [(4, (.int .i64 out_6))] rfl ?_
      rintro s h4
      refine .nsq ?_
      refine .ret ?_
      have hr := Option.some.inj h
      subst hr
      exact rrA (res_tmp h4) rfl
def i_net_around (F : Nat) (w_1 : (S1 (List Int))) (set_2 : Int) : Option Int :=
  i_net_around_l1 F set_2 w_1 F set_2 0
theorem t123 (H : H123 D σ F) (w_1 : (S1 (List Int))) (set_2 : Int) (s : Nat → V) (hs : Facts [(0, (.agg [(Enc.enc (w_1.a : List Int))])), (1, (.int .i64 set_2))] s) (h : i_net_around F w_1 set_2 = some r) : Run D σ (R123 r) (.run A123 []) s := by
  unfold i_net_around at h
  obtain ⟨h0, h1⟩ := hs
  refine .seq ?_
  refine run_reg ?_
  refine e_clr ?_
  refine e_end ?_
  refine g_box (.agg [(Enc.enc (w_1.a : List Int))]) (rd_of (keep_clear (s := s) (pk := [2]) h0 rfl (map_agg (maps_cons (Enc.map_enc _ (w_1.a : List Int)) maps_nil))) rfl) (gone_clear (s := s) (pk := [2]) (t := 2) rfl) rfl ?_
  refine g_v0 (.int .i64 0) rfl rfl ?_
  refine g_end ?_
  refine e_end ?_
  refine renew [(1, (.int .i64 set_2)), (2, (.ref (.bx 2) 0 [] (.agg [(Enc.enc (w_1.a : List Int))]))), (4, (.int .i64 0))] ⟨(keep_clear (s := s) (pk := [2]) h1 rfl rfl), rfl, rfl⟩ ?_
  rintro s ⟨h1, h2, h4⟩
  refine .nsq ?_
  refine .seq ?_
  refine run_reg ?_
  refine e_end ?_
  refine g_v1 (t := 1) (u := (.int .i64 set_2)) (.int .i64 set_2) h1 rfl rfl ?_
  refine g_v1 (t := 8) (u := (.int .i64 set_2)) (.int .i64 set_2) rfl rfl rfl ?_
  refine g_end ?_
  refine e_end ?_
  refine renew [(1, (.int .i64 set_2)), (2, (.ref (.bx 2) 0 [] (.agg [(Enc.enc (w_1.a : List Int))]))), (4, (.int .i64 0)), (5, (.int .i64 set_2))] ⟨h1, h2, h4, rfl⟩ ?_
  rintro s ⟨h1, h2, h4, h5⟩
  refine .nsq ?_
  refine .seq ?_
  refine .seq ?_
  refine run_reg ?_
  refine e_end ?_
  refine g_v1 (t := 2) (u := (.ref (.bx 2) 0 [] (.agg [(Enc.enc (w_1.a : List Int))]))) (.ref (.bx 2) 0 [0] (Enc.enc (w_1.a : List Int))) h2 rfl rfl ?_
  refine g_v1 (t := 9) (u := (.ref (.bx 2) 0 [0] (Enc.enc (w_1.a : List Int)))) (Enc.enc (w_1.a : List Int)) rfl rfl rfl ?_
  refine g_v (.int .i64 (w_1.a.length : Int)) (ev_len (xs := w_1.a) rfl) ?_
  refine g_v0 (.int .i64 0) rfl rfl ?_
  refine g_end ?_
  refine e_end ?_
  refine renew [(1, (.int .i64 set_2)), (4, (.int .i64 0)), (5, (.int .i64 set_2)), (10, (Enc.enc (w_1.a : List Int))), (11, (.int .i64 (w_1.a.length : Int))), (12, (.int .i64 0))] ⟨h1, h4, h5, rfl, rfl, rfl⟩ ?_
  rintro s ⟨h1, h4, h5, h10, h11, h12⟩
  refine .nsq ?_
  refine .block ?_
  refine .loop ?_
  exact t_f123_l1 H set_2 w_1 F set_2 0 _ ⟨h1, h4, h5, h10, h11, h12⟩ h
end
def e123 (F : Nat) : Ent := ⟨123, da (fun (x : ((S1 (List Int)) × Int × Unit)) => i_net_around F x.1 x.2.1) (fun (r : Int) => (Enc.enc (r : Int))), 0, false, selF []⟩
theorem p123 {F : Nat} {x0 : (S1 (List Int))} {x1 : Int} {r : Int} (h : i_net_around F x0 x1 = some r) : (e123 F).den [Enc.enc x0, Enc.enc x1] = some (Enc.enc (r : Int)) := da_put (f := fun (x : ((S1 (List Int)) × Int × Unit)) => i_net_around F x.1 x.2.1) (t := fun (r : Int) => (Enc.enc (r : Int))) (x0, x1, ()) h
theorem o123 {D : Den} {σ : Sig} {F : Nat} (hF : Fits2 Try.prog D σ) (H : H123 D σ F) : (e123 F).Ok Try.prog := by
  refine ⟨fun args r h => ?_, ⟨Try.f123, Try.func123, rfl, rfl⟩⟩
  obtain ⟨⟨x0, x1, _⟩, y, rfl, hy, rfl⟩ := da_open h
  exact contract_run hF (by kernel_rfl) Try.func123 rfl c123 (show 2 ≤ Try.f123.ntmps by decide) (t123 H x0 x1 _ ⟨rfl, rfl⟩ hy)
/- (loop.example/g01109/impl.net).parts -/
def A92_2 : AC := (AC.cond (O.t 9) AC.skip (AC.exit 0))
def A92_7 : AC := (AC.cond (O.t 21) (AC.exit 2) AC.skip)
def A92_8 : AC := (AC.reg [] [(I.mk (some 22) none false (X.v (A.mov (O.t 7)))), (I.mk (some 6) none false (X.v (A.mov (O.t 22))))] [])
def A92_6 : AC := (AC.seq (AC.seq (AC.reg [] [(I.mk (some 19) none false (X.v (A.mov (O.t 7)))), (I.mk (some 20) none false (X.v (A.mov (O.t 6)))), (I.mk (some 21) none false (X.v (A.bin BinOp.eql (O.t 19) (O.t 20))))] []) A92_7) A92_8)
def A92_5 : AC := (AC.block 3 (AC.seq (AC.reg [] [(I.mk (some 14) none false (X.v (A.load (Sh.ag [Sh.p]) (O.t 2)))), (I.mk (some 15) none false (X.v (A.mov (O.t 6)))), (I.mk (some 16) none false (X.call (O.k (V.fn 123 [] [])) [(O.t 14), (O.t 15)])), (I.mk (some 17) none false (X.v (A.mov (O.t 1)))), (I.mk (some 18) none false (X.v (A.bin BinOp.and (O.t 16) (O.t 17)))), (I.mk (some 7) none false (X.v (A.mov (O.t 18))))] []) A92_6))
def A92_10 : AC := (AC.reg [] [(I.mk (some 27) none false (X.v (A.mov (O.t 1)))), (I.mk (some 28) none false (X.v (A.mov (O.t 6)))), (I.mk (some 29) none false (X.v (A.bin BinOp.andNot (O.t 27) (O.t 28)))), (I.mk (some 1) none false (X.v (A.mov (O.t 29))))] [])
def A92_9 : AC := (AC.seq (AC.reg [.clr [25, 26]] [(I.mk (some 23) none false (X.v (A.mov (O.t 5)))), (I.mk (some 24) none false (X.v (A.mov (O.t 6)))), (I.mk (some 25) none false (X.lit (V.int IntKind.i64 (Int.ofNat 0)) 1 [(0, 0, (O.t 24))])), (I.mk (some 26) none false (X.app Sh.s (O.t 23) (O.t 25))), (I.mk (some 5) none false (X.v (A.mov (O.t 26))))] [.home 26 5]) A92_10)
def A92_4 : AC := (AC.seq (AC.block 2 (AC.loop A92_5)) A92_9)
def A92_3 : AC := (AC.block 1 (AC.seq (AC.reg [] [(I.mk (some 10) none false (X.v (A.mov (O.t 1)))), (I.mk (some 11) none false (X.v (A.mov (O.t 1)))), (I.mk (some 12) none false (X.v (A.un UnOp.neg (O.t 11)))), (I.mk (some 13) none false (X.v (A.bin BinOp.and (O.t 10) (O.t 12)))), (I.mk (some 6) none false (X.v (A.mov (O.t 13))))] []) A92_4))
def A92_1 : AC := (AC.seq (AC.seq (AC.reg [] [(I.mk (some 8) none false (X.v (A.mov (O.t 1)))), (I.mk (some 9) none false (X.v (A.bin BinOp.neq (O.t 8) (O.k (V.int IntKind.i64 (Int.ofNat 0))))))] []) A92_2) A92_3)
def A92_11 : AC := (AC.seq (AC.reg [] [(I.mk (some 30) none false (X.v (A.mov (O.t 5)))), (I.mk (some 4) none false (X.v (A.mov (O.t 30))))] [.home 5 4]) AC.ret)
def A92_13 : AC := (AC.seq (AC.block 0 (AC.loop A92_1)) A92_11)
def A92_12 : AC := (AC.seq (AC.reg [] [(I.mk (some 5) none false (X.v (A.mov (O.k (V.sl Tok.nl Sh.s 0 [])))))] []) A92_13)
def A92 : AC := (AC.seq (AC.reg [.clr [2]] [(I.mk (some 2) none false (X.box (O.t 0))), (I.mk (some 4) none false (X.v (A.mov (O.k (V.sl Tok.nl Sh.s 0 [])))))] []) A92_12)
def an92 : List An := [{ id := 0, pre := [.clr [2]], ep := [], lin := [], sp := [] }, { id := 7, pre := [.clr [25, 26]], ep := [.home 26 5], lin := [], sp := [] }, { id := 9, pre := [], ep := [.home 5 4], lin := [], sp := [] }]
theorem c92 : cC Try.prog Try.f92.ntmps an92 (Try.f92.body.getD .skip) = some A92 := by kernel_rfl
structure H92 (D : Den) (σ : Sig) (F : Nat) : Prop where
  c123 : ∀ (x0 : (S1 (List Int))) (x1 : Int) r, i_net_around F x0 x1 = some r → D 123 [Enc.enc x0, Enc.enc x1] = some (Enc.enc (r : Int))
  g123 : σ 123 = some (0, false)
abbrev R92 (r : (List Int)) : (Nat → V) → Prop := RR Try.prog [.tmp 4] 0 false (Enc.enc (r : (List Int)))
section
variable {D : Den} {σ : Sig} {F : Nat} {r : (List Int)}
def i_net_parts_l1 (F : Nat) (set_8 : Int) (w_1 : (S1 (List Int))) (parts_9 : (NL Int)) (c1 : Int → (NL Int) → Option (List Int)) : Nat → Int → Option (List Int)
  | 0, _ => none
  | k + 1, part_16 =>
    (i_net_around F w_1 part_16).bind fun r_18 =>
    bif ((iand .i64 r_18 set_8) == part_16) then
      (appL parts_9.list [part_16]).bind fun ap_19 =>
      c1 (iandNot .i64 set_8 part_16) (.of ap_19)
    else
      (i_net_parts_l1 F set_8 w_1 parts_9 c1 k) (iand .i64 r_18 set_8)
theorem t_f92_l1 (H : H92 D σ F) (set_8 : Int) (w_1 : (S1 (List Int))) (parts_9 : (NL Int)) (c1 : Int → (NL Int) → Option (List Int)) (Hc1 : ∀ (set_8 : Int) (parts_9 : (NL Int)) (s : Nat → V), Facts [(1, (.int .i64 set_8)), (2, (.ref (.bx 2) 0 [] (.agg [(Enc.enc (w_1.a : List Int))]))), (4, (.sl .nl (Enc.shp Int) 0 [])), (5, (encO (.at 5 []) (parts_9 : NL Int)))] s → c1 set_8 parts_9 = some r → Run D σ (R92 r) (.run A92_1 [.lp A92_1, .bk 0, .sq A92_11]) s) : ∀ (k : Nat) (part_16 : Int) (s : Nat → V), Facts [(1, (.int .i64 set_8)), (2, (.ref (.bx 2) 0 [] (.agg [(Enc.enc (w_1.a : List Int))]))), (4, (.sl .nl (Enc.shp Int) 0 [])), (5, (encO (.at 5 []) (parts_9 : NL Int))), (6, (.int .i64 part_16))] s → i_net_parts_l1 F set_8 w_1 parts_9 c1 k part_16 = some r → Run D σ (R92 r) (.run A92_5 [.lp A92_5, .bk 2, .sq A92_9, .bk 1, .lp A92_1, .bk 0, .sq A92_11]) s := by
  intro k
  induction k with
  | zero => intro part_16 s _ h; exact nomatch (h : (none : Option _) = some r)
  | succ k ih =>
    intro part_16 s hs h
    rw [i_net_parts_l1] at h
    obtain ⟨h1, h2, h4, h5, h6⟩ := hs
    refine .block ?_
    refine .seq ?_
    refine run_reg ?_
    refine e_end ?_
    refine g_v1 (t := 2) (u := (.ref (.bx 2) 0 [] (.agg [(Enc.enc (w_1.a : List Int))]))) (.agg [(Enc.enc (w_1.a : List Int))]) h2 rfl rfl ?_
    refine g_v1 (t := 6) (u := (.int .i64 part_16)) (.int .i64 part_16) h6 rfl rfl ?_
    obtain ⟨r_18, E_r_18, h⟩ := bind_some h
    refine g_call (m := 0) (al := false) (r := (Enc.enc (r_18 : Int))) [Enc.enc (w_1 : (S1 (List Int))), Enc.enc (part_16 : Int)] (ta_cons (v := (.agg [(Enc.enc (w_1.a : List Int))])) rfl rfl (Enc.erase_enc (w_1 : (S1 (List Int)))) (ta_cons (v := (.int .i64 part_16)) rfl rfl rfl ta_nil)) (H.c123 _ _ _ E_r_18) H.g123 rfl rfl rfl rfl ?_
    refine g_v1 (t := 1) (u := (.int .i64 set_8)) (.int .i64 set_8) h1 rfl rfl ?_
    refine g_v2 (t1 := 16) (t2 := 17) (u1 := (.int .i64 r_18)) (u2 := (.int .i64 set_8)) (.int .i64 (iand .i64 r_18 set_8)) rfl rfl rfl rfl ?_
    refine g_v1 (t := 18) (u := (.int .i64 (iand .i64 r_18 set_8))) (.int .i64 (iand .i64 r_18 set_8)) rfl rfl rfl ?_
    refine g_end ?_
    refine e_end ?_
    refine renew [(1, (.int .i64 set_8)), (2, (.ref (.bx 2) 0 [] (.agg [(Enc.enc (w_1.a : List Int))]))), (4, (.sl .nl (Enc.shp Int) 0 [])), (5, (encO (.at 5 []) (parts_9 : NL Int))), (6, (.int .i64 part_16)), (7, (.int .i64 (iand .i64 r_18 set_8)))] ⟨h1, h2, h4, h5, h6, rfl⟩ ?_
    rintro s ⟨h1, h2, h4, h5, h6, h7⟩
    refine .nsq ?_
    refine .seq ?_
    refine .seq ?_
    refine run_reg ?_
    refine e_end ?_
    refine g_v1 (t := 7) (u := (.int .i64 (iand .i64 r_18 set_8))) (.int .i64 (iand .i64 r_18 set_8)) h7 rfl rfl ?_
    refine g_v1 (t := 6) (u := (.int .i64 part_16)) (.int .i64 part_16) h6 rfl rfl ?_
    refine g_v2 (t1 := 19) (t2 := 20) (u1 := (.int .i64 (iand .i64 r_18 set_8))) (u2 := (.int .i64 part_16)) (.bool ((iand .i64 r_18 set_8) == part_16)) rfl rfl rfl rfl ?_
    refine g_end ?_
    refine e_end ?_
    refine renew [(1, (.int .i64 set_8)), (2, (.ref (.bx 2) 0 [] (.agg [(Enc.enc (w_1.a : List Int))]))), (4, (.sl .nl (Enc.shp Int) 0 [])), (5, (encO (.at 5 []) (parts_9 : NL Int))), (6, (.int .i64 part_16)), (7, (.int .i64 (iand .i64 r_18 set_8))), (21, (.bool ((iand .i64 r_18 set_8) == part_16)))] ⟨h1, h2, h4, h5, h6, h7, rfl⟩ ?_
    rintro s ⟨h1, h2, h4, h5, h6, h7, h21⟩
    refine .nsq ?_
    refine run_cond (t := ((iand .i64 r_18 set_8) == part_16)) h21 h (fun h => ?_) (fun h => ?_)
    · refine .exit ?_
      refine .esq ?_
      refine .ebn (by decide) ?_
      refine .elp ?_
      refine .ebk ?_
      refine .nsq ?_
      refine .seq ?_
      refine run_reg ?_
      refine e_clr ?_
      refine e_end ?_
      refine g_v (encO (.at 5 []) (parts_9 : NL Int)) (ev_mov (keep_clear (s := s) (pk := [25, 26]) h5 rfl (map_encO (r := 5) (p := []) rfl rfl)) ok_encO) ?_
      refine g_v1 (t := 6) (u := (.int .i64 part_16)) (.int .i64 part_16) (keep_clear (s := s) (pk := [25, 26]) h6 rfl rfl) rfl rfl ?_
      refine g_litL [(24, (.int .i64 part_16))] [Enc.enc (part_16 : Int)] rfl rfl rfl (gone_clear (s := s) (pk := [25, 26]) (t := 25) rfl) ?_
      obtain ⟨ap_19, E_ap_19, h⟩ := bind_some h
      refine g_app (q := 5) (p := []) (o := (parts_9 : NL Int)) (ys := ([part_16] : List Int)) (t2 := (.at 25 [])) (lo2 := 0) rfl rfl rfl (gone_clear (s := s) (pk := [25, 26]) (t := 26) rfl) (appN_L (o := (parts_9 : NL Int)) E_ap_19 (by split <;> simp)) (fun s_9 ha_9 => ?_)
      refine g_v1 (t := 26) (u := (encO (.at 26 []) (.of (ap_19 : List Int)))) (encO (.at 26 []) (.of (ap_19 : List Int))) rfl rfl rfl ?_
      refine g_end ?_
      refine e_home (r := 26) (x := 5) (v := (encO (.at 26 []) (.of (ap_19 : List Int)))) (by exact rfl) rfl (fun s_10 hg_10 => ?_)
      refine e_end ?_
      refine renew [(1, (.int .i64 set_8)), (2, (.ref (.bx 2) 0 [] (.agg [(Enc.enc (w_1.a : List Int))]))), (4, (.sl .nl (Enc.shp Int) 0 [])), (5, (encO (.at 5 []) (.of (ap_19 : List Int)))), (6, (.int .i64 part_16))] ⟨(hg_10 1 (.int .i64 set_8) (.int .i64 set_8) (show s_9 1 = (.int .i64 set_8) from keep_app ha_9 (keep_clear (s := s) (pk := [25, 26]) h1 rfl rfl) rfl) rfl), (hg_10 2 (.ref (.bx 2) 0 [] (.agg [(Enc.enc (w_1.a : List Int))])) (.ref (.bx 2) 0 [] (.agg [(Enc.enc (w_1.a : List Int))])) (show s_9 2 = (.ref (.bx 2) 0 [] (.agg [(Enc.enc (w_1.a : List Int))])) from keep_app ha_9 (keep_clear (s := s) (pk := [25, 26]) h2 rfl (map_bx rfl (map_agg (maps_cons (Enc.map_enc _ (w_1.a : List Int)) maps_nil)))) (map_bx rfl (map_agg (maps_cons (Enc.map_enc _ (w_1.a : List Int)) maps_nil)))) (map_bx rfl (map_agg (maps_cons (Enc.map_enc _ (w_1.a : List Int)) maps_nil)))), (hg_10 4 (.sl .nl (Enc.shp Int) 0 []) (.sl .nl (Enc.shp Int) 0 []) (show s_9 4 = (.sl .nl (Enc.shp Int) 0 []) from keep_app ha_9 (keep_clear (s := s) (pk := [25, 26]) h4 rfl rfl) rfl) rfl), (hg_10 5 (encO (.at 26 []) (.of (ap_19 : List Int))) (encO (.at 5 []) (.of (ap_19 : List Int))) rfl (map_encO (r := 26) (p := []) rfl rfl)), (hg_10 6 (.int .i64 part_16) (.int .i64 part_16) (show s_9 6 = (.int .i64 part_16) from keep_app ha_9 (keep_clear (s := s) (pk := [25, 26]) h6 rfl rfl) rfl) rfl)⟩ ?_
      rintro s ⟨h1, h2, h4, h5, h6⟩
      refine .nsq ?_
      refine run_reg ?_
      refine e_end ?_
      refine g_v1 (t := 1) (u := (.int .i64 set_8)) (.int .i64 set_8) h1 rfl rfl ?_
      refine g_v1 (t := 6) (u := (.int .i64 part_16)) (.int .i64 part_16) h6 rfl rfl ?_
      refine g_v2 (t1 := 27) (t2 := 28) (u1 := (.int .i64 set_8)) (u2 := (.int .i64 part_16)) (.int .i64 (iandNot .i64 set_8 part_16)) rfl rfl rfl rfl ?_
      refine g_v1 (t := 29) (u := (.int .i64 (iandNot .i64 set_8 part_16))) (.int .i64 (iandNot .i64 set_8 part_16)) rfl rfl rfl ?_
      refine g_end ?_
      refine e_end ?_
      refine renew [(1, (.int .i64 (iandNot .i64 set_8 part_16))), (2, (.ref (.bx 2) 0 [] (.agg [(Enc.enc (w_1.a : List Int))]))), (4, (.sl .nl (Enc.shp Int) 0 [])), (5, (encO (.at 5 []) (.of (ap_19 : List Int))))] ⟨rfl, h2, h4, h5⟩ ?_
      rintro s ⟨h1, h2, h4, h5⟩
      refine .nbk ?_
      refine .nlp ?_
      exact Hc1 (iandNot .i64 set_8 part_16) (.of ap_19) _ ⟨h1, h2, h4, h5⟩ h
    · refine .skip ?_
      refine .nsq ?_
      refine run_reg ?_
      refine e_end ?_
      refine g_v1 (t := 7) (u := (.int .i64 (iand .i64 r_18 set_8))) (.int .i64 (iand .i64 r_18 set_8)) h7 rfl rfl ?_
      refine g_v1 (t := 22) (u := (.int .i64 (iand .i64 r_18 set_8))) (.int .i64 (iand .i64 r_18 set_8)) rfl rfl rfl ?_
      refine g_end ?_
      refine e_end ?_
      refine renew [(1, (.int .i64 set_8)), (2, (.ref (.bx 2) 0 [] (.agg [(Enc.enc (w_1.a : List Int))]))), (4, (.sl .nl (Enc.shp Int) 0 [])), (5, (encO (.at 5 []) (parts_9 : NL Int))), (6, (.int .i64 (iand .i64 r_18 set_8)))] ⟨h1, h2, h4, h5, rfl⟩ ?_
      rintro s ⟨h1, h2, h4, h5, h6⟩
      refine .nbk ?_
      refine .nlp ?_
      exact ih (iand .i64 r_18 set_8) _ ⟨h1, h2, h4, h5, h6⟩ h
def i_net_parts_l2 (F : Nat) (w_1 : (S1 (List Int)))  : Nat → Int → (NL Int) → Option (List Int)
  | 0, _, _ => none
  | k + 1, set_8, parts_9 =>
    bif (set_8 != 0) then
      i_net_parts_l1 F set_8 w_1 parts_9 (i_net_parts_l2 F w_1 k) F (iand .i64 set_8 (w64 (0 - set_8)))
    else
      some parts_9.list
theorem t_f92_l2 (H : H92 D σ F) (w_1 : (S1 (List Int)))  : ∀ (k : Nat) (set_8 : Int) (parts_9 : (NL Int)) (s : Nat → V), Facts [(1, (.int .i64 set_8)), (2, (.ref (.bx 2) 0 [] (.agg [(Enc.enc (w_1.a : List Int))]))), (4, (.sl .nl (Enc.shp Int) 0 [])), (5, (encO (.at 5 []) (parts_9 : NL Int)))] s → i_net_parts_l2 F w_1 k set_8 parts_9 = some r → Run D σ (R92 r) (.run A92_1 [.lp A92_1, .bk 0, .sq A92_11]) s := by
  intro k
  induction k with
  | zero => intro set_8 parts_9 s _ h; exact nomatch (h : (none : Option _) = some r)
  | succ k ih =>
    intro set_8 parts_9 s hs h
    rw [i_net_parts_l2] at h
    obtain ⟨h1, h2, h4, h5⟩ := hs
    refine .seq ?_
    refine .seq ?_
    refine run_reg ?_
    refine e_end ?_
    refine g_v1 (t := 1) (u := (.int .i64 set_8)) (.int .i64 set_8) h1 rfl rfl ?_
    refine g_v1 (t := 8) (u := (.int .i64 set_8)) (.bool (set_8 != 0)) rfl rfl rfl ?_
    refine g_end ?_
    refine e_end ?_
    refine renew [(1, (.int .i64 set_8)), (2, (.ref (.bx 2) 0 [] (.agg [(Enc.enc (w_1.a : List Int))]))), (4, (.sl .nl (Enc.shp Int) 0 [])), (5, (encO (.at 5 []) (parts_9 : NL Int))), (9, (.bool (set_8 != 0)))] ⟨h1, h2, h4, h5, rfl⟩ ?_
    rintro s ⟨h1, h2, h4, h5, h9⟩
    refine .nsq ?_
    refine run_cond (t := (set_8 != 0)) h9 h (fun h => ?_) (fun h => ?_)
    · refine .skip ?_
      refine .nsq ?_
      refine .block ?_
      refine .seq ?_
      refine run_reg ?_
      refine e_end ?_
      refine g_v1 (t := 1) (u := (.int .i64 set_8)) (.int .i64 set_8) h1 rfl rfl ?_
      refine g_v1 (t := 1) (u := (.int .i64 set_8)) (.int .i64 set_8) h1 rfl rfl ?_
      refine g_v1 (t := 11) (u := (.int .i64 set_8)) (.int .i64 (w64 (0 - set_8))) rfl rfl rfl ?_
      refine g_v2 (t1 := 10) (t2 := 12) (u1 := (.int .i64 set_8)) (u2 := (.int .i64 (w64 (0 - set_8)))) (.int .i64 (iand .i64 set_8 (w64 (0 - set_8)))) rfl rfl rfl rfl ?_
      refine g_v1 (t := 13) (u := (.int .i64 (iand .i64 set_8 (w64 (0 - set_8))))) (.int .i64 (iand .i64 set_8 (w64 (0 - set_8)))) rfl rfl rfl ?_
      refine g_end ?_
      refine e_end ?_
      refine renew [(1, (.int .i64 set_8)), (2, (.ref (.bx 2) 0 [] (.agg [(Enc.enc (w_1.a : List Int))]))), (4, (.sl .nl (Enc.shp Int) 0 [])), (5, (encO (.at 5 []) (parts_9 : NL Int))), (6, (.int .i64 (iand .i64 set_8 (w64 (0 - set_8)))))] ⟨h1, h2, h4, h5, rfl⟩ ?_
      rintro s ⟨h1, h2, h4, h5, h6⟩
      refine .nsq ?_
      refine .seq ?_
      refine .block ?_
      refine .loop ?_
      exact t_f92_l1 H set_8 w_1 parts_9 (i_net_parts_l2 F w_1 k) ih F (iand .i64 set_8 (w64 (0 - set_8))) _ ⟨h1, h2, h4, h5, h6⟩ h
    · refine .exit ?_
      refine .esq ?_
      refine .elp ?_
      refine .ebk ?_
      refine .nsq ?_
      refine .seq ?_
      refine run_reg ?_
      refine e_end ?_
      refine g_v (encO (.at 5 []) (parts_9 : NL Int)) (ev_mov h5 ok_encO) ?_
      refine g_v (encO (.at 5 []) (parts_9 : NL Int)) (ev_mov rfl ok_encO) ?_
      refine g_end ?_
      refine e_home (r := 5) (x := 4) (v := (encO (.at 5 []) (parts_9 : NL Int))) (by exact rfl) ok_encO (fun s_11 hg_11 => ?_)
      refine e_end ?_
      refine renew [(4, (encO (.at 4 []) (parts_9 : NL Int)))] (hg_11 4 (encO (.at 5 []) (parts_9 : NL Int)) (encO (.at 4 []) (parts_9 : NL Int)) rfl (map_encO (r := 5) (p := []) rfl rfl)) ?_
      rintro s h4
      refine .nsq ?_
      refine .ret ?_
      have hr := Option.some.inj h
      subst hr
      exact rrA (res_tmp h4) (fin_retF (fin_own (o := parts_9)) (mine_own rfl))
def i_net_parts (F : Nat) (w_1 : (S1 (List Int))) (set_2 : Int) : Option (List Int) :=
  i_net_parts_l2 F w_1 F set_2 .nil
theorem t92 (H : H92 D σ F) (w_1 : (S1 (List Int))) (set_2 : Int) (s : Nat → V) (hs : Facts [(0, (.agg [(Enc.enc (w_1.a : List Int))])), (1, (.int .i64 set_2))] s) (h : i_net_parts F w_1 set_2 = some r) : Run D σ (R92 r) (.run A92 []) s := by
  unfold i_net_parts at h
  obtain ⟨h0, h1⟩ := hs
  refine .seq ?_
  refine run_reg ?_
  refine e_clr ?_
  refine e_end ?_
  refine g_box (.agg [(Enc.enc (w_1.a : List Int))]) (rd_of (keep_clear (s := s) (pk := [2]) h0 rfl (map_agg (maps_cons (Enc.map_enc _ (w_1.a : List Int)) maps_nil))) rfl) (gone_clear (s := s) (pk := [2]) (t := 2) rfl) rfl ?_
  refine g_v0 (.sl .nl (Enc.shp Int) 0 []) rfl rfl ?_
  refine g_end ?_
  refine e_end ?_
  refine renew [(1, (.int .i64 set_2)), (2, (.ref (.bx 2) 0 [] (.agg [(Enc.enc (w_1.a : List Int))]))), (4, (.sl .nl (Enc.shp Int) 0 []))] ⟨(keep_clear (s := s) (pk := [2]) h1 rfl rfl), rfl, rfl⟩ ?_
  rintro s ⟨h1, h2, h4⟩
  refine .nsq ?_
  refine .seq ?_
  refine run_reg ?_
  refine e_end ?_
  refine g_v0 (.sl .nl (Enc.shp Int) 0 []) rfl rfl ?_
  refine g_end ?_
  refine e_end ?_
  refine renew [(1, (.int .i64 set_2)), (2, (.ref (.bx 2) 0 [] (.agg [(Enc.enc (w_1.a : List Int))]))), (4, (.sl .nl (Enc.shp Int) 0 [])), (5, (.sl .nl (Enc.shp Int) 0 []))] ⟨h1, h2, h4, rfl⟩ ?_
  rintro s ⟨h1, h2, h4, h5⟩
  refine .nsq ?_
  refine .seq ?_
  refine .block ?_
  refine .loop ?_
  exact t_f92_l2 H w_1 F set_2 .nil _ ⟨h1, h2, h4, h5⟩ h
end
def e92 (F : Nat) : Ent := ⟨92, da (fun (x : ((S1 (List Int)) × Int × Unit)) => i_net_parts F x.1 x.2.1) (fun (r : (List Int)) => (Enc.enc (r : (List Int)))), 0, false, selF []⟩
theorem p92 {F : Nat} {x0 : (S1 (List Int))} {x1 : Int} {r : (List Int)} (h : i_net_parts F x0 x1 = some r) : (e92 F).den [Enc.enc x0, Enc.enc x1] = some (Enc.enc (r : (List Int))) := da_put (f := fun (x : ((S1 (List Int)) × Int × Unit)) => i_net_parts F x.1 x.2.1) (t := fun (r : (List Int)) => (Enc.enc (r : (List Int)))) (x0, x1, ()) h
theorem o92 {D : Den} {σ : Sig} {F : Nat} (hF : Fits2 Try.prog D σ) (H : H92 D σ F) : (e92 F).Ok Try.prog := by
  refine ⟨fun args r h => ?_, ⟨Try.f92, Try.func92, rfl, rfl⟩⟩
  obtain ⟨⟨x0, x1, _⟩, y, rfl, hy, rfl⟩ := da_open h
  exact contract_run hF (by kernel_rfl) Try.func92 rfl c92 (show 2 ≤ Try.f92.ntmps by decide) (t92 H x0 x1 _ ⟨rfl, rfl⟩ hy)
/- loop.example/g01109/impl.allWithin -/
def A132_5 : AC := (AC.cond (O.t 19) (AC.seq (AC.reg [] [(I.mk (some 6) none false (X.v (A.mov (O.k (V.bool false)))))] []) AC.ret) AC.skip)
def A132_4 : AC := (AC.seq (AC.reg [] [(I.mk (some 15) none false (X.v (A.mov (O.t 8)))), (I.mk (some 16) none false (X.v (A.mov (O.t 1)))), (I.mk (some 17) none false (X.v (A.mov (O.t 2)))), (I.mk (some 18) none false (X.call (O.k (V.fn 62 [] [])) [(O.t 15), (O.t 16), (O.t 17)])), (I.mk (some 19) none false (X.v (A.un UnOp.not (O.t 18))))] []) A132_5)
def A132_6 : AC := (AC.reg [] [(I.mk (some 20) none false (X.v (A.bin BinOp.add (O.t 11) (O.k (V.int IntKind.i64 (Int.ofNat 1)))))), (I.mk (some 11) none false (X.v (A.mov (O.t 20))))] [])
def A132_3 : AC := (AC.seq (AC.block 1 (AC.seq (AC.reg [] [(I.mk (some 13) none false (X.v (A.idx (O.t 9) (O.t 11) 1))), (I.mk (some 14) none false (X.v (A.load Sh.s (O.t 13)))), (I.mk (some 8) none false (X.v (A.mov (O.t 14))))] []) A132_4)) A132_6)
def A132_2 : AC := (AC.seq (AC.cond (O.t 12) AC.skip (AC.exit 0)) A132_3)
def A132_1 : AC := (AC.seq (AC.reg [] [(I.mk (some 12) none false (X.v (A.bin BinOp.lss (O.t 11) (O.t 10))))] []) A132_2)
def A132_7 : AC := (AC.seq (AC.reg [] [(I.mk (some 6) none false (X.v (A.mov (O.k (V.bool true)))))] []) AC.ret)
def A132_9 : AC := (AC.block 0 (AC.loop A132_1))
def A132_8 : AC := (AC.seq (AC.seq (AC.reg [] [(I.mk (some 9) none false (X.v (A.mov (O.t 0)))), (I.mk (some 10) none false (X.v (A.len (O.t 9)))), (I.mk (some 11) none false (X.v (A.mov (O.k (V.int IntKind.i64 (Int.ofNat 0))))))] []) A132_9) A132_7)
def A132 : AC := (AC.seq (AC.reg [] [(I.mk (some 6) none false (X.v (A.mov (O.k (V.bool false)))))] []) A132_8)
def an132 : List An := []
theorem c132 : cC Try.prog Try.f132.ntmps an132 (Try.f132.body.getD .skip) = some A132 := by kernel_rfl
structure H132 (D : Den) (σ : Sig) (F : Nat) : Prop where
  c62 : ∀ (x0 : Int) (x1 : Int) (x2 : Int) r, i_within F x0 x1 x2 = some r → D 62 [Enc.enc x0, Enc.enc x1, Enc.enc x2] = some (Enc.enc (r : Bool))
  g62 : σ 62 = some (0, false)
abbrev R132 (r : Bool) : (Nat → V) → Prop := RR Try.prog [.tmp 6] 0 false (Enc.enc (r : Bool))
section
variable {D : Den} {σ : Sig} {F : Nat} {r : Bool}
def i_allWithin_l1 (F : Nat) (low_2 : Int) (high_3 : Int) (list_1 : (List Int))  : Nat → Int → Option Bool
  | 0, _ => none
  | k + 1, t11_6 =>
    bif decide (t11_6 < (list_1.length : Int)) then
      (idx list_1 t11_6).bind fun e_9 =>
      (i_within F e_9 low_2 high_3).bind fun r_10 =>
      bif (!r_10) then
        some false
      else
        (i_allWithin_l1 F low_2 high_3 list_1 k) (w64 (t11_6 + 1))
    else
      some true
theorem t_f132_l1 (H : H132 D σ F) (low_2 : Int) (high_3 : Int) (list_1 : (List Int))  : ∀ (k : Nat) (t11_6 : Int) (s : Nat → V), Facts [(1, (.int .i64 low_2)), (2, (.int .i64 high_3)), (6, (.bool false)), (9, (Enc.enc (list_1 : List Int))), (10, (.int .i64 (list_1.length : Int))), (11, (.int .i64 t11_6))] s → i_allWithin_l1 F low_2 high_3 list_1 k t11_6 = some r → Run D σ (R132 r) (.run A132_1 [.lp A132_1, .bk 0, .sq A132_7]) s := by
  intro k
  induction k with
  | zero => intro t11_6 s _ h; exact nomatch (h : (none : Option _) = some r)
  | succ k ih =>
    intro t11_6 s hs h
    rw [i_allWithin_l1] at h
    obtain ⟨h1, h2, h6, h9, h10, h11⟩ := hs
    refine .seq ?_
    refine run_reg ?_
    refine e_end ?_
    refine g_v2 (t1 := 11) (t2 := 10) (u1 := (.int .i64 t11_6)) (u2 := (.int .i64 (list_1.length : Int))) (.bool (decide (t11_6 < (list_1.length : Int)))) h11 h10 rfl rfl ?_
    refine g_end ?_
    refine e_end ?_
    refine renew [(1, (.int .i64 low_2)), (2, (.int .i64 high_3)), (6, (.bool false)), (9, (Enc.enc (list_1 : List Int))), (10, (.int .i64 (list_1.length : Int))), (11, (.int .i64 t11_6)), (12, (.bool (decide (t11_6 < (list_1.length : Int)))))] ⟨h1, h2, h6, h9, h10, h11, rfl⟩ ?_
    rintro s ⟨h1, h2, h6, h9, h10, h11, h12⟩
    refine .nsq ?_
    refine .seq ?_
    refine run_cond (t := decide (t11_6 < (list_1.length : Int))) h12 h (fun h => ?_) (fun h => ?_)
    · refine .skip ?_
      refine .nsq ?_
      refine .seq ?_
      refine .block ?_
      refine .seq ?_
      refine run_reg ?_
      refine e_end ?_
      obtain ⟨e_9, E_e_9, h⟩ := bind_some h
      refine g_v (.ref .sh 0 [] (.int .i64 e_9)) (ev_idx (t := .sh) (lo := 0) (xs := list_1) h9 h11 E_e_9 rfl rfl) ?_
      refine g_v1 (t := 13) (u := (.ref .sh 0 [] (.int .i64 e_9))) (.int .i64 e_9) rfl rfl rfl ?_
      refine g_v1 (t := 14) (u := (.int .i64 e_9)) (.int .i64 e_9) rfl rfl rfl ?_
      refine g_end ?_
      refine e_end ?_
      refine renew [(1, (.int .i64 low_2)), (2, (.int .i64 high_3)), (6, (.bool false)), (8, (.int .i64 e_9)), (9, (Enc.enc (list_1 : List Int))), (10, (.int .i64 (list_1.length : Int))), (11, (.int .i64 t11_6))] ⟨h1, h2, h6, rfl, h9, h10, h11⟩ ?_
      rintro s ⟨h1, h2, h6, h8, h9, h10, h11⟩
      refine .nsq ?_
      refine .seq ?_
      refine run_reg ?_
      refine e_end ?_
      refine g_v1 (t := 8) (u := (.int .i64 e_9)) (.int .i64 e_9) h8 rfl rfl ?_
      refine g_v1 (t := 1) (u := (.int .i64 low_2)) (.int .i64 low_2) h1 rfl rfl ?_
      refine g_v1 (t := 2) (u := (.int .i64 high_3)) (.int .i64 high_3) h2 rfl rfl ?_
      obtain ⟨r_10, E_r_10, h⟩ := bind_some h
      refine g_call (m := 0) (al := false) (r := (Enc.enc (r_10 : Bool))) [Enc.enc (e_9 : Int), Enc.enc (low_2 : Int), Enc.enc (high_3 : Int)] (ta_cons (v := (.int .i64 e_9)) rfl rfl rfl (ta_cons (v := (.int .i64 low_2)) rfl rfl rfl (ta_cons (v := (.int .i64 high_3)) rfl rfl rfl ta_nil))) (H.c62 _ _ _ _ E_r_10) H.g62 rfl rfl rfl rfl ?_
      refine g_v1 (t := 18) (u := (.bool r_10)) (.bool (!r_10)) rfl rfl rfl ?_
      refine g_end ?_
      refine e_end ?_
      refine renew [(1, (.int .i64 low_2)), (2, (.int .i64 high_3)), (6, (.bool false)), (9, (Enc.enc (list_1 : List Int))), (10, (.int .i64 (list_1.length : Int))), (11, (.int .i64 t11_6)), (19, (.bool (!r_10)))] ⟨h1, h2, h6, h9, h10, h11, rfl⟩ ?_
      rintro s ⟨h1, h2, h6, h9, h10, h11, h19⟩
      refine .nsq ?_
      refine run_cond (t := (!r_10)) h19 h (fun h => ?_) (fun h => ?_)
      · refine .seq ?_
        refine run_reg ?_
        refine e_end ?_
        refine g_v0 (.bool false) rfl rfl ?_
        refine g_end ?_
        refine e_end ?_
        refine renew [(1, (.int .i64 low_2)), (2, (.int .i64 high_3)), (6, (.bool false)), (9, (Enc.enc (list_1 : List Int))), (10, (.int .i64 (list_1.length : Int))), (11, (.int .i64 t11_6))] ⟨h1, h2, rfl, h9, h10, h11⟩ ?_
        rintro s ⟨h1, h2, h6, h9, h10, h11⟩
        refine .nsq ?_
        refine .ret ?_
        have hr := Option.some.inj h
        subst hr
        exact rrA (res_tmp h6) rfl
      · refine .skip ?_
        refine .nbk ?_
        refine .nsq ?_
        refine run_reg ?_
        refine e_end ?_
        refine g_v1 (t := 11) (u := (.int .i64 t11_6)) (.int .i64 (w64 (t11_6 + 1))) h11 rfl rfl ?_
        refine g_v1 (t := 20) (u := (.int .i64 (w64 (t11_6 + 1)))) (.int .i64 (w64 (t11_6 + 1))) rfl rfl rfl ?_
        refine g_end ?_
        refine e_end ?_
        refine renew [(1, (.int .i64 low_2)), (2, (.int .i64 high_3)), (6, (.bool false)), (9, (Enc.enc (list_1 : List Int))), (10, (.int .i64 (list_1.length : Int))), (11, (.int .i64 (w64 (t11_6 + 1))))] ⟨h1, h2, h6, h9, h10, rfl⟩ ?_
        rintro s ⟨h1, h2, h6, h9, h10, h11⟩
        refine .nlp ?_
        exact ih (w64 (t11_6 + 1)) _ ⟨h1, h2, h6, h9, h10, h11⟩ h
    · refine .exit ?_
      refine .esq ?_
      refine .elp ?_
      refine .ebk ?_
      refine .nsq ?_
      refine .seq ?_
      refine run_reg ?_
      refine e_end ?_
      refine g_v0 (.bool true) rfl rfl ?_
      refine g_end ?_
      refine e_end ?_
      refine renew [(6, (.bool true))] rfl ?_
      rintro s h6
      refine .nsq ?_
      refine .ret ?_
      have hr := Option.some.inj h
      subst hr
      exact rrA (res_tmp h6) rfl
def i_allWithin (F : Nat) (list_1 : (List Int)) (low_2 : Int) (high_3 : Int) : Option Bool :=
  i_allWithin_l1 F low_2 high_3 list_1 F 0
theorem t132 (H : H132 D σ F) (list_1 : (List Int)) (low_2 : Int) (high_3 : Int) (s : Nat → V) (hs : Facts [(0, (Enc.enc (list_1 : List Int))), (1, (.int .i64 low_2)), (2, (.int .i64 high_3))] s) (h : i_allWithin F list_1 low_2 high_3 = some r) : Run D σ (R132 r) (.run A132 []) s := by
  unfold i_allWithin at h
  obtain ⟨h0, h1, h2⟩ := hs
  refine .seq ?_
  refine run_reg ?_
  refine e_end ?_
  refine g_v0 (.bool false) rfl rfl ?_
  refine g_end ?_
  refine e_end ?_
  refine renew [(0, (Enc.enc (list_1 : List Int))), (1, (.int .i64 low_2)), (2, (.int .i64 high_3)), (6, (.bool false))] ⟨h0, h1, h2, rfl⟩ ?_
  rintro s ⟨h0, h1, h2, h6⟩
  refine .nsq ?_
  refine .seq ?_
  refine .seq ?_
  refine run_reg ?_
  refine e_end ?_
  refine g_v1 (t := 0) (u := (Enc.enc (list_1 : List Int))) (Enc.enc (list_1 : List Int)) h0 rfl rfl ?_
  refine g_v (.int .i64 (list_1.length : Int)) (ev_len (xs := list_1) rfl) ?_
  refine g_v0 (.int .i64 0) rfl rfl ?_
  refine g_end ?_
  refine e_end ?_
  refine renew [(1, (.int .i64 low_2)), (2, (.int .i64 high_3)), (6, (.bool false)), (9, (Enc.enc (list_1 : List Int))), (10, (.int .i64 (list_1.length : Int))), (11, (.int .i64 0))] ⟨h1, h2, h6, rfl, rfl, rfl⟩ ?_
  rintro s ⟨h1, h2, h6, h9, h10, h11⟩
  refine .nsq ?_
  refine .block ?_
  refine .loop ?_
  exact t_f132_l1 H low_2 high_3 list_1 F 0 _ ⟨h1, h2, h6, h9, h10, h11⟩ h
end
def e132 (F : Nat) : Ent := ⟨132, da (fun (x : ((List Int) × Int × Int × Unit)) => i_allWithin F x.1 x.2.1 x.2.2.1) (fun (r : Bool) => (Enc.enc (r : Bool))), 0, false, selF []⟩
theorem p132 {F : Nat} {x0 : (List Int)} {x1 : Int} {x2 : Int} {r : Bool} (h : i_allWithin F x0 x1 x2 = some r) : (e132 F).den [Enc.enc x0, Enc.enc x1, Enc.enc x2] = some (Enc.enc (r : Bool)) := da_put (f := fun (x : ((List Int) × Int × Int × Unit)) => i_allWithin F x.1 x.2.1 x.2.2.1) (t := fun (r : Bool) => (Enc.enc (r : Bool))) (x0, x1, x2, ()) h
theorem o132 {D : Den} {σ : Sig} {F : Nat} (hF : Fits2 Try.prog D σ) (H : H132 D σ F) : (e132 F).Ok Try.prog := by
  refine ⟨fun args r h => ?_, ⟨Try.f132, Try.func132, rfl, rfl⟩⟩
  obtain ⟨⟨x0, x1, x2, _⟩, y, rfl, hy, rfl⟩ := da_open h
  exact contract_run hF (by kernel_rfl) Try.func132 rfl c132 (show 3 ≤ Try.f132.ntmps by decide) (t132 H x0 x1 x2 _ ⟨rfl, rfl, rfl⟩ hy)
/- loop.example/g01109/impl.hasNodes -/
def A116_1 : AC := (AC.seq (AC.reg [] [(I.mk (some 5) none false (X.v (A.load (Sh.ag [Sh.s, Sh.p]) (O.t 2)))), (I.mk (some 6) none false (X.call (O.k (V.fn 53 [] [])) [(O.t 5)])), (I.mk (some 7) none false (X.v (A.mov (O.t 6)))), (I.mk (some 8) (some (7, true)) false (X.v (A.mov (O.t 1)))), (I.mk (some 9) (some (7, true)) false (X.v (A.fld (O.t 2) 0 0))), (I.mk (some 10) (some (7, true)) false (X.v (A.load Sh.s (O.t 9)))), (I.mk (some 11) (some (7, true)) false (X.v (A.bin BinOp.sub (O.t 10) (O.k (V.int IntKind.i64 (Int.ofNat 1)))))), (I.mk (some 12) (some (7, true)) false (X.call (O.k (V.fn 132 [] [])) [(O.t 8), (O.k (V.int IntKind.i64 (Int.ofNat 0))), (O.t 11)])), (I.mk (some 13) none false (X.v (A.pick (O.t 7) (O.t 12) (O.k (V.bool false))))), (I.mk (some 4) none false (X.v (A.mov (O.t 13))))] []) AC.ret)
def A116 : AC := (AC.seq (AC.reg [.clr [2]] [(I.mk (some 2) none false (X.box (O.t 0))), (I.mk (some 4) none false (X.v (A.mov (O.k (V.bool false)))))] []) A116_1)
def an116 : List An := [{ id := 0, pre := [.clr [2]], ep := [], lin := [], sp := [] }]
theorem c116 : cC Try.prog Try.f116.ntmps an116 (Try.f116.body.getD .skip) = some A116 := by kernel_rfl
structure H116 (D : Den) (σ : Sig) (F : Nat) : Prop where
  c53 : ∀ (x0 : (Int × (List (Int × Int)))) r, i_IsGraph F x0 = some r → D 53 [Enc.enc x0] = some (Enc.enc (r : Bool))
  g53 : σ 53 = some (0, false)
  c132 : ∀ (x0 : (List Int)) (x1 : Int) (x2 : Int) r, i_allWithin F x0 x1 x2 = some r → D 132 [Enc.enc x0, Enc.enc x1, Enc.enc x2] = some (Enc.enc (r : Bool))
  g132 : σ 132 = some (0, false)
abbrev R116 (r : Bool) : (Nat → V) → Prop := RR Try.prog [.tmp 4] 0 false (Enc.enc (r : Bool))
section
variable {D : Den} {σ : Sig} {F : Nat} {r : Bool}
def i_hasNodes (F : Nat) (g_1 : (Int × (List (Int × Int)))) (nodes_2 : (List Int)) : Option Bool :=
  (i_IsGraph F g_1).bind fun r_3 =>
  bif r_3 then
    (i_allWithin F nodes_2 0 (w64 (g_1.1 - 1))).bind fun r_4 =>
    some r_4
  else
    some false
theorem t116 (H : H116 D σ F) (g_1 : (Int × (List (Int × Int)))) (nodes_2 : (List Int)) (s : Nat → V) (hs : Facts [(0, (.agg [(.int .i64 g_1.1), (Enc.enc (g_1.2 : List (Int × Int)))])), (1, (Enc.enc (nodes_2 : List Int)))] s) (h : i_hasNodes F g_1 nodes_2 = some r) : Run D σ (R116 r) (.run A116 []) s := by
  unfold i_hasNodes at h
  obtain ⟨h0, h1⟩ := hs
  refine .seq ?_
  refine run_reg ?_
  refine e_clr ?_
  refine e_end ?_
  refine g_box (.agg [(.int .i64 g_1.1), (Enc.enc (g_1.2 : List (Int × Int)))]) (rd_of (keep_clear (s := s) (pk := [2]) h0 rfl (map_agg (maps_cons rfl (maps_cons (Enc.map_enc _ (g_1.2 : List (Int × Int))) maps_nil)))) rfl) (gone_clear (s := s) (pk := [2]) (t := 2) rfl) rfl ?_
  refine g_v0 (.bool false) rfl rfl ?_
  refine g_end ?_
  refine e_end ?_
  refine renew [(1, (Enc.enc (nodes_2 : List Int))), (2, (.ref (.bx 2) 0 [] (.agg [(.int .i64 g_1.1), (Enc.enc (g_1.2 : List (Int × Int)))]))), (4, (.bool false))] ⟨(keep_clear (s := s) (pk := [2]) h1 rfl (Enc.map_enc _ (nodes_2 : List Int))), rfl, rfl⟩ ?_
  rintro s ⟨h1, h2, h4⟩
  refine .nsq ?_
  refine .seq ?_
  refine run_reg ?_
  refine e_end ?_
  refine g_v1 (t := 2) (u := (.ref (.bx 2) 0 [] (.agg [(.int .i64 g_1.1), (Enc.enc (g_1.2 : List (Int × Int)))]))) (.agg [(.int .i64 g_1.1), (Enc.enc (g_1.2 : List (Int × Int)))]) h2 rfl rfl ?_
  obtain ⟨r_3, E_r_3, h⟩ := bind_some h
  refine g_call (m := 0) (al := false) (r := (Enc.enc (r_3 : Bool))) [Enc.enc (g_1 : (Int × (List (Int × Int))))] (ta_cons (v := (.agg [(.int .i64 g_1.1), (Enc.enc (g_1.2 : List (Int × Int)))])) rfl rfl (Enc.erase_enc (g_1 : (Int × (List (Int × Int))))) ta_nil) (H.c53 _ _ E_r_3) H.g53 rfl rfl rfl rfl ?_
  refine g_v1 (t := 6) (u := (.bool r_3)) (.bool r_3) rfl rfl rfl ?_
  refine split_on (c := r_3) h (fun hg3 h => ?_) (fun hg3 h => ?_)
  · refine g_yes (Eq.trans (b := .bool r_3) rfl (congrArg V.bool hg3)) (g_v1 (t := 1) (u := (Enc.enc (nodes_2 : List Int))) (Enc.enc (nodes_2 : List Int)) h1 rfl rfl ?_)
    refine g_yes (Eq.trans (b := .bool r_3) rfl (congrArg V.bool hg3)) (g_v1 (t := 2) (u := (.ref (.bx 2) 0 [] (.agg [(.int .i64 g_1.1), (Enc.enc (g_1.2 : List (Int × Int)))]))) (.ref (.bx 2) 0 [0] (.int .i64 g_1.1)) h2 rfl rfl ?_)
    refine g_yes (Eq.trans (b := .bool r_3) rfl (congrArg V.bool hg3)) (g_v1 (t := 9) (u := (.ref (.bx 2) 0 [0] (.int .i64 g_1.1))) (.int .i64 g_1.1) rfl rfl rfl ?_)
    refine g_yes (Eq.trans (b := .bool r_3) rfl (congrArg V.bool hg3)) (g_v1 (t := 10) (u := (.int .i64 g_1.1)) (.int .i64 (w64 (g_1.1 - 1))) rfl rfl rfl ?_)
    obtain ⟨r_4, E_r_4, h⟩ := bind_some h
    refine g_yes (Eq.trans (b := .bool r_3) rfl (congrArg V.bool hg3)) (g_call (m := 0) (al := false) (r := (Enc.enc (r_4 : Bool))) [Enc.enc (nodes_2 : (List Int)), Enc.enc (0 : Int), Enc.enc (w64 (g_1.1 - 1) : Int)] (ta_cons (v := (Enc.enc (nodes_2 : List Int))) rfl rfl (Enc.erase_enc (nodes_2 : (List Int))) (ta_cons (v := (.int .i64 0)) rfl rfl rfl (ta_cons (v := (.int .i64 (w64 (g_1.1 - 1)))) rfl rfl rfl ta_nil))) (H.c132 _ _ _ _ E_r_4) H.g132 rfl rfl rfl rfl ?_)
    refine g_v2 (t1 := 7) (t2 := 12) (u1 := (.bool true)) (u2 := (.bool r_4)) (.bool r_4) (Eq.trans (b := .bool r_3) rfl (congrArg V.bool hg3)) rfl rfl rfl ?_
    refine g_v1 (t := 13) (u := (.bool r_4)) (.bool r_4) rfl rfl rfl ?_
    refine g_end ?_
    refine e_end ?_
    refine renew [(4, (.bool r_4))] rfl ?_
    rintro s h4
    refine .nsq ?_
    refine .ret ?_
    have hr := Option.some.inj h
    subst hr
    exact rrA (res_tmp h4) rfl
  · refine g_no (Eq.trans (b := .bool r_3) rfl (congrArg V.bool hg3)) ?_
    refine g_no (Eq.trans (b := .bool r_3) rfl (congrArg V.bool hg3)) ?_
    refine g_no (Eq.trans (b := .bool r_3) rfl (congrArg V.bool hg3)) ?_
    refine g_no (Eq.trans (b := .bool r_3) rfl (congrArg V.bool hg3)) ?_
    refine g_no (Eq.trans (b := .bool r_3) rfl (congrArg V.bool hg3)) ?_
    refine g_v2 (t1 := 7) (t2 := 12) (u1 := (.bool false)) (u2 := (.tup [])) (.bool false) (Eq.trans (b := .bool r_3) rfl (congrArg V.bool hg3)) rfl rfl rfl ?_
    refine g_v1 (t := 13) (u := (.bool false)) (.bool false) rfl rfl rfl ?_
    refine g_end ?_
    refine e_end ?_
    refine renew [(4, (.bool false))] rfl ?_
    rintro s h4
    refine .nsq ?_
    refine .ret ?_
    have hr := Option.some.inj h
    subst hr
    exact rrA (res_tmp h4) rfl
end
def e116 (F : Nat) : Ent := ⟨116, da (fun (x : ((Int × (List (Int × Int))) × (List Int) × Unit)) => i_hasNodes F x.1 x.2.1) (fun (r : Bool) => (Enc.enc (r : Bool))), 0, false, selF []⟩
theorem p116 {F : Nat} {x0 : (Int × (List (Int × Int)))} {x1 : (List Int)} {r : Bool} (h : i_hasNodes F x0 x1 = some r) : (e116 F).den [Enc.enc x0, Enc.enc x1] = some (Enc.enc (r : Bool)) := da_put (f := fun (x : ((Int × (List (Int × Int))) × (List Int) × Unit)) => i_hasNodes F x.1 x.2.1) (t := fun (r : Bool) => (Enc.enc (r : Bool))) (x0, x1, ()) h
theorem o116 {D : Den} {σ : Sig} {F : Nat} (hF : Fits2 Try.prog D σ) (H : H116 D σ F) : (e116 F).Ok Try.prog := by
  refine ⟨fun args r h => ?_, ⟨Try.f116, Try.func116, rfl, rfl⟩⟩
  obtain ⟨⟨x0, x1, _⟩, y, rfl, hy, rfl⟩ := da_open h
  exact contract_run hF (by kernel_rfl) Try.func116 rfl c116 (show 2 ≤ Try.f116.ntmps by decide) (t116 H x0 x1 _ ⟨rfl, rfl⟩ hy)
/- loop.example/g01109/impl.increasing -/
def A117_2 : AC := (AC.cond (O.t 7) AC.skip (AC.exit 0))
def A117_4 : AC := (AC.cond (O.t 19) (AC.seq (AC.reg [] [(I.mk (some 2) none false (X.v (A.mov (O.k (V.bool false)))))] []) AC.ret) AC.skip)
def A117_5 : AC := (AC.reg [] [(I.mk (some 8) none false (X.v (A.mov (O.t 3)))), (I.mk (some 9) none false (X.v (A.bin BinOp.add (O.t 8) (O.k (V.int IntKind.i64 (Int.ofNat 1)))))), (I.mk (some 3) none false (X.v (A.mov (O.t 9))))] [])
def A117_3 : AC := (AC.seq (AC.block 1 (AC.seq (AC.reg [] [(I.mk (some 10) none false (X.v (A.mov (O.t 0)))), (I.mk (some 11) none false (X.v (A.mov (O.t 3)))), (I.mk (some 12) none false (X.v (A.bin BinOp.sub (O.t 11) (O.k (V.int IntKind.i64 (Int.ofNat 1)))))), (I.mk (some 13) none false (X.v (A.idx (O.t 10) (O.t 12) 1))), (I.mk (some 14) none false (X.v (A.load Sh.s (O.t 13)))), (I.mk (some 15) none false (X.v (A.mov (O.t 0)))), (I.mk (some 16) none false (X.v (A.mov (O.t 3)))), (I.mk (some 17) none false (X.v (A.idx (O.t 15) (O.t 16) 1))), (I.mk (some 18) none false (X.v (A.load Sh.s (O.t 17)))), (I.mk (some 19) none false (X.v (A.bin BinOp.geq (O.t 14) (O.t 18))))] []) A117_4)) A117_5)
def A117_1 : AC := (AC.seq (AC.seq (AC.reg [] [(I.mk (some 4) none false (X.v (A.mov (O.t 3)))), (I.mk (some 5) none false (X.v (A.mov (O.t 0)))), (I.mk (some 6) none false (X.v (A.len (O.t 5)))), (I.mk (some 7) none false (X.v (A.bin BinOp.lss (O.t 4) (O.t 6))))] []) A117_2) A117_3)
def A117_6 : AC := (AC.seq (AC.reg [] [(I.mk (some 2) none false (X.v (A.mov (O.k (V.bool true)))))] []) AC.ret)
def A117_8 : AC := (AC.block 0 (AC.loop A117_1))
def A117_7 : AC := (AC.seq (AC.seq (AC.reg [] [(I.mk (some 3) none false (X.v (A.mov (O.k (V.int IntKind.i64 (Int.ofNat 1))))))] []) A117_8) A117_6)
def A117 : AC := (AC.seq (AC.reg [] [(I.mk (some 2) none false (X.v (A.mov (O.k (V.bool false)))))] []) A117_7)
def an117 : List An := []
theorem c117 : cC Try.prog Try.f117.ntmps an117 (Try.f117.body.getD .skip) = some A117 := by kernel_rfl
structure H117 (D : Den) (σ : Sig) (F : Nat) : Prop where
  mk ::
abbrev R117 (r : Bool) : (Nat → V) → Prop := RR Try.prog [.tmp 2] 0 false (Enc.enc (r : Bool))
section
variable {D : Den} {σ : Sig} {F : Nat} {r : Bool}
def i_increasing_l1 (F : Nat) (list_1 : (List Int))  : Nat → Int → Option Bool
  | 0, _ => none
  | k + 1, i_4 =>
    bif decide (i_4 < (list_1.length : Int)) then
      (idx list_1 (w64 (i_4 - 1))).bind fun e_7 =>
      (idx list_1 i_4).bind fun e_8 =>
      bif decide (e_7 ≥ e_8) then
        some false
      else
        (i_increasing_l1 F list_1 k) (w64 (i_4 + 1))
    else
      some true
theorem t_f117_l1 (H : H117 D σ F) (list_1 : (List Int))  : ∀ (k : Nat) (i_4 : Int) (s : Nat → V), Facts [(0, (Enc.enc (list_1 : List Int))), (2, (.bool false)), (3, (.int .i64 i_4))] s → i_increasing_l1 F list_1 k i_4 = some r → Run D σ (R117 r) (.run A117_1 [.lp A117_1, .bk 0, .sq A117_6]) s := by
  intro k
  induction k with
  | zero => intro i_4 s _ h; exact nomatch (h : (none : Option _) = some r)
  | succ k ih =>
    intro i_4 s hs h
    rw [i_increasing_l1] at h
    obtain ⟨h0, h2, h3⟩ := hs
    refine .seq ?_
    refine .seq ?_
    refine run_reg ?_
    refine e_end ?_
    refine g_v1 (t := 3) (u := (.int .i64 i_4)) (.int .i64 i_4) h3 rfl rfl ?_
    refine g_v1 (t := 0) (u := (Enc.enc (list_1 : List Int))) (Enc.enc (list_1 : List Int)) h0 rfl rfl ?_
    refine g_v (.int .i64 (list_1.length : Int)) (ev_len (xs := list_1) rfl) ?_
    refine g_v2 (t1 := 4) (t2 := 6) (u1 := (.int .i64 i_4)) (u2 := (.int .i64 (list_1.length : Int))) (.bool (decide (i_4 < (list_1.length : Int)))) rfl rfl rfl rfl ?_
    refine g_end ?_
    refine e_end ?_
    refine renew [(0, (Enc.enc (list_1 : List Int))), (2, (.bool false)), (3, (.int .i64 i_4)), (7, (.bool (decide (i_4 < (list_1.length : Int)))))] ⟨h0, h2, h3, rfl⟩ ?_
    rintro s ⟨h0, h2, h3, h7⟩
    refine .nsq ?_
    refine run_cond (t := decide (i_4 < (list_1.length : Int))) h7 h (fun h => ?_) (fun h => ?_)
    · refine .skip ?_
      refine .nsq ?_
      refine .seq ?_
      refine .block ?_
      refine .seq ?_
      refine run_reg ?_
      refine e_end ?_
      refine g_v1 (t := 0) (u := (Enc.enc (list_1 : List Int))) (Enc.enc (list_1 : List Int)) h0 rfl rfl ?_
      refine g_v1 (t := 3) (u := (.int .i64 i_4)) (.int .i64 i_4) h3 rfl rfl ?_
      refine g_v1 (t := 11) (u := (.int .i64 i_4)) (.int .i64 (w64 (i_4 - 1))) rfl rfl rfl ?_
      obtain ⟨e_7, E_e_7, h⟩ := bind_some h
      refine g_v (.ref .sh 0 [] (.int .i64 e_7)) (ev_idx (t := .sh) (lo := 0) (xs := list_1) rfl rfl E_e_7 rfl rfl) ?_
      refine g_v1 (t := 13) (u := (.ref .sh 0 [] (.int .i64 e_7))) (.int .i64 e_7) rfl rfl rfl ?_
      refine g_v1 (t := 0) (u := (Enc.enc (list_1 : List Int))) (Enc.enc (list_1 : List Int)) h0 rfl rfl ?_
      refine g_v1 (t := 3) (u := (.int .i64 i_4)) (.int .i64 i_4) h3 rfl rfl ?_
      obtain ⟨e_8, E_e_8, h⟩ := bind_some h
      refine g_v (.ref .sh 0 [] (.int .i64 e_8)) (ev_idx (t := .sh) (lo := 0) (xs := list_1) rfl rfl E_e_8 rfl rfl) ?_
      refine g_v1 (t := 17) (u := (.ref .sh 0 [] (.int .i64 e_8))) (.int .i64 e_8) rfl rfl rfl ?_
      refine g_v2 (t1 := 14) (t2 := 18) (u1 := (.int .i64 e_7)) (u2 := (.int .i64 e_8)) (.bool (decide (e_7 ≥ e_8))) rfl rfl rfl rfl ?_
      refine g_end ?_
      refine e_end ?_
      refine renew [(0, (Enc.enc (list_1 : List Int))), (2, (.bool false)), (3, (.int .i64 i_4)), (19, (.bool (decide (e_7 ≥ e_8))))] ⟨h0, h2, h3, rfl⟩ ?_
      rintro s ⟨h0, h2, h3, h19⟩
      refine .nsq ?_
      refine run_cond (t := decide (e_7 ≥ e_8)) h19 h (fun h => ?_) (fun h => ?_)
      · refine .seq ?_
        refine run_reg ?_
        refine e_end ?_
        refine g_v0 (.bool false) rfl rfl ?_
        refine g_end ?_
        refine e_end ?_
        refine renew [(0, (Enc.enc (list_1 : List Int))), (2, (.bool false)), (3, (.int .i64 i_4))] ⟨h0, rfl, h3⟩ ?_
        rintro s ⟨h0, h2, h3⟩
        refine .nsq ?_
        refine .ret ?_
        have hr := Option.some.inj h
        subst hr
        exact rrA (res_tmp h2) rfl
      · refine .skip ?_
        refine .nbk ?_
        refine .nsq ?_
        refine run_reg ?_
        refine e_end ?_
        refine g_v1 (t := 3) (u := (.int .i64 i_4)) (.int .i64 i_4) h3 rfl rfl ?_
        refine g_v1 (t := 8) (u := (.int .i64 i_4)) (.int .i64 (w64 (i_4 + 1))) rfl rfl rfl ?_
        refine g_v1 (t := 9) (u := (.int .i64 (w64 (i_4 + 1)))) (.int .i64 (w64 (i_4 + 1))) rfl rfl rfl ?_
        refine g_end ?_
        refine e_end ?_
        refine renew [(0, (Enc.enc (list_1 : List Int))), (2, (.bool false)), (3, (.int .i64 (w64 (i_4 + 1))))] ⟨h0, h2, rfl⟩ ?_
        rintro s ⟨h0, h2, h3⟩
        refine .nlp ?_
        exact ih (w64 (i_4 + 1)) _ ⟨h0, h2, h3⟩ h
    · refine .exit ?_
      refine .esq ?_
      refine .elp ?_
      refine .ebk ?_
      refine .nsq ?_
      refine .seq ?_
      refine run_reg ?_
      refine e_end ?_
      refine g_v0 (.bool true) rfl rfl ?_
      refine g_end ?_
      refine e_end ?_
      refine renew [(2, (.bool true))] rfl ?_
      rintro s h2
      refine .nsq ?_
      refine .ret ?_
      have hr := Option.some.inj h
      subst hr
      exact rrA (res_tmp h2) rfl
def i_increasing (F : Nat) (list_1 : (List Int)) : Option Bool :=
  i_increasing_l1 F list_1 F 1
theorem t117 (H : H117 D σ F) (list_1 : (List Int)) (s : Nat → V) (hs : Facts [(0, (Enc.enc (list_1 : List Int)))] s) (h : i_increasing F list_1 = some r) : Run D σ (R117 r) (.run A117 []) s := by
  unfold i_increasing at h
  have h0 := hs
  refine .seq ?_
  refine run_reg ?_
  refine e_end ?_
  refine g_v0 (.bool false) rfl rfl ?_
  refine g_end ?_
  refine e_end ?_
  refine renew [(0, (Enc.enc (list_1 : List Int))), (2, (.bool false))] ⟨h0, rfl⟩ ?_
  rintro s ⟨h0, h2⟩
  refine .nsq ?_
  refine .seq ?_
  refine .seq ?_
  refine run_reg ?_
  refine e_end ?_
  refine g_v0 (.int .i64 1) rfl rfl ?_
  refine g_end ?_
  refine e_end ?_
  refine renew [(0, (Enc.enc (list_1 : List Int))), (2, (.bool false)), (3, (.int .i64 1))] ⟨h0, h2, rfl⟩ ?_
  rintro s ⟨h0, h2, h3⟩
  refine .nsq ?_
  refine .block ?_
  refine .loop ?_
  exact t_f117_l1 H list_1 F 1 _ ⟨h0, h2, h3⟩ h
end
def e117 (F : Nat) : Ent := ⟨117, da (fun (x : ((List Int) × Unit)) => i_increasing F x.1) (fun (r : Bool) => (Enc.enc (r : Bool))), 0, false, selF []⟩
theorem p117 {F : Nat} {x0 : (List Int)} {r : Bool} (h : i_increasing F x0 = some r) : (e117 F).den [Enc.enc x0] = some (Enc.enc (r : Bool)) := da_put (f := fun (x : ((List Int) × Unit)) => i_increasing F x.1) (t := fun (r : Bool) => (Enc.enc (r : Bool))) (x0, ()) h
theorem o117 {D : Den} {σ : Sig} {F : Nat} (hF : Fits2 Try.prog D σ) (H : H117 D σ F) : (e117 F).Ok Try.prog := by
  refine ⟨fun args r h => ?_, ⟨Try.f117, Try.func117, rfl, rfl⟩⟩
  obtain ⟨⟨x0, _⟩, y, rfl, hy, rfl⟩ := da_open h
  exact contract_run hF (by kernel_rfl) Try.func117 rfl c117 (show 1 ≤ Try.f117.ntmps by decide) (t117 H x0 _ rfl hy)
/- loop.example/g01109/impl.isSet -/
def A84_1 : AC := (AC.seq (AC.reg [] [(I.mk (some 5) none false (X.v (A.load (Sh.ag [Sh.s, Sh.p]) (O.t 2)))), (I.mk (some 6) none false (X.v (A.mov (O.t 1)))), (I.mk (some 7) none false (X.call (O.k (V.fn 116 [] [])) [(O.t 5), (O.t 6)])), (I.mk (some 8) none false (X.v (A.mov (O.t 7)))), (I.mk (some 9) (some (8, true)) false (X.v (A.mov (O.t 1)))), (I.mk (some 10) (some (8, true)) false (X.call (O.k (V.fn 117 [] [])) [(O.t 9)])), (I.mk (some 11) none false (X.v (A.pick (O.t 8) (O.t 10) (O.k (V.bool false))))), (I.mk (some 4) none false (X.v (A.mov (O.t 11))))] []) AC.ret)
def A84 : AC := (AC.seq (AC.reg [.clr [2]] [(I.mk (some 2) none false (X.box (O.t 0))), (I.mk (some 4) none false (X.v (A.mov (O.k (V.bool false)))))] []) A84_1)
def an84 : List An := [{ id := 0, pre := [.clr [2]], ep := [], lin := [], sp := [] }]
theorem c84 : cC Try.prog Try.f84.ntmps an84 (Try.f84.body.getD .skip) = some A84 := by kernel_rfl
structure H84 (D : Den) (σ : Sig) (F : Nat) : Prop where
  c116 : ∀ (x0 : (Int × (List (Int × Int)))) (x1 : (List Int)) r, i_hasNodes F x0 x1 = some r → D 116 [Enc.enc x0, Enc.enc x1] = some (Enc.enc (r : Bool))
  g116 : σ 116 = some (0, false)
  c117 : ∀ (x0 : (List Int)) r, i_increasing F x0 = some r → D 117 [Enc.enc x0] = some (Enc.enc (r : Bool))
  g117 : σ 117 = some (0, false)
abbrev R84 (r : Bool) : (Nat → V) → Prop := RR Try.prog [.tmp 4] 0 false (Enc.enc (r : Bool))
section
variable {D : Den} {σ : Sig} {F : Nat} {r : Bool}
def i_isSet (F : Nat) (g_1 : (Int × (List (Int × Int)))) (set_2 : (List Int)) : Option Bool :=
  (i_hasNodes F g_1 set_2).bind fun r_3 =>
  bif r_3 then
    (i_increasing F set_2).bind fun r_4 =>
    some r_4
  else
    some false
theorem t84 (H : H84 D σ F) (g_1 : (Int × (List (Int × Int)))) (set_2 : (List Int)) (s : Nat → V) (hs : Facts [(0, (.agg [(.int .i64 g_1.1), (Enc.enc (g_1.2 : List (Int × Int)))])), (1, (Enc.enc (set_2 : List Int)))] s) (h : i_isSet F g_1 set_2 = some r) : Run D σ (R84 r) (.run A84 []) s := by
  unfold i_isSet at h
  obtain ⟨h0, h1⟩ := hs
  refine .seq ?_
  refine run_reg ?_
  refine e_clr ?_
  refine e_end ?_
  refine g_box (.agg [(.int .i64 g_1.1), (Enc.enc (g_1.2 : List (Int × Int)))]) (rd_of (keep_clear (s := s) (pk := [2]) h0 rfl (map_agg (maps_cons rfl (maps_cons (Enc.map_enc _ (g_1.2 : List (Int × Int))) maps_nil)))) rfl) (gone_clear (s := s) (pk := [2]) (t := 2) rfl) rfl ?_
  refine g_v0 (.bool false) rfl rfl ?_
  refine g_end ?_
  refine e_end ?_
  refine renew [(1, (Enc.enc (set_2 : List Int))), (2, (.ref (.bx 2) 0 [] (.agg [(.int .i64 g_1.1), (Enc.enc (g_1.2 : List (Int × Int)))]))), (4, (.bool false))] ⟨(keep_clear (s := s) (pk := [2]) h1 rfl (Enc.map_enc _ (set_2 : List Int))), rfl, rfl⟩ ?_
  rintro s ⟨h1, h2, h4⟩
  refine .nsq ?_
  refine .seq ?_
  refine run_reg ?_
  refine e_end ?_
  refine g_v1 (t := 2) (u := (.ref (.bx 2) 0 [] (.agg [(.int .i64 g_1.1), (Enc.enc (g_1.2 : List (Int × Int)))]))) (.agg [(.int .i64 g_1.1), (Enc.enc (g_1.2 : List (Int × Int)))]) h2 rfl rfl ?_
  refine g_v1 (t := 1) (u := (Enc.enc (set_2 : List Int))) (Enc.enc (set_2 : List Int)) h1 rfl rfl ?_
  obtain ⟨r_3, E_r_3, h⟩ := bind_some h
  refine g_call (m := 0) (al := false) (r := (Enc.enc (r_3 : Bool))) [Enc.enc (g_1 : (Int × (List (Int × Int)))), Enc.enc (set_2 : (List Int))] (ta_cons (v := (.agg [(.int .i64 g_1.1), (Enc.enc (g_1.2 : List (Int × Int)))])) rfl rfl (Enc.erase_enc (g_1 : (Int × (List (Int × Int))))) (ta_cons (v := (Enc.enc (set_2 : List Int))) rfl rfl (Enc.erase_enc (set_2 : (List Int))) ta_nil)) (H.c116 _ _ _ E_r_3) H.g116 rfl rfl rfl rfl ?_
  refine g_v1 (t := 7) (u := (.bool r_3)) (.bool r_3) rfl rfl rfl ?_
  refine split_on (c := r_3) h (fun hg4 h => ?_) (fun hg4 h => ?_)
  · refine g_yes (Eq.trans (b := .bool r_3) rfl (congrArg V.bool hg4)) (g_v1 (t := 1) (u := (Enc.enc (set_2 : List Int))) (Enc.enc (set_2 : List Int)) h1 rfl rfl ?_)
    obtain ⟨r_4, E_r_4, h⟩ := bind_some h
    refine g_yes (Eq.trans (b := .bool r_3) rfl (congrArg V.bool hg4)) (g_call (m := 0) (al := false) (r := (Enc.enc (r_4 : Bool))) [Enc.enc (set_2 : (List Int))] (ta_cons (v := (Enc.enc (set_2 : List Int))) rfl rfl (Enc.erase_enc (set_2 : (List Int))) ta_nil) (H.c117 _ _ E_r_4) H.g117 rfl rfl rfl rfl ?_)
    refine g_v2 (t1 := 8) (t2 := 10) (u1 := (.bool true)) (u2 := (.bool r_4)) (.bool r_4) (Eq.trans (b := .bool r_3) rfl (congrArg V.bool hg4)) rfl rfl rfl ?_
    refine g_v1 (t := 11) (u := (.bool r_4)) (.bool r_4) rfl rfl rfl ?_
    refine g_end ?_
    refine e_end ?_
    refine renew [(4, (.bool r_4))] rfl ?_
    rintro s h4
    refine .nsq ?_
    refine .ret ?_
    have hr := Option.some.inj h
    subst hr
    exact rrA (res_tmp h4) rfl
  · refine g_no (Eq.trans (b := .bool r_3) rfl (congrArg V.bool hg4)) ?_
    refine g_no (Eq.trans (b := .bool r_3) rfl (congrArg V.bool hg4)) ?_
    refine g_v2 (t1 := 8) (t2 := 10) (u1 := (.bool false)) (u2 := (.tup [])) (.bool false) (Eq.trans (b := .bool r_3) rfl (congrArg V.bool hg4)) rfl rfl rfl ?_
    refine g_v1 (t := 11) (u := (.bool false)) (.bool false) rfl rfl rfl ?_
    refine g_end ?_
    refine e_end ?_
    refine renew [(4, (.bool false))] rfl ?_
    rintro s h4
    refine .nsq ?_
    refine .ret ?_
    have hr := Option.some.inj h
    subst hr
    exact rrA (res_tmp h4) rfl
end
def e84 (F : Nat) : Ent := ⟨84, da (fun (x : ((Int × (List (Int × Int))) × (List Int) × Unit)) => i_isSet F x.1 x.2.1) (fun (r : Bool) => (Enc.enc (r : Bool))), 0, false, selF []⟩
theorem p84 {F : Nat} {x0 : (Int × (List (Int × Int)))} {x1 : (List Int)} {r : Bool} (h : i_isSet F x0 x1 = some r) : (e84 F).den [Enc.enc x0, Enc.enc x1] = some (Enc.enc (r : Bool)) := da_put (f := fun (x : ((Int × (List (Int × Int))) × (List Int) × Unit)) => i_isSet F x.1 x.2.1) (t := fun (r : Bool) => (Enc.enc (r : Bool))) (x0, x1, ()) h
theorem o84 {D : Den} {σ : Sig} {F : Nat} (hF : Fits2 Try.prog D σ) (H : H84 D σ F) : (e84 F).Ok Try.prog := by
  refine ⟨fun args r h => ?_, ⟨Try.f84, Try.func84, rfl, rfl⟩⟩
  obtain ⟨⟨x0, x1, _⟩, y, rfl, hy, rfl⟩ := da_open h
  exact contract_run hF (by kernel_rfl) Try.func84 rfl c84 (show 2 ≤ Try.f84.ntmps by decide) (t84 H x0 x1 _ ⟨rfl, rfl⟩ hy)
/- loop.example/g01109/impl.isDecomposition$1 -/
def A100_1 : AC := (AC.seq (AC.reg [] [(I.mk (some 4) none false (X.v (A.load (Sh.ag [Sh.s, Sh.p]) (O.t 1)))), (I.mk (some 5) none false (X.call (O.k (V.fn 67 [] [])) [(O.t 4)])), (I.mk (some 6) none false (X.v (A.mov (O.t 0)))), (I.mk (some 7) none false (X.call (O.k (V.fn 92 [] [])) [(O.t 5), (O.t 6)])), (I.mk (some 8) none false (X.v (A.len (O.t 7)))), (I.mk (some 9) none false (X.v (A.bin BinOp.neq (O.t 8) (O.k (V.int IntKind.i64 (Int.ofNat 1)))))), (I.mk (some 3) none false (X.v (A.mov (O.t 9))))] []) AC.ret)
def A100 : AC := (AC.seq (AC.reg [] [(I.mk (some 3) none false (X.v (A.mov (O.k (V.bool false)))))] []) A100_1)
def an100 : List An := []
theorem c100 : cC Try.prog Try.f100.ntmps an100 (Try.f100.body.getD .skip) = some A100 := by kernel_rfl
structure H100 (D : Den) (σ : Sig) (F : Nat) : Prop where
  c67 : ∀ (x0 : (Int × (List (Int × Int)))) r, i_netOf F x0 = some r → D 67 [Enc.enc x0] = some (Enc.enc (r : (S1 (List Int))))
  g67 : σ 67 = some (0, false)
  c92 : ∀ (x0 : (S1 (List Int))) (x1 : Int) r, i_net_parts F x0 x1 = some r → D 92 [Enc.enc x0, Enc.enc x1] = some (Enc.enc (r : (List Int)))
  g92 : σ 92 = some (0, false)
abbrev R100 (r : Bool) : (Nat → V) → Prop := RR Try.prog [.tmp 3] 0 false (Enc.enc (r : Bool))
section
variable {D : Den} {σ : Sig} {F : Nat} {r : Bool}
def i_isDecomposition_1 (F : Nat) (bags_1 : Int) (rf_2 : (Rf (Int × (List (Int × Int))))) : Option Bool :=
  (i_netOf F rf_2.v).bind fun r_3 =>
  (i_net_parts F r_3 bags_1).bind fun r_4 =>
  some ((r_4.length : Int) != 1)
theorem t100 (H : H100 D σ F) (bags_1 : Int) (rf_2 : (Rf (Int × (List (Int × Int))))) (s : Nat → V) (hs : Facts [(0, (.int .i64 bags_1)), (1, (.ref .sh 0 [] (.agg [(.int .i64 rf_2.v.1), (Enc.enc (rf_2.v.2 : List (Int × Int)))])))] s) (h : i_isDecomposition_1 F bags_1 rf_2 = some r) : Run D σ (R100 r) (.run A100 []) s := by
  unfold i_isDecomposition_1 at h
  obtain ⟨h0, h1⟩ := hs
  refine .seq ?_
  refine run_reg ?_
  refine e_end ?_
  refine g_v0 (.bool false) rfl rfl ?_
  refine g_end ?_
  refine e_end ?_
  refine renew [(0, (.int .i64 bags_1)), (1, (.ref .sh 0 [] (.agg [(.int .i64 rf_2.v.1), (Enc.enc (rf_2.v.2 : List (Int × Int)))]))), (3, (.bool false))] ⟨h0, h1, rfl⟩ ?_
  rintro s ⟨h0, h1, h3⟩
  refine .nsq ?_
  refine .seq ?_
  refine run_reg ?_
  refine e_end ?_
  refine g_v1 (t := 1) (u := (.ref .sh 0 [] (.agg [(.int .i64 rf_2.v.1), (Enc.enc (rf_2.v.2 : List (Int × Int)))]))) (.agg [(.int .i64 rf_2.v.1), (Enc.enc (rf_2.v.2 : List (Int × Int)))]) h1 rfl rfl ?_
  obtain ⟨r_3, E_r_3, h⟩ := bind_some h
  refine g_call (m := 0) (al := false) (r := (Enc.enc (r_3 : (S1 (List Int))))) [Enc.enc (rf_2.v : (Int × (List (Int × Int))))] (ta_cons (v := (.agg [(.int .i64 rf_2.v.1), (Enc.enc (rf_2.v.2 : List (Int × Int)))])) rfl rfl (Enc.erase_enc (rf_2.v : (Int × (List (Int × Int))))) ta_nil) (H.c67 _ _ E_r_3) H.g67 rfl rfl rfl rfl ?_
  refine g_v1 (t := 0) (u := (.int .i64 bags_1)) (.int .i64 bags_1) h0 rfl rfl ?_
  obtain ⟨r_4, E_r_4, h⟩ := bind_some h
  refine g_call (m := 0) (al := false) (r := (Enc.enc (r_4 : (List Int)))) [Enc.enc (r_3 : (S1 (List Int))), Enc.enc (bags_1 : Int)] (ta_cons (v := (.agg [(Enc.enc (r_3.a : List Int))])) rfl rfl (Enc.erase_enc (r_3 : (S1 (List Int)))) (ta_cons (v := (.int .i64 bags_1)) rfl rfl rfl ta_nil)) (H.c92 _ _ _ E_r_4) H.g92 rfl rfl rfl rfl ?_
  refine g_v (.int .i64 (r_4.length : Int)) (ev_len (xs := r_4) rfl) ?_
  refine g_v1 (t := 8) (u := (.int .i64 (r_4.length : Int))) (.bool ((r_4.length : Int) != 1)) rfl rfl rfl ?_
  refine g_v1 (t := 9) (u := (.bool ((r_4.length : Int) != 1))) (.bool ((r_4.length : Int) != 1)) rfl rfl rfl ?_
  refine g_end ?_
  refine e_end ?_
  refine renew [(3, (.bool ((r_4.length : Int) != 1)))] rfl ?_
  rintro s h3
  refine .nsq ?_
  refine .ret ?_
  have hr := Option.some.inj h
  subst hr
  exact rrA (res_tmp h3) rfl
end
def e100 (F : Nat) : Ent := ⟨100, da (fun (x : (Int × (Rf (Int × (List (Int × Int)))) × Unit)) => i_isDecomposition_1 F x.1 x.2.1) (fun (r : Bool) => (Enc.enc (r : Bool))), 0, false, selF []⟩
theorem p100 {F : Nat} {x0 : Int} {x1 : (Rf (Int × (List (Int × Int))))} {r : Bool} (h : i_isDecomposition_1 F x0 x1 = some r) : (e100 F).den [Enc.enc x0, Arg.arg x1] = some (Enc.enc (r : Bool)) := da_put (f := fun (x : (Int × (Rf (Int × (List (Int × Int)))) × Unit)) => i_isDecomposition_1 F x.1 x.2.1) (t := fun (r : Bool) => (Enc.enc (r : Bool))) (x0, x1, ()) h
theorem o100 {D : Den} {σ : Sig} {F : Nat} (hF : Fits2 Try.prog D σ) (H : H100 D σ F) : (e100 F).Ok Try.prog := by
  refine ⟨fun args r h => ?_, ⟨Try.f100, Try.func100, rfl, rfl⟩⟩
  obtain ⟨⟨x0, x1, _⟩, y, rfl, hy, rfl⟩ := da_open h
  exact contract_run hF (by kernel_rfl) Try.func100 rfl c100 (show 2 ≤ Try.f100.ntmps by decide) (t100 H x0 x1 _ ⟨rfl, rfl⟩ hy)
/- slices.IndexFunc[[]int,int] -/
def A125s1_5 : AC := (AC.cond (O.t 16) (AC.seq (AC.reg [] [(I.mk (some 17) none false (X.v (A.mov (O.t 5)))), (I.mk (some 4) none false (X.v (A.mov (O.t 17))))] []) AC.ret) AC.skip)
def A125s1_4 : AC := (AC.seq (AC.reg [] [(I.mk (some 11) none false (X.v (A.mov (O.t 1)))), (I.mk (some 12) none false (X.v (A.mov (O.t 0)))), (I.mk (some 13) none false (X.v (A.mov (O.t 5)))), (I.mk (some 14) none false (X.v (A.idx (O.t 12) (O.t 13) 1))), (I.mk (some 15) none false (X.v (A.load Sh.s (O.t 14)))), (I.mk (some 16) none false (X.call (O.t 11) [(O.t 15)]))] []) A125s1_5)
def A125s1_6 : AC := (AC.reg [] [(I.mk (some 18) none false (X.v (A.bin BinOp.add (O.t 8) (O.k (V.int IntKind.i64 (Int.ofNat 1)))))), (I.mk (some 8) none false (X.v (A.mov (O.t 18))))] [])
def A125s1_3 : AC := (AC.seq (AC.block 1 (AC.seq (AC.reg [] [(I.mk (some 10) none false (X.v (A.mov (O.t 8)))), (I.mk (some 5) none false (X.v (A.mov (O.t 10))))] []) A125s1_4)) A125s1_6)
def A125s1_2 : AC := (AC.seq (AC.cond (O.t 9) AC.skip (AC.exit 0)) A125s1_3)
def A125s1_1 : AC := (AC.seq (AC.reg [] [(I.mk (some 9) none false (X.v (A.bin BinOp.lss (O.t 8) (O.t 7))))] []) A125s1_2)
def A125s1_7 : AC := (AC.seq (AC.reg [] [(I.mk (some 4) none false (X.v (A.mov (O.k (V.int IntKind.i64 (Int.negSucc 0))))))] []) AC.ret)
def A125s1_9 : AC := (AC.block 0 (AC.loop A125s1_1))
def A125s1_8 : AC := (AC.seq (AC.seq (AC.reg [] [(I.mk (some 6) none false (X.v (A.mov (O.t 0)))), (I.mk (some 7) none false (X.v (A.len (O.t 6)))), (I.mk (some 8) none false (X.v (A.mov (O.k (V.int IntKind.i64 (Int.ofNat 0))))))] []) A125s1_9) A125s1_7)
def A125s1 : AC := (AC.seq (AC.reg [] [(I.mk (some 4) none false (X.v (A.mov (O.k (V.int IntKind.i64 (Int.ofNat 0))))))] []) A125s1_8)
def an125s1 : List An := []
theorem c125s1 : cC Try.prog Try.f125.ntmps an125s1 (Try.f125.body.getD .skip) = some A125s1 := by kernel_rfl
structure H125s1 (D : Den) (σ : Sig) (F : Nat) : Prop where
  c100 : ∀ (x0 : Int) (x1 : (Rf (Int × (List (Int × Int))))) r, i_isDecomposition_1 F x0 x1 = some r → D 100 [Enc.enc x0, Arg.arg x1] = some (Enc.enc (r : Bool))
  g100 : σ 100 = some (0, false)
abbrev R125s1 (r : Int) : (Nat → V) → Prop := RR Try.prog [.tmp 4] 0 false (Enc.enc (r : Int))
section
variable {D : Den} {σ : Sig} {F : Nat} {r : Int}
def slices_IndexFunc_of_i_isDecomposition_1_l1 (F : Nat) (s_1 : (List Int)) (f_2 : (Cl 100 Unit ((Rf (Int × (List (Int × Int)))) × Unit)))  : Nat → Int → Option Int
  | 0, _ => none
  | k + 1, t8_5 =>
    bif decide (t8_5 < (s_1.length : Int)) then
      (idx s_1 t8_5).bind fun e_8 =>
      (i_isDecomposition_1 F e_8 f_2.env.1).bind fun r_9 =>
      bif r_9 then
        some t8_5
      else
        (slices_IndexFunc_of_i_isDecomposition_1_l1 F s_1 f_2 k) (w64 (t8_5 + 1))
    else
      some (-1)
theorem t_f125s1_l1 (H : H125s1 D σ F) (s_1 : (List Int)) (f_2 : (Cl 100 Unit ((Rf (Int × (List (Int × Int)))) × Unit)))  : ∀ (k : Nat) (t8_5 : Int) (s : Nat → V), Facts [(0, (Enc.enc (s_1 : List Int))), (1, (.fn 100 [] [(.ref .sh 0 [] (.agg [(.int .i64 f_2.env.1.v.1), (Enc.enc (f_2.env.1.v.2 : List (Int × Int)))]))])), (4, (.int .i64 0)), (7, (.int .i64 (s_1.length : Int))), (8, (.int .i64 t8_5))] s → slices_IndexFunc_of_i_isDecomposition_1_l1 F s_1 f_2 k t8_5 = some r → Run D σ (R125s1 r) (.run A125s1_1 [.lp A125s1_1, .bk 0, .sq A125s1_7]) s := by
  intro k
  induction k with
  | zero => intro t8_5 s _ h; exact nomatch (h : (none : Option _) = some r)
  | succ k ih =>
    intro t8_5 s hs h
    rw [slices_IndexFunc_of_i_isDecomposition_1_l1] at h
    obtain ⟨h0, h1, h4, h7, h8⟩ := hs
    refine .seq ?_
    refine run_reg ?_
    refine e_end ?_
    refine g_v2 (t1 := 8) (t2 := 7) (u1 := (.int .i64 t8_5)) (u2 := (.int .i64 (s_1.length : Int))) (.bool (decide (t8_5 < (s_1.length : Int)))) h8 h7 rfl rfl ?_
    refine g_end ?_
    refine e_end ?_
    refine renew [(0, (Enc.enc (s_1 : List Int))), (1, (.fn 100 [] [(.ref .sh 0 [] (.agg [(.int .i64 f_2.env.1.v.1), (Enc.enc (f_2.env.1.v.2 : List (Int × Int)))]))])), (4, (.int .i64 0)), (7, (.int .i64 (s_1.length : Int))), (8, (.int .i64 t8_5)), (9, (.bool (decide (t8_5 < (s_1.length : Int)))))] ⟨h0, h1, h4, h7, h8, rfl⟩ ?_
    rintro s ⟨h0, h1, h4, h7, h8, h9⟩
    refine .nsq ?_
    refine .seq ?_
    refine run_cond (t := decide (t8_5 < (s_1.length : Int))) h9 h (fun h => ?_) (fun h => ?_)
    · refine .skip ?_
      refine .nsq ?_
      refine .seq ?_
      refine .block ?_
      refine .seq ?_
      refine run_reg ?_
      refine e_end ?_
      refine g_v1 (t := 8) (u := (.int .i64 t8_5)) (.int .i64 t8_5) h8 rfl rfl ?_
      refine g_v1 (t := 10) (u := (.int .i64 t8_5)) (.int .i64 t8_5) rfl rfl rfl ?_
      refine g_end ?_
      refine e_end ?_
      refine renew [(0, (Enc.enc (s_1 : List Int))), (1, (.fn 100 [] [(.ref .sh 0 [] (.agg [(.int .i64 f_2.env.1.v.1), (Enc.enc (f_2.env.1.v.2 : List (Int × Int)))]))])), (4, (.int .i64 0)), (5, (.int .i64 t8_5)), (7, (.int .i64 (s_1.length : Int))), (8, (.int .i64 t8_5))] ⟨h0, h1, h4, rfl, h7, h8⟩ ?_
      rintro s ⟨h0, h1, h4, h5, h7, h8⟩
      refine .nsq ?_
      refine .seq ?_
      refine run_reg ?_
      refine e_end ?_
      refine g_v1 (t := 1) (u := (.fn 100 [] [(.ref .sh 0 [] (.agg [(.int .i64 f_2.env.1.v.1), (Enc.enc (f_2.env.1.v.2 : List (Int × Int)))]))])) (.fn 100 [] [(.ref .sh 0 [] (.agg [(.int .i64 f_2.env.1.v.1), (Enc.enc (f_2.env.1.v.2 : List (Int × Int)))]))]) h1 rfl rfl ?_
      refine g_v1 (t := 0) (u := (Enc.enc (s_1 : List Int))) (Enc.enc (s_1 : List Int)) h0 rfl rfl ?_
      refine g_v1 (t := 5) (u := (.int .i64 t8_5)) (.int .i64 t8_5) h5 rfl rfl ?_
      obtain ⟨e_8, E_e_8, h⟩ := bind_some h
      refine g_v (.ref .sh 0 [] (.int .i64 e_8)) (ev_idx (t := .sh) (lo := 0) (xs := s_1) rfl rfl E_e_8 rfl rfl) ?_
      refine g_v1 (t := 14) (u := (.ref .sh 0 [] (.int .i64 e_8))) (.int .i64 e_8) rfl rfl rfl ?_
      obtain ⟨r_9, E_r_9, h⟩ := bind_some h
      refine g_callF (m := 0) (al := false) (r := (Enc.enc (r_9 : Bool))) (fs := []) (env := [(.ref .sh 0 [] (.agg [(.int .i64 f_2.env.1.v.1), (Enc.enc (f_2.env.1.v.2 : List (Int × Int)))]))]) (us := []) (ws := [Arg.arg (f_2.env.1 : (Rf (Int × (List (Int × Int)))))]) rfl erases_nil (erases_cons (erase_ref (Enc.erase_enc (f_2.env.1.v : (Int × (List (Int × Int)))))) erases_nil) rfl [Enc.enc (e_8 : Int)] (ta_cons (v := (.int .i64 e_8)) rfl rfl rfl ta_nil) (H.c100 _ _ _ E_r_9) H.g100 rfl rfl rfl rfl ?_
      refine g_end ?_
      refine e_end ?_
      refine renew [(0, (Enc.enc (s_1 : List Int))), (1, (.fn 100 [] [(.ref .sh 0 [] (.agg [(.int .i64 f_2.env.1.v.1), (Enc.enc (f_2.env.1.v.2 : List (Int × Int)))]))])), (4, (.int .i64 0)), (5, (.int .i64 t8_5)), (7, (.int .i64 (s_1.length : Int))), (8, (.int .i64 t8_5)), (16, (.bool r_9))] ⟨h0, h1, h4, h5, h7, h8, rfl⟩ ?_
      rintro s ⟨h0, h1, h4, h5, h7, h8, h16⟩
      refine .nsq ?_
      refine run_cond (t := r_9) h16 h (fun h => ?_) (fun h => ?_)
      · refine .seq ?_
        refine run_reg ?_
        refine e_end ?_
        refine g_v1 (t := 5) (u := (.int .i64 t8_5)) (.int .i64 t8_5) h5 rfl rfl ?_
        refine g_v1 (t := 17) (u := (.int .i64 t8_5)) (.int .i64 t8_5) rfl rfl rfl ?_
        refine g_end ?_
        refine e_end ?_
        refine renew [(0, (Enc.enc (s_1 : List Int))), (1, (.fn 100 [] [(.ref .sh 0 [] (.agg [(.int .i64 f_2.env.1.v.1), (Enc.enc (f_2.env.1.v.2 : List (Int × Int)))]))])), (4, (.int .i64 t8_5)), (7, (.int .i64 (s_1.length : Int))), (8, (.int .i64 t8_5))] ⟨h0, h1, rfl, h7, h8⟩ ?_
        rintro s ⟨h0, h1, h4, h7, h8⟩
        refine .nsq ?_
        refine .ret ?_
        have hr := Option.some.inj h
        subst hr
        exact rrA (res_tmp h4) rfl
      · refine .skip ?_
        refine .nbk ?_
        refine .nsq ?_
        refine run_reg ?_
        refine e_end ?_
        refine g_v1 (t := 8) (u := (.int .i64 t8_5)) (.int .i64 (w64 (t8_5 + 1))) h8 rfl rfl ?_
        refine g_v1 (t := 18) (u := (.int .i64 (w64 (t8_5 + 1)))) (.int .i64 (w64 (t8_5 + 1))) rfl rfl rfl ?_
        refine g_end ?_
        refine e_end ?_
        refine renew [(0, (Enc.enc (s_1 : List Int))), (1, (.fn 100 [] [(.ref .sh 0 [] (.agg [(.int .i64 f_2.env.1.v.1), (Enc.enc (f_2.env.1.v.2 : List (Int × Int)))]))])), (4, (.int .i64 0)), (7, (.int .i64 (s_1.length : Int))), (8, (.int .i64 (w64 (t8_5 + 1))))] ⟨h0, h1, h4, h7, rfl⟩ ?_
        rintro s ⟨h0, h1, h4, h7, h8⟩
        refine .nlp ?_
        exact ih (w64 (t8_5 + 1)) _ ⟨h0, h1, h4, h7, h8⟩ h
    · refine .exit ?_
      refine .esq ?_
      refine .elp ?_
      refine .ebk ?_
      refine .nsq ?_
      refine .seq ?_
      refine run_reg ?_
      refine e_end ?_
      refine g_v0 (.int .i64 (-1)) rfl rfl ?_
      refine g_end ?_
      refine e_end ?_
      refine renew [(4, (.int .i64 (-1)))] rfl ?_
      rintro s h4
      refine .nsq ?_
      refine .ret ?_
      have hr := Option.some.inj h
      subst hr
      exact rrA (res_tmp h4) rfl
def slices_IndexFunc_of_i_isDecomposition_1 (F : Nat) (s_1 : (List Int)) (f_2 : (Cl 100 Unit ((Rf (Int × (List (Int × Int)))) × Unit))) : Option Int :=
  slices_IndexFunc_of_i_isDecomposition_1_l1 F s_1 f_2 F 0
theorem t125s1 (H : H125s1 D σ F) (s_1 : (List Int)) (f_2 : (Cl 100 Unit ((Rf (Int × (List (Int × Int)))) × Unit))) (s : Nat → V) (hs : Facts [(0, (Enc.enc (s_1 : List Int))), (1, (.fn 100 [] [(.ref .sh 0 [] (.agg [(.int .i64 f_2.env.1.v.1), (Enc.enc (f_2.env.1.v.2 : List (Int × Int)))]))]))] s) (h : slices_IndexFunc_of_i_isDecomposition_1 F s_1 f_2 = some r) : Run D σ (R125s1 r) (.run A125s1 []) s := by
  unfold slices_IndexFunc_of_i_isDecomposition_1 at h
  obtain ⟨h0, h1⟩ := hs
  refine .seq ?_
  refine run_reg ?_
  refine e_end ?_
  refine g_v0 (.int .i64 0) rfl rfl ?_
  refine g_end ?_
  refine e_end ?_
  refine renew [(0, (Enc.enc (s_1 : List Int))), (1, (.fn 100 [] [(.ref .sh 0 [] (.agg [(.int .i64 f_2.env.1.v.1), (Enc.enc (f_2.env.1.v.2 : List (Int × Int)))]))])), (4, (.int .i64 0))] ⟨h0, h1, rfl⟩ ?_
  rintro s ⟨h0, h1, h4⟩
  refine .nsq ?_
  refine .seq ?_
  refine .seq ?_
  refine run_reg ?_
  refine e_end ?_
  refine g_v1 (t := 0) (u := (Enc.enc (s_1 : List Int))) (Enc.enc (s_1 : List Int)) h0 rfl rfl ?_
  refine g_v (.int .i64 (s_1.length : Int)) (ev_len (xs := s_1) rfl) ?_
  refine g_v0 (.int .i64 0) rfl rfl ?_
  refine g_end ?_
  refine e_end ?_
  refine renew [(0, (Enc.enc (s_1 : List Int))), (1, (.fn 100 [] [(.ref .sh 0 [] (.agg [(.int .i64 f_2.env.1.v.1), (Enc.enc (f_2.env.1.v.2 : List (Int × Int)))]))])), (4, (.int .i64 0)), (7, (.int .i64 (s_1.length : Int))), (8, (.int .i64 0))] ⟨h0, h1, h4, rfl, rfl⟩ ?_
  rintro s ⟨h0, h1, h4, h7, h8⟩
  refine .nsq ?_
  refine .block ?_
  refine .loop ?_
  exact t_f125s1_l1 H s_1 f_2 F 0 _ ⟨h0, h1, h4, h7, h8⟩ h
end
def e125s1 (F : Nat) : Ent := ⟨125, da (fun (x : ((List Int) × (Cl 100 Unit ((Rf (Int × (List (Int × Int)))) × Unit)) × Unit)) => slices_IndexFunc_of_i_isDecomposition_1 F x.1 x.2.1) (fun (r : Int) => (Enc.enc (r : Int))), 0, false, selF [(1, 100)]⟩
theorem p125s1 {F : Nat} {x0 : (List Int)} {x1 : (Cl 100 Unit ((Rf (Int × (List (Int × Int)))) × Unit))} {r : Int} (h : slices_IndexFunc_of_i_isDecomposition_1 F x0 x1 = some r) : (e125s1 F).den [Enc.enc x0, Arg.arg x1] = some (Enc.enc (r : Int)) := da_put (f := fun (x : ((List Int) × (Cl 100 Unit ((Rf (Int × (List (Int × Int)))) × Unit)) × Unit)) => slices_IndexFunc_of_i_isDecomposition_1 F x.1 x.2.1) (t := fun (r : Int) => (Enc.enc (r : Int))) (x0, x1, ()) h
theorem o125s1 {D : Den} {σ : Sig} {F : Nat} (hF : Fits2 Try.prog D σ) (H : H125s1 D σ F) : (e125s1 F).Ok Try.prog := by
  refine ⟨fun args r h => ?_, ⟨Try.f125, Try.func125, rfl, rfl⟩⟩
  obtain ⟨⟨x0, x1, _⟩, y, rfl, hy, rfl⟩ := da_open h
  exact contract_run hF (by kernel_rfl) Try.func125 rfl c125s1 (show 2 ≤ Try.f125.ntmps by decide) (t125s1 H x0 x1 _ ⟨rfl, rfl⟩ hy)
/- slices.ContainsFunc[[]int,int] -/
def A99s1_1 : AC := (AC.seq (AC.reg [] [(I.mk (some 5) none false (X.v (A.mov (O.t 0)))), (I.mk (some 6) none false (X.v (A.mov (O.t 1)))), (I.mk (some 7) none false (X.call (O.k (V.fn 125 [] [])) [(O.t 5), (O.t 6)])), (I.mk (some 8) none false (X.v (A.bin BinOp.geq (O.t 7) (O.k (V.int IntKind.i64 (Int.ofNat 0)))))), (I.mk (some 4) none false (X.v (A.mov (O.t 8))))] []) AC.ret)
def A99s1 : AC := (AC.seq (AC.reg [] [(I.mk (some 4) none false (X.v (A.mov (O.k (V.bool false)))))] []) A99s1_1)
def an99s1 : List An := []
theorem c99s1 : cC Try.prog Try.f99.ntmps an99s1 (Try.f99.body.getD .skip) = some A99s1 := by kernel_rfl
structure H99s1 (D : Den) (σ : Sig) (F : Nat) : Prop where
  c125s1 : ∀ (x0 : (List Int)) (x1 : (Cl 100 Unit ((Rf (Int × (List (Int × Int)))) × Unit))) r, slices_IndexFunc_of_i_isDecomposition_1 F x0 x1 = some r → D 125 [Enc.enc x0, Arg.arg x1] = some (Enc.enc (r : Int))
  g125s1 : σ 125 = some (0, false)
abbrev R99s1 (r : Bool) : (Nat → V) → Prop := RR Try.prog [.tmp 4] 0 false (Enc.enc (r : Bool))
section
variable {D : Den} {σ : Sig} {F : Nat} {r : Bool}
def slices_ContainsFunc_of_i_isDecomposition_1 (F : Nat) (s_1 : (List Int)) (f_2 : (Cl 100 Unit ((Rf (Int × (List (Int × Int)))) × Unit))) : Option Bool :=
  (slices_IndexFunc_of_i_isDecomposition_1 F s_1 f_2).bind fun r_3 =>
  some (decide (r_3 ≥ 0))
theorem t99s1 (H : H99s1 D σ F) (s_1 : (List Int)) (f_2 : (Cl 100 Unit ((Rf (Int × (List (Int × Int)))) × Unit))) (s : Nat → V) (hs : Facts [(0, (Enc.enc (s_1 : List Int))), (1, (.fn 100 [] [(.ref .sh 0 [] (.agg [(.int .i64 f_2.env.1.v.1), (Enc.enc (f_2.env.1.v.2 : List (Int × Int)))]))]))] s) (h : slices_ContainsFunc_of_i_isDecomposition_1 F s_1 f_2 = some r) : Run D σ (R99s1 r) (.run A99s1 []) s := by
  unfold slices_ContainsFunc_of_i_isDecomposition_1 at h
  obtain ⟨h0, h1⟩ := hs
  refine .seq ?_
  refine run_reg ?_
  refine e_end ?_
  refine g_v0 (.bool false) rfl rfl ?_
  refine g_end ?_
  refine e_end ?_
  refine renew [(0, (Enc.enc (s_1 : List Int))), (1, (.fn 100 [] [(.ref .sh 0 [] (.agg [(.int .i64 f_2.env.1.v.1), (Enc.enc (f_2.env.1.v.2 : List (Int × Int)))]))])), (4, (.bool false))] ⟨h0, h1, rfl⟩ ?_
  rintro s ⟨h0, h1, h4⟩
  refine .nsq ?_
  refine .seq ?_
  refine run_reg ?_
  refine e_end ?_
  refine g_v1 (t := 0) (u := (Enc.enc (s_1 : List Int))) (Enc.enc (s_1 : List Int)) h0 rfl rfl ?_
  refine g_v1 (t := 1) (u := (.fn 100 [] [(.ref .sh 0 [] (.agg [(.int .i64 f_2.env.1.v.1), (Enc.enc (f_2.env.1.v.2 : List (Int × Int)))]))])) (.fn 100 [] [(.ref .sh 0 [] (.agg [(.int .i64 f_2.env.1.v.1), (Enc.enc (f_2.env.1.v.2 : List (Int × Int)))]))]) h1 rfl rfl ?_
  obtain ⟨r_3, E_r_3, h⟩ := bind_some h
  refine g_call (m := 0) (al := false) (r := (Enc.enc (r_3 : Int))) [Enc.enc (s_1 : (List Int)), Arg.arg (f_2 : (Cl 100 Unit ((Rf (Int × (List (Int × Int)))) × Unit)))] (ta_cons (v := (Enc.enc (s_1 : List Int))) rfl rfl (Enc.erase_enc (s_1 : (List Int))) (ta_cons (v := (.fn 100 [] [(.ref .sh 0 [] (.agg [(.int .i64 f_2.env.1.v.1), (Enc.enc (f_2.env.1.v.2 : List (Int × Int)))]))])) rfl rfl (erase_fn erases_nil (erases_cons (erase_ref (Enc.erase_enc (f_2.env.1.v : (Int × (List (Int × Int)))))) erases_nil)) ta_nil)) (H.c125s1 _ _ _ E_r_3) H.g125s1 rfl rfl rfl rfl ?_
  refine g_v1 (t := 7) (u := (.int .i64 r_3)) (.bool (decide (r_3 ≥ 0))) rfl rfl rfl ?_
  refine g_v1 (t := 8) (u := (.bool (decide (r_3 ≥ 0)))) (.bool (decide (r_3 ≥ 0))) rfl rfl rfl ?_
  refine g_end ?_
  refine e_end ?_
  refine renew [(4, (.bool (decide (r_3 ≥ 0))))] rfl ?_
  rintro s h4
  refine .nsq ?_
  refine .ret ?_
  have hr := Option.some.inj h
  subst hr
  exact rrA (res_tmp h4) rfl
end
def e99s1 (F : Nat) : Ent := ⟨99, da (fun (x : ((List Int) × (Cl 100 Unit ((Rf (Int × (List (Int × Int)))) × Unit)) × Unit)) => slices_ContainsFunc_of_i_isDecomposition_1 F x.1 x.2.1) (fun (r : Bool) => (Enc.enc (r : Bool))), 0, false, selF [(1, 100)]⟩
theorem p99s1 {F : Nat} {x0 : (List Int)} {x1 : (Cl 100 Unit ((Rf (Int × (List (Int × Int)))) × Unit))} {r : Bool} (h : slices_ContainsFunc_of_i_isDecomposition_1 F x0 x1 = some r) : (e99s1 F).den [Enc.enc x0, Arg.arg x1] = some (Enc.enc (r : Bool)) := da_put (f := fun (x : ((List Int) × (Cl 100 Unit ((Rf (Int × (List (Int × Int)))) × Unit)) × Unit)) => slices_ContainsFunc_of_i_isDecomposition_1 F x.1 x.2.1) (t := fun (r : Bool) => (Enc.enc (r : Bool))) (x0, x1, ()) h
theorem o99s1 {D : Den} {σ : Sig} {F : Nat} (hF : Fits2 Try.prog D σ) (H : H99s1 D σ F) : (e99s1 F).Ok Try.prog := by
  refine ⟨fun args r h => ?_, ⟨Try.f99, Try.func99, rfl, rfl⟩⟩
  obtain ⟨⟨x0, x1, _⟩, y, rfl, hy, rfl⟩ := da_open h
  exact contract_run hF (by kernel_rfl) Try.func99 rfl c99s1 (show 2 ≤ Try.f99.ntmps by decide) (t99s1 H x0 x1 _ ⟨rfl, rfl⟩ hy)
/- loop.example/g01109/impl.isDecomposition$2 -/
def A101_1 : AC := (AC.seq (AC.reg [] [(I.mk (some 4) none false (X.v (A.load Sh.p (O.t 1)))), (I.mk (some 5) none false (X.v (A.idxA (O.t 2) (O.k (V.int IntKind.i64 (Int.ofNat 0))) 2 1))), (I.mk (some 6) none false (X.v (A.load Sh.s (O.t 5)))), (I.mk (some 7) none false (X.v (A.idx (O.t 4) (O.t 6) 1))), (I.mk (some 8) none false (X.v (A.load Sh.s (O.t 7)))), (I.mk (some 9) none false (X.v (A.load Sh.p (O.t 1)))), (I.mk (some 10) none false (X.v (A.idxA (O.t 2) (O.k (V.int IntKind.i64 (Int.ofNat 1))) 2 1))), (I.mk (some 11) none false (X.v (A.load Sh.s (O.t 10)))), (I.mk (some 12) none false (X.v (A.idx (O.t 9) (O.t 11) 1))), (I.mk (some 13) none false (X.v (A.load Sh.s (O.t 12)))), (I.mk (some 14) none false (X.v (A.bin BinOp.and (O.t 8) (O.t 13)))), (I.mk (some 15) none false (X.v (A.bin BinOp.eql (O.t 14) (O.k (V.int IntKind.i64 (Int.ofNat 0)))))), (I.mk (some 3) none false (X.v (A.mov (O.t 15))))] []) AC.ret)
def A101 : AC := (AC.seq (AC.reg [.clr [2]] [(I.mk (some 2) none false (X.box (O.t 0))), (I.mk (some 3) none false (X.v (A.mov (O.k (V.bool false)))))] []) A101_1)
def an101 : List An := [{ id := 0, pre := [.clr [2]], ep := [], lin := [], sp := [] }]
theorem c101 : cC Try.prog Try.f101.ntmps an101 (Try.f101.body.getD .skip) = some A101 := by kernel_rfl
structure H101 (D : Den) (σ : Sig) (F : Nat) : Prop where
  mk ::
abbrev R101 (r : Bool) : (Nat → V) → Prop := RR Try.prog [.tmp 3] 0 false (Enc.enc (r : Bool))
section
variable {D : Den} {σ : Sig} {F : Nat} {r : Bool}
def i_isDecomposition_2 (F : Nat) (e_1 : (Int × Int)) (rf_2 : (Rf (List Int))) : Option Bool :=
  (idx rf_2.v e_1.1).bind fun e_3 =>
  (idx rf_2.v e_1.2).bind fun e_4 =>
  some ((iand .i64 e_3 e_4) == 0)
theorem t101 (H : H101 D σ F) (e_1 : (Int × Int)) (rf_2 : (Rf (List Int))) (s : Nat → V) (hs : Facts [(0, (.agg [(.int .i64 e_1.1), (.int .i64 e_1.2)])), (1, (.ref .sh 0 [] (Enc.enc (rf_2.v : List Int))))] s) (h : i_isDecomposition_2 F e_1 rf_2 = some r) : Run D σ (R101 r) (.run A101 []) s := by
  unfold i_isDecomposition_2 at h
  obtain ⟨h0, h1⟩ := hs
  refine .seq ?_
  refine run_reg ?_
  refine e_clr ?_
  refine e_end ?_
  refine g_box (.agg [(.int .i64 e_1.1), (.int .i64 e_1.2)]) (rd_of (keep_clear (s := s) (pk := [2]) h0 rfl (map_agg (maps_cons rfl (maps_cons rfl maps_nil)))) rfl) (gone_clear (s := s) (pk := [2]) (t := 2) rfl) rfl ?_
  refine g_v0 (.bool false) rfl rfl ?_
  refine g_end ?_
  refine e_end ?_
  refine renew [(1, (.ref .sh 0 [] (Enc.enc (rf_2.v : List Int)))), (2, (.ref (.bx 2) 0 [] (.agg [(.int .i64 e_1.1), (.int .i64 e_1.2)]))), (3, (.bool false))] ⟨(keep_clear (s := s) (pk := [2]) h1 rfl rfl), rfl, rfl⟩ ?_
  rintro s ⟨h1, h2, h3⟩
  refine .nsq ?_
  refine .seq ?_
  refine run_reg ?_
  refine e_end ?_
  refine g_v1 (t := 1) (u := (.ref .sh 0 [] (Enc.enc (rf_2.v : List Int)))) (Enc.enc (rf_2.v : List Int)) h1 rfl rfl ?_
  refine g_v1 (t := 2) (u := (.ref (.bx 2) 0 [] (.agg [(.int .i64 e_1.1), (.int .i64 e_1.2)]))) (.ref (.bx 2) 0 [0] (.int .i64 e_1.1)) h2 rfl rfl ?_
  refine g_v1 (t := 5) (u := (.ref (.bx 2) 0 [0] (.int .i64 e_1.1))) (.int .i64 e_1.1) rfl rfl rfl ?_
  obtain ⟨e_3, E_e_3, h⟩ := bind_some h
  refine g_v (.ref .sh 0 [] (.int .i64 e_3)) (ev_idx (t := .sh) (lo := 0) (xs := rf_2.v) rfl rfl E_e_3 rfl rfl) ?_
  refine g_v1 (t := 7) (u := (.ref .sh 0 [] (.int .i64 e_3))) (.int .i64 e_3) rfl rfl rfl ?_
  refine g_v1 (t := 1) (u := (.ref .sh 0 [] (Enc.enc (rf_2.v : List Int)))) (Enc.enc (rf_2.v : List Int)) h1 rfl rfl ?_
  refine g_v1 (t := 2) (u := (.ref (.bx 2) 0 [] (.agg [(.int .i64 e_1.1), (.int .i64 e_1.2)]))) (.ref (.bx 2) 0 [1] (.int .i64 e_1.2)) h2 rfl rfl ?_
  refine g_v1 (t := 10) (u := (.ref (.bx 2) 0 [1] (.int .i64 e_1.2))) (.int .i64 e_1.2) rfl rfl rfl ?_
  obtain ⟨e_4, E_e_4, h⟩ := bind_some h
  refine g_v (.ref .sh 0 [] (.int .i64 e_4)) (ev_idx (t := .sh) (lo := 0) (xs := rf_2.v) rfl rfl E_e_4 rfl rfl) ?_
  refine g_v1 (t := 12) (u := (.ref .sh 0 [] (.int .i64 e_4))) (.int .i64 e_4) rfl rfl rfl ?_
  refine g_v2 (t1 := 8) (t2 := 13) (u1 := (.int .i64 e_3)) (u2 := (.int .i64 e_4)) (.int .i64 (iand .i64 e_3 e_4)) rfl rfl rfl rfl ?_
  refine g_v1 (t := 14) (u := (.int .i64 (iand .i64 e_3 e_4))) (.bool ((iand .i64 e_3 e_4) == 0)) rfl rfl rfl ?_
  refine g_v1 (t := 15) (u := (.bool ((iand .i64 e_3 e_4) == 0))) (.bool ((iand .i64 e_3 e_4) == 0)) rfl rfl rfl ?_
  refine g_end ?_
  refine e_end ?_
  refine renew [(3, (.bool ((iand .i64 e_3 e_4) == 0)))] rfl ?_
  rintro s h3
  refine .nsq ?_
  refine .ret ?_
  have hr := Option.some.inj h
  subst hr
  exact rrA (res_tmp h3) rfl
end
def e101 (F : Nat) : Ent := ⟨101, da (fun (x : ((Int × Int) × (Rf (List Int)) × Unit)) => i_isDecomposition_2 F x.1 x.2.1) (fun (r : Bool) => (Enc.enc (r : Bool))), 0, false, selF []⟩
theorem p101 {F : Nat} {x0 : (Int × Int)} {x1 : (Rf (List Int))} {r : Bool} (h : i_isDecomposition_2 F x0 x1 = some r) : (e101 F).den [Enc.enc x0, Arg.arg x1] = some (Enc.enc (r : Bool)) := da_put (f := fun (x : ((Int × Int) × (Rf (List Int)) × Unit)) => i_isDecomposition_2 F x.1 x.2.1) (t := fun (r : Bool) => (Enc.enc (r : Bool))) (x0, x1, ()) h
theorem o101 {D : Den} {σ : Sig} {F : Nat} (hF : Fits2 Try.prog D σ) (H : H101 D σ F) : (e101 F).Ok Try.prog := by
  refine ⟨fun args r h => ?_, ⟨Try.f101, Try.func101, rfl, rfl⟩⟩
  obtain ⟨⟨x0, x1, _⟩, y, rfl, hy, rfl⟩ := da_open h
  exact contract_run hF (by kernel_rfl) Try.func101 rfl c101 (show 2 ≤ Try.f101.ntmps by decide) (t101 H x0 x1 _ ⟨rfl, rfl⟩ hy)
/- slices.IndexFunc[[][2]int,[2]int] -/
def A119s1_5 : AC := (AC.cond (O.t 16) (AC.seq (AC.reg [] [(I.mk (some 17) none false (X.v (A.mov (O.t 5)))), (I.mk (some 4) none false (X.v (A.mov (O.t 17))))] []) AC.ret) AC.skip)
def A119s1_4 : AC := (AC.seq (AC.reg [] [(I.mk (some 11) none false (X.v (A.mov (O.t 1)))), (I.mk (some 12) none false (X.v (A.mov (O.t 0)))), (I.mk (some 13) none false (X.v (A.mov (O.t 5)))), (I.mk (some 14) none false (X.v (A.idx (O.t 12) (O.t 13) 2))), (I.mk (some 15) none false (X.v (A.load (Sh.ag [Sh.s, Sh.s]) (O.t 14)))), (I.mk (some 16) none false (X.call (O.t 11) [(O.t 15)]))] []) A119s1_5)
def A119s1_6 : AC := (AC.reg [] [(I.mk (some 18) none false (X.v (A.bin BinOp.add (O.t 8) (O.k (V.int IntKind.i64 (Int.ofNat 1)))))), (I.mk (some 8) none false (X.v (A.mov (O.t 18))))] [])
def A119s1_3 : AC := (AC.seq (AC.block 1 (AC.seq (AC.reg [] [(I.mk (some 10) none false (X.v (A.mov (O.t 8)))), (I.mk (some 5) none false (X.v (A.mov (O.t 10))))] []) A119s1_4)) A119s1_6)
def A119s1_2 : AC := (AC.seq (AC.cond (O.t 9) AC.skip (AC.exit 0)) A119s1_3)
def A119s1_1 : AC := (AC.seq (AC.reg [] [(I.mk (some 9) none false (X.v (A.bin BinOp.lss (O.t 8) (O.t 7))))] []) A119s1_2)
def A119s1_7 : AC := (AC.seq (AC.reg [] [(I.mk (some 4) none false (X.v (A.mov (O.k (V.int IntKind.i64 (Int.negSucc 0))))))] []) AC.ret)
def A119s1_9 : AC := (AC.block 0 (AC.loop A119s1_1))
def A119s1_8 : AC := (AC.seq (AC.seq (AC.reg [] [(I.mk (some 6) none false (X.v (A.mov (O.t 0)))), (I.mk (some 7) none false (X.v (A.len (O.t 6)))), (I.mk (some 8) none false (X.v (A.mov (O.k (V.int IntKind.i64 (Int.ofNat 0))))))] []) A119s1_9) A119s1_7)
def A119s1 : AC := (AC.seq (AC.reg [] [(I.mk (some 4) none false (X.v (A.mov (O.k (V.int IntKind.i64 (Int.ofNat 0))))))] []) A119s1_8)
def an119s1 : List An := []
theorem c119s1 : cC Try.prog Try.f119.ntmps an119s1 (Try.f119.body.getD .skip) = some A119s1 := by kernel_rfl
structure H119s1 (D : Den) (σ : Sig) (F : Nat) : Prop where
  c101 : ∀ (x0 : (Int × Int)) (x1 : (Rf (List Int))) r, i_isDecomposition_2 F x0 x1 = some r → D 101 [Enc.enc x0, Arg.arg x1] = some (Enc.enc (r : Bool))
  g101 : σ 101 = some (0, false)
abbrev R119s1 (r : Int) : (Nat → V) → Prop := RR Try.prog [.tmp 4] 0 false (Enc.enc (r : Int))
section
variable {D : Den} {σ : Sig} {F : Nat} {r : Int}
def slices_IndexFunc_2_int_2_int_of_i_isDecomposition_2_l1 (F : Nat) (s_1 : (List (Int × Int))) (f_2 : (Cl 101 Unit ((Rf (List Int)) × Unit)))  : Nat → Int → Option Int
  | 0, _ => none
  | k + 1, t8_5 =>
    bif decide (t8_5 < (s_1.length : Int)) then
      (idx s_1 t8_5).bind fun e_8 =>
      (i_isDecomposition_2 F e_8 f_2.env.1).bind fun r_9 =>
      bif r_9 then
        some t8_5
      else
        (slices_IndexFunc_2_int_2_int_of_i_isDecomposition_2_l1 F s_1 f_2 k) (w64 (t8_5 + 1))
    else
      some (-1)
theorem t_f119s1_l1 (H : H119s1 D σ F) (s_1 : (List (Int × Int))) (f_2 : (Cl 101 Unit ((Rf (List Int)) × Unit)))  : ∀ (k : Nat) (t8_5 : Int) (s : Nat → V), Facts [(0, (Enc.enc (s_1 : List (Int × Int)))), (1, (.fn 101 [] [(.ref .sh 0 [] (Enc.enc (f_2.env.1.v : List Int)))])), (4, (.int .i64 0)), (7, (.int .i64 (s_1.length : Int))), (8, (.int .i64 t8_5))] s → slices_IndexFunc_2_int_2_int_of_i_isDecomposition_2_l1 F s_1 f_2 k t8_5 = some r → Run D σ (R119s1 r) (.run A119s1_1 [.lp A119s1_1, .bk 0, .sq A119s1_7]) s := by
  intro k
  induction k with
  | zero => intro t8_5 s _ h; exact nomatch (h : (none : Option _) = some r)
  | succ k ih =>
    intro t8_5 s hs h
    rw [slices_IndexFunc_2_int_2_int_of_i_isDecomposition_2_l1] at h
    obtain ⟨h0, h1, h4, h7, h8⟩ := hs
    refine .seq ?_
    refine run_reg ?_
    refine e_end ?_
    refine g_v2 (t1 := 8) (t2 := 7) (u1 := (.int .i64 t8_5)) (u2 := (.int .i64 (s_1.length : Int))) (.bool (decide (t8_5 < (s_1.length : Int)))) h8 h7 rfl rfl ?_
    refine g_end ?_
    refine e_end ?_
    refine renew [(0, (Enc.enc (s_1 : List (Int × Int)))), (1, (.fn 101 [] [(.ref .sh 0 [] (Enc.enc (f_2.env.1.v : List Int)))])), (4, (.int .i64 0)), (7, (.int .i64 (s_1.length : Int))), (8, (.int .i64 t8_5)), (9, (.bool (decide (t8_5 < (s_1.length : Int)))))] ⟨h0, h1, h4, h7, h8, rfl⟩ ?_
    rintro s ⟨h0, h1, h4, h7, h8, h9⟩
    refine .nsq ?_
    refine .seq ?_
    refine run_cond (t := decide (t8_5 < (s_1.length : Int))) h9 h (fun h => ?_) (fun h => ?_)
    · refine .skip ?_
      refine .nsq ?_
      refine .seq ?_
      refine .block ?_
      refine .seq ?_
      refine run_reg ?_
      refine e_end ?_
      refine g_v1 (t := 8) (u := (.int .i64 t8_5)) (.int .i64 t8_5) h8 rfl rfl ?_
      refine g_v1 (t := 10) (u := (.int .i64 t8_5)) (.int .i64 t8_5) rfl rfl rfl ?_
      refine g_end ?_
      refine e_end ?_
      refine renew [(0, (Enc.enc (s_1 : List (Int × Int)))), (1, (.fn 101 [] [(.ref .sh 0 [] (Enc.enc (f_2.env.1.v : List Int)))])), (4, (.int .i64 0)), (5, (.int .i64 t8_5)), (7, (.int .i64 (s_1.length : Int))), (8, (.int .i64 t8_5))] ⟨h0, h1, h4, rfl, h7, h8⟩ ?_
      rintro s ⟨h0, h1, h4, h5, h7, h8⟩
      refine .nsq ?_
      refine .seq ?_
      refine run_reg ?_
      refine e_end ?_
      refine g_v1 (t := 1) (u := (.fn 101 [] [(.ref .sh 0 [] (Enc.enc (f_2.env.1.v : List Int)))])) (.fn 101 [] [(.ref .sh 0 [] (Enc.enc (f_2.env.1.v : List Int)))]) h1 rfl rfl ?_
      refine g_v1 (t := 0) (u := (Enc.enc (s_1 : List (Int × Int)))) (Enc.enc (s_1 : List (Int × Int))) h0 rfl rfl ?_
      refine g_v1 (t := 5) (u := (.int .i64 t8_5)) (.int .i64 t8_5) h5 rfl rfl ?_
      obtain ⟨e_8, E_e_8, h⟩ := bind_some h
      refine g_v (.ref .sh 0 [] (.agg [(.int .i64 e_8.1), (.int .i64 e_8.2)])) (ev_idx (t := .sh) (lo := 0) (xs := s_1) rfl rfl E_e_8 rfl rfl) ?_
      refine g_v1 (t := 14) (u := (.ref .sh 0 [] (.agg [(.int .i64 e_8.1), (.int .i64 e_8.2)]))) (.agg [(.int .i64 e_8.1), (.int .i64 e_8.2)]) rfl rfl rfl ?_
      obtain ⟨r_9, E_r_9, h⟩ := bind_some h
      refine g_callF (m := 0) (al := false) (r := (Enc.enc (r_9 : Bool))) (fs := []) (env := [(.ref .sh 0 [] (Enc.enc (f_2.env.1.v : List Int)))]) (us := []) (ws := [Arg.arg (f_2.env.1 : (Rf (List Int)))]) rfl erases_nil (erases_cons (erase_ref (Enc.erase_enc (f_2.env.1.v : (List Int)))) erases_nil) rfl [Enc.enc (e_8 : (Int × Int))] (ta_cons (v := (.agg [(.int .i64 e_8.1), (.int .i64 e_8.2)])) rfl rfl (Enc.erase_enc (e_8 : (Int × Int))) ta_nil) (H.c101 _ _ _ E_r_9) H.g101 rfl rfl rfl rfl ?_
      refine g_end ?_
      refine e_end ?_
      refine renew [(0, (Enc.enc (s_1 : List (Int × Int)))), (1, (.fn 101 [] [(.ref .sh 0 [] (Enc.enc (f_2.env.1.v : List Int)))])), (4, (.int .i64 0)), (5, (.int .i64 t8_5)), (7, (.int .i64 (s_1.length : Int))), (8, (.int .i64 t8_5)), (16, (.bool r_9))] ⟨h0, h1, h4, h5, h7, h8, rfl⟩ ?_
      rintro s ⟨h0, h1, h4, h5, h7, h8, h16⟩
      refine .nsq ?_
      refine run_cond (t := r_9) h16 h (fun h => ?_) (fun h => ?_)
      · refine .seq ?_
        refine run_reg ?_
        refine e_end ?_
        refine g_v1 (t := 5) (u := (.int .i64 t8_5)) (.int .i64 t8_5) h5 rfl rfl ?_
        refine g_v1 (t := 17) (u := (.int .i64 t8_5)) (.int .i64 t8_5) rfl rfl rfl ?_
        refine g_end ?_
        refine e_end ?_
        refine renew [(0, (Enc.enc (s_1 : List (Int × Int)))), (1, (.fn 101 [] [(.ref .sh 0 [] (Enc.enc (f_2.env.1.v : List Int)))])), (4, (.int .i64 t8_5)), (7, (.int .i64 (s_1.length : Int))), (8, (.int .i64 t8_5))] ⟨h0, h1, rfl, h7, h8⟩ ?_
        rintro s ⟨h0, h1, h4, h7, h8⟩
        refine .nsq ?_
        refine .ret ?_
        have hr := Option.some.inj h
        subst hr
        exact rrA (res_tmp h4) rfl
      · refine .skip ?_
        refine .nbk ?_
        refine .nsq ?_
        refine run_reg ?_
        refine e_end ?_
        refine g_v1 (t := 8) (u := (.int .i64 t8_5)) (.int .i64 (w64 (t8_5 + 1))) h8 rfl rfl ?_
        refine g_v1 (t := 18) (u := (.int .i64 (w64 (t8_5 + 1)))) (.int .i64 (w64 (t8_5 + 1))) rfl rfl rfl ?_
        refine g_end ?_
        refine e_end ?_
        refine renew [(0, (Enc.enc (s_1 : List (Int × Int)))), (1, (.fn 101 [] [(.ref .sh 0 [] (Enc.enc (f_2.env.1.v : List Int)))])), (4, (.int .i64 0)), (7, (.int .i64 (s_1.length : Int))), (8, (.int .i64 (w64 (t8_5 + 1))))] ⟨h0, h1, h4, h7, rfl⟩ ?_
        rintro s ⟨h0, h1, h4, h7, h8⟩
        refine .nlp ?_
        exact ih (w64 (t8_5 + 1)) _ ⟨h0, h1, h4, h7, h8⟩ h
    · refine .exit ?_
      refine .esq ?_
      refine .elp ?_
      refine .ebk ?_
      refine .nsq ?_
      refine .seq ?_
      refine run_reg ?_
      refine e_end ?_
      refine g_v0 (.int .i64 (-1)) rfl rfl ?_
      refine g_end ?_
      refine e_end ?_
      refine renew [(4, (.int .i64 (-1)))] rfl ?_
      rintro s h4
      refine .nsq ?_
      refine .ret ?_
      have hr := Option.some.inj h
      subst hr
      exact rrA (res_tmp h4) rfl
def slices_IndexFunc_2_int_2_int_of_i_isDecomposition_2 (F : Nat) (s_1 : (List (Int × Int))) (f_2 : (Cl 101 Unit ((Rf (List Int)) × Unit))) : Option Int :=
  slices_IndexFunc_2_int_2_int_of_i_isDecomposition_2_l1 F s_1 f_2 F 0
theorem t119s1 (H : H119s1 D σ F) (s_1 : (List (Int × Int))) (f_2 : (Cl 101 Unit ((Rf (List Int)) × Unit))) (s : Nat → V) (hs : Facts [(0, (Enc.enc (s_1 : List (Int × Int)))), (1, (.fn 101 [] [(.ref .sh 0 [] (Enc.enc (f_2.env.1.v : List Int)))]))] s) (h : slices_IndexFunc_2_int_2_int_of_i_isDecomposition_2 F s_1 f_2 = some r) : Run D σ (R119s1 r) (.run A119s1 []) s := by
  unfold slices_IndexFunc_2_int_2_int_of_i_isDecomposition_2 at h
  obtain ⟨h0, h1⟩ := hs
  refine .seq ?_
  refine run_reg ?_
  refine e_end ?_
  refine g_v0 (.int .i64 0) rfl rfl ?_
  refine g_end ?_
  refine e_end ?_
  refine renew [(0, (Enc.enc (s_1 : List (Int × Int)))), (1, (.fn 101 [] [(.ref .sh 0 [] (Enc.enc (f_2.env.1.v : List Int)))])), (4, (.int .i64 0))] ⟨h0, h1, rfl⟩ ?_
  rintro s ⟨h0, h1, h4⟩
  refine .nsq ?_
  refine .seq ?_
  refine .seq ?_
  refine run_reg ?_
  refine e_end ?_
  refine g_v1 (t := 0) (u := (Enc.enc (s_1 : List (Int × Int)))) (Enc.enc (s_1 : List (Int × Int))) h0 rfl rfl ?_
  refine g_v (.int .i64 (s_1.length : Int)) (ev_len (xs := s_1) rfl) ?_
  refine g_v0 (.int .i64 0) rfl rfl ?_
  refine g_end ?_
  refine e_end ?_
  refine renew [(0, (Enc.enc (s_1 : List (Int × Int)))), (1, (.fn 101 [] [(.ref .sh 0 [] (Enc.enc (f_2.env.1.v : List Int)))])), (4, (.int .i64 0)), (7, (.int .i64 (s_1.length : Int))), (8, (.int .i64 0))] ⟨h0, h1, h4, rfl, rfl⟩ ?_
  rintro s ⟨h0, h1, h4, h7, h8⟩
  refine .nsq ?_
  refine .block ?_
  refine .loop ?_
  exact t_f119s1_l1 H s_1 f_2 F 0 _ ⟨h0, h1, h4, h7, h8⟩ h
end
def e119s1 (F : Nat) : Ent := ⟨119, da (fun (x : ((List (Int × Int)) × (Cl 101 Unit ((Rf (List Int)) × Unit)) × Unit)) => slices_IndexFunc_2_int_2_int_of_i_isDecomposition_2 F x.1 x.2.1) (fun (r : Int) => (Enc.enc (r : Int))), 0, false, selF [(1, 101)]⟩
theorem p119s1 {F : Nat} {x0 : (List (Int × Int))} {x1 : (Cl 101 Unit ((Rf (List Int)) × Unit))} {r : Int} (h : slices_IndexFunc_2_int_2_int_of_i_isDecomposition_2 F x0 x1 = some r) : (e119s1 F).den [Enc.enc x0, Arg.arg x1] = some (Enc.enc (r : Int)) := da_put (f := fun (x : ((List (Int × Int)) × (Cl 101 Unit ((Rf (List Int)) × Unit)) × Unit)) => slices_IndexFunc_2_int_2_int_of_i_isDecomposition_2 F x.1 x.2.1) (t := fun (r : Int) => (Enc.enc (r : Int))) (x0, x1, ()) h
theorem o119s1 {D : Den} {σ : Sig} {F : Nat} (hF : Fits2 Try.prog D σ) (H : H119s1 D σ F) : (e119s1 F).Ok Try.prog := by
  refine ⟨fun args r h => ?_, ⟨Try.f119, Try.func119, rfl, rfl⟩⟩
  obtain ⟨⟨x0, x1, _⟩, y, rfl, hy, rfl⟩ := da_open h
  exact contract_run hF (by kernel_rfl) Try.func119 rfl c119s1 (show 2 ≤ Try.f119.ntmps by decide) (t119s1 H x0 x1 _ ⟨rfl, rfl⟩ hy)
/- slices.ContainsFunc[[][2]int,[2]int] -/
def A86s1_1 : AC := (AC.seq (AC.reg [] [(I.mk (some 5) none false (X.v (A.mov (O.t 0)))), (I.mk (some 6) none false (X.v (A.mov (O.t 1)))), (I.mk (some 7) none false (X.call (O.k (V.fn 119 [] [])) [(O.t 5), (O.t 6)])), (I.mk (some 8) none false (X.v (A.bin BinOp.geq (O.t 7) (O.k (V.int IntKind.i64 (Int.ofNat 0)))))), (I.mk (some 4) none false (X.v (A.mov (O.t 8))))] []) AC.ret)
def A86s1 : AC := (AC.seq (AC.reg [] [(I.mk (some 4) none false (X.v (A.mov (O.k (V.bool false)))))] []) A86s1_1)
def an86s1 : List An := []
theorem c86s1 : cC Try.prog Try.f86.ntmps an86s1 (Try.f86.body.getD .skip) = some A86s1 := by kernel_rfl
structure H86s1 (D : Den) (σ : Sig) (F : Nat) : Prop where
  c119s1 : ∀ (x0 : (List (Int × Int))) (x1 : (Cl 101 Unit ((Rf (List Int)) × Unit))) r, slices_IndexFunc_2_int_2_int_of_i_isDecomposition_2 F x0 x1 = some r → D 119 [Enc.enc x0, Arg.arg x1] = some (Enc.enc (r : Int))
  g119s1 : σ 119 = some (0, false)
abbrev R86s1 (r : Bool) : (Nat → V) → Prop := RR Try.prog [.tmp 4] 0 false (Enc.enc (r : Bool))
section
variable {D : Den} {σ : Sig} {F : Nat} {r : Bool}
def slices_ContainsFunc_2_int_2_int_of_i_isDecomposition_2 (F : Nat) (s_1 : (List (Int × Int))) (f_2 : (Cl 101 Unit ((Rf (List Int)) × Unit))) : Option Bool :=
  (slices_IndexFunc_2_int_2_int_of_i_isDecomposition_2 F s_1 f_2).bind fun r_3 =>
  some (decide (r_3 ≥ 0))
theorem t86s1 (H : H86s1 D σ F) (s_1 : (List (Int × Int))) (f_2 : (Cl 101 Unit ((Rf (List Int)) × Unit))) (s : Nat → V) (hs : Facts [(0, (Enc.enc (s_1 : List (Int × Int)))), (1, (.fn 101 [] [(.ref .sh 0 [] (Enc.enc (f_2.env.1.v : List Int)))]))] s) (h : slices_ContainsFunc_2_int_2_int_of_i_isDecomposition_2 F s_1 f_2 = some r) : Run D σ (R86s1 r) (.run A86s1 []) s := by
  unfold slices_ContainsFunc_2_int_2_int_of_i_isDecomposition_2 at h
  obtain ⟨h0, h1⟩ := hs
  refine .seq ?_
  refine run_reg ?_
  refine e_end ?_
  refine g_v0 (.bool false) rfl rfl ?_
  refine g_end ?_
  refine e_end ?_
  refine renew [(0, (Enc.enc (s_1 : List (Int × Int)))), (1, (.fn 101 [] [(.ref .sh 0 [] (Enc.enc (f_2.env.1.v : List Int)))])), (4, (.bool false))] ⟨h0, h1, rfl⟩ ?_
  rintro s ⟨h0, h1, h4⟩
  refine .nsq ?_
  refine .seq ?_
  refine run_reg ?_
  refine e_end ?_
  refine g_v1 (t := 0) (u := (Enc.enc (s_1 : List (Int × Int)))) (Enc.enc (s_1 : List (Int × Int))) h0 rfl rfl ?_
  refine g_v1 (t := 1) (u := (.fn 101 [] [(.ref .sh 0 [] (Enc.enc (f_2.env.1.v : List Int)))])) (.fn 101 [] [(.ref .sh 0 [] (Enc.enc (f_2.env.1.v : List Int)))]) h1 rfl rfl ?_
  obtain ⟨r_3, E_r_3, h⟩ := bind_some h
  refine g_call (m := 0) (al := false) (r := (Enc.enc (r_3 : Int))) [Enc.enc (s_1 : (List (Int × Int))), Arg.arg (f_2 : (Cl 101 Unit ((Rf (List Int)) × Unit)))] (ta_cons (v := (Enc.enc (s_1 : List (Int × Int)))) rfl rfl (Enc.erase_enc (s_1 : (List (Int × Int)))) (ta_cons (v := (.fn 101 [] [(.ref .sh 0 [] (Enc.enc (f_2.env.1.v : List Int)))])) rfl rfl (erase_fn erases_nil (erases_cons (erase_ref (Enc.erase_enc (f_2.env.1.v : (List Int)))) erases_nil)) ta_nil)) (H.c119s1 _ _ _ E_r_3) H.g119s1 rfl rfl rfl rfl ?_
  refine g_v1 (t := 7) (u := (.int .i64 r_3)) (.bool (decide (r_3 ≥ 0))) rfl rfl rfl ?_
  refine g_v1 (t := 8) (u := (.bool (decide (r_3 ≥ 0)))) (.bool (decide (r_3 ≥ 0))) rfl rfl rfl ?_
  refine g_end ?_
  refine e_end ?_
  refine renew [(4, (.bool (decide (r_3 ≥ 0))))] rfl ?_
  rintro s h4
  refine .nsq ?_
  refine .ret ?_
  have hr := Option.some.inj h
  subst hr
  exact rrA (res_tmp h4) rfl
end
def e86s1 (F : Nat) : Ent := ⟨86, da (fun (x : ((List (Int × Int)) × (Cl 101 Unit ((Rf (List Int)) × Unit)) × Unit)) => slices_ContainsFunc_2_int_2_int_of_i_isDecomposition_2 F x.1 x.2.1) (fun (r : Bool) => (Enc.enc (r : Bool))), 0, false, selF [(1, 101)]⟩
theorem p86s1 {F : Nat} {x0 : (List (Int × Int))} {x1 : (Cl 101 Unit ((Rf (List Int)) × Unit))} {r : Bool} (h : slices_ContainsFunc_2_int_2_int_of_i_isDecomposition_2 F x0 x1 = some r) : (e86s1 F).den [Enc.enc x0, Arg.arg x1] = some (Enc.enc (r : Bool)) := da_put (f := fun (x : ((List (Int × Int)) × (Cl 101 Unit ((Rf (List Int)) × Unit)) × Unit)) => slices_ContainsFunc_2_int_2_int_of_i_isDecomposition_2 F x.1 x.2.1) (t := fun (r : Bool) => (Enc.enc (r : Bool))) (x0, x1, ()) h
theorem o86s1 {D : Den} {σ : Sig} {F : Nat} (hF : Fits2 Try.prog D σ) (H : H86s1 D σ F) : (e86s1 F).Ok Try.prog := by
  refine ⟨fun args r h => ?_, ⟨Try.f86, Try.func86, rfl, rfl⟩⟩
  obtain ⟨⟨x0, x1, _⟩, y, rfl, hy, rfl⟩ := da_open h
  exact contract_run hF (by kernel_rfl) Try.func86 rfl c86s1 (show 2 ≤ Try.f86.ntmps by decide) (t86s1 H x0 x1 _ ⟨rfl, rfl⟩ hy)
/- loop.example/g01109/impl.isDecomposition -/
def A58_5 : AC := (AC.cond (O.t 58) (AC.seq (AC.reg [] [(I.mk (some 4) none false (X.v (A.mov (O.k (V.bool false)))))] []) AC.ret) AC.skip)
def A58_11 : AC := (AC.reg [] [(I.mk (some 65) none false (X.v (A.load Sh.p (O.t 7)))), (I.mk (some 66) none false (X.v (A.mov (O.t 11)))), (I.mk (some 67) none false (X.v (A.idx (O.t 65) (O.t 66) 1))), (I.mk (some 68) none false (X.v (A.load Sh.s (O.t 67)))), (I.mk (some 69) none false (X.v (A.mov (O.t 8)))), (I.mk (some 70) none false (X.v (A.bin BinOp.shl (O.k (V.int IntKind.i64 (Int.ofNat 1))) (O.t 69)))), (I.mk (some 71) none false (X.v (A.bin BinOp.or (O.t 68) (O.t 70)))), (I.mk (some 72) none false (X.v (A.idx (O.t 65) (O.t 66) 1))), (I.mk none none false (X.store Sh.s (O.t 72) (O.t 71)))] [])
def A58_12 : AC := (AC.reg [] [(I.mk (some 73) none false (X.v (A.bin BinOp.add (O.t 61) (O.k (V.int IntKind.i64 (Int.ofNat 1)))))), (I.mk (some 61) none false (X.v (A.mov (O.t 73))))] [])
def A58_10 : AC := (AC.seq (AC.block 3 (AC.seq (AC.reg [] [(I.mk (some 63) none false (X.v (A.idx (O.t 59) (O.t 61) 1))), (I.mk (some 64) none false (X.v (A.load Sh.s (O.t 63)))), (I.mk (some 11) none false (X.v (A.mov (O.t 64))))] []) A58_11)) A58_12)
def A58_9 : AC := (AC.seq (AC.cond (O.t 62) AC.skip (AC.exit 2)) A58_10)
def A58_8 : AC := (AC.seq (AC.reg [] [(I.mk (some 62) none false (X.v (A.bin BinOp.lss (O.t 61) (O.t 60))))] []) A58_9)
def A58_7 : AC := (AC.block 2 (AC.loop A58_8))
def A58_6 : AC := (AC.seq (AC.reg [] [(I.mk (some 59) none false (X.v (A.mov (O.t 9)))), (I.mk (some 60) none false (X.v (A.len (O.t 59)))), (I.mk (some 61) none false (X.v (A.mov (O.k (V.int IntKind.i64 (Int.ofNat 0))))))] []) A58_7)
def A58_4 : AC := (AC.seq (AC.seq (AC.reg [] [(I.mk (some 55) none false (X.v (A.load (Sh.ag [Sh.s, Sh.p]) (O.t 2)))), (I.mk (some 56) none false (X.v (A.mov (O.t 9)))), (I.mk (some 57) none false (X.call (O.k (V.fn 84 [] [])) [(O.t 55), (O.t 56)])), (I.mk (some 58) none false (X.v (A.un UnOp.not (O.t 57))))] []) A58_5) A58_6)
def A58_13 : AC := (AC.reg [] [(I.mk (some 74) none false (X.v (A.bin BinOp.add (O.t 50) (O.k (V.int IntKind.i64 (Int.ofNat 1)))))), (I.mk (some 50) none false (X.v (A.mov (O.t 74))))] [])
def A58_3 : AC := (AC.seq (AC.block 1 (AC.seq (AC.reg [] [(I.mk (some 52) none false (X.v (A.mov (O.t 50)))), (I.mk (some 53) none false (X.v (A.idx (O.t 48) (O.t 50) 1))), (I.mk (some 54) none false (X.v (A.load Sh.p (O.t 53)))), (I.mk (some 8) none false (X.v (A.mov (O.t 52)))), (I.mk (some 9) none false (X.v (A.mov (O.t 54))))] []) A58_4)) A58_13)
def A58_2 : AC := (AC.seq (AC.cond (O.t 51) AC.skip (AC.exit 0)) A58_3)
def A58_1 : AC := (AC.seq (AC.reg [] [(I.mk (some 51) none false (X.v (A.bin BinOp.lss (O.t 50) (O.t 49))))] []) A58_2)
def A58_15 : AC := (AC.cond (O.t 77) (AC.seq (AC.reg [] [(I.mk (some 4) none false (X.v (A.mov (O.k (V.bool false)))))] []) AC.ret) AC.skip)
def A58_16 : AC := (AC.seq (AC.reg [] [(I.mk (some 78) none false (X.v (A.fld (O.t 2) 1 1))), (I.mk (some 79) none false (X.v (A.load Sh.p (O.t 78)))), (I.mk (some 80) none false (X.v (A.fn 101 [] [(O.t 7)]))), (I.mk (some 81) none false (X.call (O.k (V.fn 86 [] [])) [(O.t 79), (O.t 80)])), (I.mk (some 82) none false (X.v (A.un UnOp.not (O.t 81)))), (I.mk (some 4) none false (X.v (A.mov (O.t 82))))] []) AC.ret)
def A58_14 : AC := (AC.seq (AC.seq (AC.reg [] [(I.mk (some 75) none false (X.v (A.load Sh.p (O.t 7)))), (I.mk (some 76) none false (X.v (A.fn 100 [] [(O.t 6)]))), (I.mk (some 77) none false (X.call (O.k (V.fn 99 [] [])) [(O.t 75), (O.t 76)]))] []) A58_15) A58_16)
def A58_17 : AC := (AC.cond (O.t 43) (AC.seq (AC.reg [] [(I.mk (some 4) none false (X.v (A.mov (O.k (V.bool false)))))] []) AC.ret) AC.skip)
def A58_20 : AC := (AC.block 0 (AC.loop A58_1))
def A58_19 : AC := (AC.seq (AC.seq (AC.reg [] [(I.mk (some 47) none false (X.v (A.fld (O.t 3) 0 0))), (I.mk (some 48) none false (X.v (A.load Sh.p (O.t 47)))), (I.mk (some 49) none false (X.v (A.len (O.t 48)))), (I.mk (some 50) none false (X.v (A.mov (O.k (V.int IntKind.i64 (Int.ofNat 0))))))] []) A58_20) A58_14)
def A58_18 : AC := (AC.seq (AC.reg [.clr [46, 7]] [(I.mk (some 44) none false (X.v (A.fld (O.t 2) 0 0))), (I.mk (some 45) none false (X.v (A.load Sh.s (O.t 44)))), (I.mk (some 46) none false (X.mk (O.t 45) (V.int IntKind.i64 (Int.ofNat 0)))), (I.mk (some 7) none false (X.alloc (V.sl Tok.nl Sh.s 0 []))), (I.mk none none false (X.store Sh.p (O.t 7) (O.t 46)))] []) A58_19)
def A58_23 : AC := (AC.seq (AC.seq (AC.reg [] [(I.mk (some 19) none false (X.v (A.mov (O.t 5)))), (I.mk (some 20) none false (X.v (A.bin BinOp.eql (O.t 19) (O.k (V.int IntKind.i64 (Int.ofNat 0)))))), (I.mk (some 21) none false (X.v (A.mov (O.t 20)))), (I.mk (some 22) (some (21, false)) false (X.v (A.load (Sh.ag [Sh.s, Sh.p]) (O.t 6)))), (I.mk (some 23) (some (21, false)) false (X.call (O.k (V.fn 53 [] [])) [(O.t 22)])), (I.mk (some 24) (some (21, false)) false (X.v (A.un UnOp.not (O.t 23)))), (I.mk (some 25) none false (X.v (A.pick (O.t 21) (O.k (V.bool true)) (O.t 24)))), (I.mk (some 26) none false (X.v (A.mov (O.t 25)))), (I.mk (some 27) (some (26, false)) false (X.v (A.fld (O.t 3) 1 1))), (I.mk (some 28) (some (26, false)) false (X.v (A.load Sh.p (O.t 27)))), (I.mk (some 29) (some (26, false)) false (X.v (A.len (O.t 28)))), (I.mk (some 30) (some (26, false)) false (X.v (A.mov (O.t 5)))), (I.mk (some 31) (some (26, false)) false (X.v (A.bin BinOp.sub (O.t 30) (O.k (V.int IntKind.i64 (Int.ofNat 1)))))), (I.mk (some 32) (some (26, false)) false (X.v (A.bin BinOp.neq (O.t 29) (O.t 31)))), (I.mk (some 33) none false (X.v (A.pick (O.t 26) (O.k (V.bool true)) (O.t 32)))), (I.mk (some 34) none false (X.v (A.mov (O.t 33)))), (I.mk (some 35) (some (34, false)) false (X.v (A.load (Sh.ag [Sh.s, Sh.p]) (O.t 6)))), (I.mk (some 36) (some (34, false)) false (X.call (O.k (V.fn 67 [] [])) [(O.t 35)])), (I.mk (some 37) (some (34, false)) false (X.v (A.mov (O.t 5)))), (I.mk (some 38) (some (34, false)) false (X.v (A.bin BinOp.shl (O.k (V.int IntKind.i64 (Int.ofNat 1))) (O.t 37)))), (I.mk (some 39) (some (34, false)) false (X.v (A.bin BinOp.sub (O.t 38) (O.k (V.int IntKind.i64 (Int.ofNat 1)))))), (I.mk (some 40) (some (34, false)) false (X.call (O.k (V.fn 92 [] [])) [(O.t 36), (O.t 39)])), (I.mk (some 41) (some (34, false)) false (X.v (A.len (O.t 40)))), (I.mk (some 42) (some (34, false)) false (X.v (A.bin BinOp.neq (O.t 41) (O.k (V.int IntKind.i64 (Int.ofNat 1)))))), (I.mk (some 43) none false (X.v (A.pick (O.t 34) (O.k (V.bool true)) (O.t 42))))] []) A58_17) A58_18)
def A58_22 : AC := (AC.seq (AC.reg [.clr [6]] [(I.mk (some 15) none false (X.v (A.mov (O.t 5)))), (I.mk (some 16) none false (X.v (A.fld (O.t 3) 1 1))), (I.mk (some 17) none false (X.v (A.load Sh.p (O.t 16)))), (I.mk (some 18) none false (X.v (A.bld (V.agg [(V.int IntKind.i64 (Int.ofNat 0)), (V.sl Tok.nl (Sh.ag [Sh.s, Sh.s]) 0 [])]) [(0, 0, (O.t 15)), (1, 1, (O.t 17))]))), (I.mk (some 6) none false (X.alloc (V.agg [(V.int IntKind.i64 (Int.ofNat 0)), (V.sl Tok.nl (Sh.ag [Sh.s, Sh.s]) 0 [])]))), (I.mk none none false (X.store (Sh.ag [Sh.s, Sh.p]) (O.t 6) (O.t 18)))] []) A58_23)
def A58_21 : AC := (AC.seq (AC.reg [] [(I.mk (some 12) none false (X.v (A.fld (O.t 3) 0 0))), (I.mk (some 13) none false (X.v (A.load Sh.p (O.t 12)))), (I.mk (some 14) none false (X.v (A.len (O.t 13)))), (I.mk (some 5) none false (X.v (A.mov (O.t 14))))] []) A58_22)
def A58 : AC := (AC.seq (AC.reg [.clr [2, 3]] [(I.mk (some 2) none false (X.box (O.t 0))), (I.mk (some 3) none false (X.box (O.t 1))), (I.mk (some 4) none false (X.v (A.mov (O.k (V.bool false)))))] []) A58_21)
def an58 : List An := [{ id := 0, pre := [.clr [2, 3]], ep := [], lin := [], sp := [] }, { id := 2, pre := [.clr [6]], ep := [], lin := [], sp := [] }, { id := 5, pre := [.clr [46, 7]], ep := [], lin := [], sp := [] }]
theorem c58 : cC Try.prog Try.f58.ntmps an58 (Try.f58.body.getD .skip) = some A58 := by kernel_rfl
structure H58 (D : Den) (σ : Sig) (F : Nat) : Prop where
  c53 : ∀ (x0 : (Int × (List (Int × Int)))) r, i_IsGraph F x0 = some r → D 53 [Enc.enc x0] = some (Enc.enc (r : Bool))
  g53 : σ 53 = some (0, false)
  c67 : ∀ (x0 : (Int × (List (Int × Int)))) r, i_netOf F x0 = some r → D 67 [Enc.enc x0] = some (Enc.enc (r : (S1 (List Int))))
  g67 : σ 67 = some (0, false)
  c92 : ∀ (x0 : (S1 (List Int))) (x1 : Int) r, i_net_parts F x0 x1 = some r → D 92 [Enc.enc x0, Enc.enc x1] = some (Enc.enc (r : (List Int)))
  g92 : σ 92 = some (0, false)
  c84 : ∀ (x0 : (Int × (List (Int × Int)))) (x1 : (List Int)) r, i_isSet F x0 x1 = some r → D 84 [Enc.enc x0, Enc.enc x1] = some (Enc.enc (r : Bool))
  g84 : σ 84 = some (0, false)
  c99s1 : ∀ (x0 : (List Int)) (x1 : (Cl 100 Unit ((Rf (Int × (List (Int × Int)))) × Unit))) r, slices_ContainsFunc_of_i_isDecomposition_1 F x0 x1 = some r → D 99 [Enc.enc x0, Arg.arg x1] = some (Enc.enc (r : Bool))
  g99s1 : σ 99 = some (0, false)
  c86s1 : ∀ (x0 : (List (Int × Int))) (x1 : (Cl 101 Unit ((Rf (List Int)) × Unit))) r, slices_ContainsFunc_2_int_2_int_of_i_isDecomposition_2 F x0 x1 = some r → D 86 [Enc.enc x0, Arg.arg x1] = some (Enc.enc (r : Bool))
  g86s1 : σ 86 = some (0, false)
abbrev R58 (r : Bool) : (Nat → V) → Prop := RR Try.prog [.tmp 4] 0 false (Enc.enc (r : Bool))
section
variable {D : Den} {σ : Sig} {F : Nat} {r : Bool}
def i_isDecomposition_l1 (F : Nat) (g_1 : (Int × (List (Int × Int)))) (d_2 : ((List (List Int)) × (List (Int × Int)))) (t50_26 : Int) (e_43 : (List Int)) (c1 : (List Int) → Int → Option Bool) : Nat → (List Int) → Int → Option Bool
  | 0, _, _ => none
  | k + 1, having_49, t61_50 =>
    bif decide (t61_50 < (e_43.length : Int)) then
      (idx e_43 t61_50).bind fun e_55 =>
      (idx having_49 e_55).bind fun e_56 =>
      (shlI .i64 1 t50_26).bind fun q_57 =>
      (idx having_49 e_55).bind fun e_58 =>
      (i_isDecomposition_l1 F g_1 d_2 t50_26 e_43 c1 k) (having_49.set e_55.toNat (ior .i64 e_56 q_57)) (w64 (t61_50 + 1))
    else
      c1 having_49 (w64 (t50_26 + 1))
theorem t_f58_l1 (H : H58 D σ F) (g_1 : (Int × (List (Int × Int)))) (d_2 : ((List (List Int)) × (List (Int × Int)))) (t50_26 : Int) (e_43 : (List Int)) (c1 : (List Int) → Int → Option Bool) (Hc1 : ∀ (having_25 : (List Int)) (t50_26 : Int) (s : Nat → V), Facts [(2, (.ref (.bx 2) 0 [] (.agg [(.int .i64 g_1.1), (Enc.enc (g_1.2 : List (Int × Int)))]))), (4, (.bool false)), (6, (.ref (.bx 6) 0 [] (.agg [(.int .i64 (d_2.1.length : Int)), (Enc.enc (d_2.2 : List (Int × Int)))]))), (7, (.ref (.bx 7) 0 [] (encO (.at 46 []) (.of (having_25 : List Int))))), (48, (Enc.enc (d_2.1 : List (List Int)))), (49, (.int .i64 (d_2.1.length : Int))), (50, (.int .i64 t50_26))] s → c1 having_25 t50_26 = some r → Run D σ (R58 r) (.run A58_1 [.lp A58_1, .bk 0, .sq A58_14]) s) : ∀ (k : Nat) (having_49 : (List Int)) (t61_50 : Int) (s : Nat → V), Facts [(2, (.ref (.bx 2) 0 [] (.agg [(.int .i64 g_1.1), (Enc.enc (g_1.2 : List (Int × Int)))]))), (4, (.bool false)), (6, (.ref (.bx 6) 0 [] (.agg [(.int .i64 (d_2.1.length : Int)), (Enc.enc (d_2.2 : List (Int × Int)))]))), (7, (.ref (.bx 7) 0 [] (encO (.at 46 []) (.of (having_49 : List Int))))), (8, (.int .i64 t50_26)), (48, (Enc.enc (d_2.1 : List (List Int)))), (49, (.int .i64 (d_2.1.length : Int))), (50, (.int .i64 t50_26)), (59, (Enc.enc (e_43 : List Int))), (60, (.int .i64 (e_43.length : Int))), (61, (.int .i64 t61_50))] s → i_isDecomposition_l1 F g_1 d_2 t50_26 e_43 c1 k having_49 t61_50 = some r → Run D σ (R58 r) (.run A58_8 [.lp A58_8, .bk 2, .bk 1, .sq A58_13, .lp A58_1, .bk 0, .sq A58_14]) s := by
  intro k
  induction k with
  | zero => intro having_49 t61_50 s _ h; exact nomatch (h : (none : Option _) = some r)
  | succ k ih =>
    intro having_49 t61_50 s hs h
    rw [i_isDecomposition_l1] at h
    obtain ⟨h2, h4, h6, h7, h8, h48, h49, h50, h59, h60, h61⟩ := hs
    refine .seq ?_
    refine run_reg ?_
    refine e_end ?_
    refine g_v2 (t1 := 61) (t2 := 60) (u1 := (.int .i64 t61_50)) (u2 := (.int .i64 (e_43.length : Int))) (.bool (decide (t61_50 < (e_43.length : Int)))) h61 h60 rfl rfl ?_
    refine g_end ?_
    refine e_end ?_
    refine renew [(2, (.ref (.bx 2) 0 [] (.agg [(.int .i64 g_1.1), (Enc.enc (g_1.2 : List (Int × Int)))]))), (4, (.bool false)), (6, (.ref (.bx 6) 0 [] (.agg [(.int .i64 (d_2.1.length : Int)), (Enc.enc (d_2.2 : List (Int × Int)))]))), (7, (.ref (.bx 7) 0 [] (encO (.at 46 []) (.of (having_49 : List Int))))), (8, (.int .i64 t50_26)), (48, (Enc.enc (d_2.1 : List (List Int)))), (49, (.int .i64 (d_2.1.length : Int))), (50, (.int .i64 t50_26)), (59, (Enc.enc (e_43 : List Int))), (60, (.int .i64 (e_43.length : Int))), (61, (.int .i64 t61_50)), (62, (.bool (decide (t61_50 < (e_43.length : Int)))))] ⟨h2, h4, h6, h7, h8, h48, h49, h50, h59, h60, h61, rfl⟩ ?_
    rintro s ⟨h2, h4, h6, h7, h8, h48, h49, h50, h59, h60, h61, h62⟩
    refine .nsq ?_
    refine .seq ?_
    refine run_cond (t := decide (t61_50 < (e_43.length : Int))) h62 h (fun h => ?_) (fun h => ?_)
    · refine .skip ?_
      refine .nsq ?_
      refine .seq ?_
      refine .block ?_
      refine .seq ?_
      refine run_reg ?_
      refine e_end ?_
      obtain ⟨e_55, E_e_55, h⟩ := bind_some h
      refine g_v (.ref .sh 0 [] (.int .i64 e_55)) (ev_idx (t := .sh) (lo := 0) (xs := e_43) h59 h61 E_e_55 rfl rfl) ?_
      refine g_v1 (t := 63) (u := (.ref .sh 0 [] (.int .i64 e_55))) (.int .i64 e_55) rfl rfl rfl ?_
      refine g_v1 (t := 64) (u := (.int .i64 e_55)) (.int .i64 e_55) rfl rfl rfl ?_
      refine g_end ?_
      refine e_end ?_
      refine renew [(2, (.ref (.bx 2) 0 [] (.agg [(.int .i64 g_1.1), (Enc.enc (g_1.2 : List (Int × Int)))]))), (4, (.bool false)), (6, (.ref (.bx 6) 0 [] (.agg [(.int .i64 (d_2.1.length : Int)), (Enc.enc (d_2.2 : List (Int × Int)))]))), (7, (.ref (.bx 7) 0 [] (encO (.at 46 []) (.of (having_49 : List Int))))), (8, (.int .i64 t50_26)), (11, (.int .i64 e_55)), (48, (Enc.enc (d_2.1 : List (List Int)))), (49, (.int .i64 (d_2.1.length : Int))), (50, (.int .i64 t50_26)), (59, (Enc.enc (e_43 : List Int))), (60, (.int .i64 (e_43.length : Int))), (61, (.int .i64 t61_50))] ⟨h2, h4, h6, h7, h8, rfl, h48, h49, h50, h59, h60, h61⟩ ?_
      rintro s ⟨h2, h4, h6, h7, h8, h11, h48, h49, h50, h59, h60, h61⟩
      refine .nsq ?_
      refine run_reg ?_
      refine e_end ?_
      refine g_v1 (t := 7) (u := (.ref (.bx 7) 0 [] (encO (.at 46 []) (.of (having_49 : List Int))))) (encO (.at 46 []) (.of (having_49 : List Int))) h7 rfl rfl ?_
      refine g_v1 (t := 11) (u := (.int .i64 e_55)) (.int .i64 e_55) h11 rfl rfl ?_
      obtain ⟨e_56, E_e_56, h⟩ := bind_some h
      refine g_v (.ref (.at 46 []) e_55.toNat [] (.int .i64 e_56)) (ev_idxO (o := (.of having_49)) rfl rfl E_e_56 rfl) ?_
      refine g_v1 (t := 67) (u := (.ref (.at 46 []) e_55.toNat [] (.int .i64 e_56))) (.int .i64 e_56) rfl rfl rfl ?_
      refine g_v1 (t := 8) (u := (.int .i64 t50_26)) (.int .i64 t50_26) h8 rfl rfl ?_
      obtain ⟨q_57, E_q_57, h⟩ := bind_some h
      refine g_v (.int .i64 q_57) (ev_shl rfl rfl E_q_57) ?_
      refine g_v2 (t1 := 68) (t2 := 70) (u1 := (.int .i64 e_56)) (u2 := (.int .i64 q_57)) (.int .i64 (ior .i64 e_56 q_57)) rfl rfl rfl rfl ?_
      obtain ⟨e_58, E_e_58, h⟩ := bind_some h
      refine g_v (.ref (.at 46 []) e_55.toNat [] (.int .i64 e_58)) (ev_idxO (o := (.of having_49)) rfl rfl E_e_58 rfl) ?_
      refine g_store (.int .i64 (ior .i64 e_56 q_57)) (rd_of rfl rfl) (rd_of rfl rfl) (by refine ⟨by decide, by decide, rfl, rfl, rfl, ?_⟩; first | rfl | simp [V.toks, V.tokss, Enc.toks_enc]) ?_
      refine g_end ?_
      refine e_end ?_
      refine renew [(2, (.ref (.bx 2) 0 [] (.agg [(.int .i64 g_1.1), (Enc.enc (g_1.2 : List (Int × Int)))]))), (4, (.bool false)), (6, (.ref (.bx 6) 0 [] (.agg [(.int .i64 (d_2.1.length : Int)), (Enc.enc (d_2.2 : List (Int × Int)))]))), (7, (.ref (.bx 7) 0 [] (encO (.at 46 []) (.of (having_49.set e_55.toNat (ior .i64 e_56 q_57) : List Int))))), (8, (.int .i64 t50_26)), (48, (Enc.enc (d_2.1 : List (List Int)))), (49, (.int .i64 (d_2.1.length : Int))), (50, (.int .i64 t50_26)), (59, (Enc.enc (e_43 : List Int))), (60, (.int .i64 (e_43.length : Int))), (61, (.int .i64 t61_50))] ⟨(keep_mut h2 (mut_ref_ne rfl rfl (mut_agg (muts_cons rfl (muts_cons (Enc.mut_enc _ _ _ _ (g_1.2 : List (Int × Int))) rfl))))), (keep_mut h4 rfl), (keep_mut h6 (mut_ref_ne rfl rfl (mut_agg (muts_cons rfl (muts_cons (Enc.mut_enc _ _ _ _ (d_2.2 : List (Int × Int))) rfl))))), (keep_mut h7 (mut_ref_ne rfl rfl mut_own)), (keep_mut h8 rfl), (keep_mut h48 (Enc.mut_enc _ _ _ _ (d_2.1 : List (List Int)))), (keep_mut h49 rfl), (keep_mut h50 rfl), (keep_mut h59 (Enc.mut_enc _ _ _ _ (e_43 : List Int))), (keep_mut h60 rfl), (keep_mut h61 rfl)⟩ ?_
      rintro s ⟨h2, h4, h6, h7, h8, h48, h49, h50, h59, h60, h61⟩
      refine .nbk ?_
      refine .nsq ?_
      refine run_reg ?_
      refine e_end ?_
      refine g_v1 (t := 61) (u := (.int .i64 t61_50)) (.int .i64 (w64 (t61_50 + 1))) h61 rfl rfl ?_
      refine g_v1 (t := 73) (u := (.int .i64 (w64 (t61_50 + 1)))) (.int .i64 (w64 (t61_50 + 1))) rfl rfl rfl ?_
      refine g_end ?_
      refine e_end ?_
      refine renew [(2, (.ref (.bx 2) 0 [] (.agg [(.int .i64 g_1.1), (Enc.enc (g_1.2 : List (Int × Int)))]))), (4, (.bool false)), (6, (.ref (.bx 6) 0 [] (.agg [(.int .i64 (d_2.1.length : Int)), (Enc.enc (d_2.2 : List (Int × Int)))]))), (7, (.ref (.bx 7) 0 [] (encO (.at 46 []) (.of (having_49.set e_55.toNat (ior .i64 e_56 q_57) : List Int))))), (8, (.int .i64 t50_26)), (48, (Enc.enc (d_2.1 : List (List Int)))), (49, (.int .i64 (d_2.1.length : Int))), (50, (.int .i64 t50_26)), (59, (Enc.enc (e_43 : List Int))), (60, (.int .i64 (e_43.length : Int))), (61, (.int .i64 (w64 (t61_50 + 1))))] ⟨h2, h4, h6, h7, h8, h48, h49, h50, h59, h60, rfl⟩ ?_
      rintro s ⟨h2, h4, h6, h7, h8, h48, h49, h50, h59, h60, h61⟩
      refine .nlp ?_
      exact ih (having_49.set e_55.toNat (ior .i64 e_56 q_57)) (w64 (t61_50 + 1)) _ ⟨h2, h4, h6, h7, h8, h48, h49, h50, h59, h60, h61⟩ h
    · refine .exit ?_
      refine .esq ?_
      refine .elp ?_
      refine .ebk ?_
      refine .nbk ?_
      refine .nsq ?_
      refine run_reg ?_
      refine e_end ?_
      refine g_v1 (t := 50) (u := (.int .i64 t50_26)) (.int .i64 (w64 (t50_26 + 1))) h50 rfl rfl ?_
      refine g_v1 (t := 74) (u := (.int .i64 (w64 (t50_26 + 1)))) (.int .i64 (w64 (t50_26 + 1))) rfl rfl rfl ?_
      refine g_end ?_
      refine e_end ?_
      refine renew [(2, (.ref (.bx 2) 0 [] (.agg [(.int .i64 g_1.1), (Enc.enc (g_1.2 : List (Int × Int)))]))), (4, (.bool false)), (6, (.ref (.bx 6) 0 [] (.agg [(.int .i64 (d_2.1.length : Int)), (Enc.enc (d_2.2 : List (Int × Int)))]))), (7, (.ref (.bx 7) 0 [] (encO (.at 46 []) (.of (having_49 : List Int))))), (48, (Enc.enc (d_2.1 : List (List Int)))), (49, (.int .i64 (d_2.1.length : Int))), (50, (.int .i64 (w64 (t50_26 + 1))))] ⟨h2, h4, h6, h7, h48, h49, rfl⟩ ?_
      rintro s ⟨h2, h4, h6, h7, h48, h49, h50⟩
      refine .nlp ?_
      exact Hc1 having_49 (w64 (t50_26 + 1)) _ ⟨h2, h4, h6, h7, h48, h49, h50⟩ h
def i_isDecomposition_l2 (F : Nat) (g_1 : (Int × (List (Int × Int)))) (d_2 : ((List (List Int)) × (List (Int × Int))))  : Nat → (List Int) → Int → Option Bool
  | 0, _, _ => none
  | k + 1, having_25, t50_26 =>
    bif decide (t50_26 < (d_2.1.length : Int)) then
      (idx d_2.1 t50_26).bind fun e_43 =>
      (i_isSet F g_1 e_43).bind fun r_44 =>
      bif (!r_44) then
        some false
      else
        i_isDecomposition_l1 F g_1 d_2 t50_26 e_43 (i_isDecomposition_l2 F g_1 d_2 k) F having_25 0
    else
      (slices_ContainsFunc_of_i_isDecomposition_1 F having_25 (Cl.mk () ((Rf.mk ((d_2.1.length : Int), d_2.2) : (Rf (Int × (List (Int × Int))))), ()) : (Cl 100 Unit ((Rf (Int × (List (Int × Int)))) × Unit)))).bind fun r_59 =>
      bif r_59 then
        some false
      else
        (slices_ContainsFunc_2_int_2_int_of_i_isDecomposition_2 F g_1.2 (Cl.mk () ((Rf.mk having_25 : (Rf (List Int))), ()) : (Cl 101 Unit ((Rf (List Int)) × Unit)))).bind fun r_60 =>
        some (!r_60)
theorem t_f58_l2 (H : H58 D σ F) (g_1 : (Int × (List (Int × Int)))) (d_2 : ((List (List Int)) × (List (Int × Int))))  : ∀ (k : Nat) (having_25 : (List Int)) (t50_26 : Int) (s : Nat → V), Facts [(2, (.ref (.bx 2) 0 [] (.agg [(.int .i64 g_1.1), (Enc.enc (g_1.2 : List (Int × Int)))]))), (4, (.bool false)), (6, (.ref (.bx 6) 0 [] (.agg [(.int .i64 (d_2.1.length : Int)), (Enc.enc (d_2.2 : List (Int × Int)))]))), (7, (.ref (.bx 7) 0 [] (encO (.at 46 []) (.of (having_25 : List Int))))), (48, (Enc.enc (d_2.1 : List (List Int)))), (49, (.int .i64 (d_2.1.length : Int))), (50, (.int .i64 t50_26))] s → i_isDecomposition_l2 F g_1 d_2 k having_25 t50_26 = some r → Run D σ (R58 r) (.run A58_1 [.lp A58_1, .bk 0, .sq A58_14]) s := by
  intro k
  induction k with
  | zero => intro having_25 t50_26 s _ h; exact nomatch (h : (none : Option _) = some r)
  | succ k ih =>
    intro having_25 t50_26 s hs h
    rw [i_isDecomposition_l2] at h
    obtain ⟨h2, h4, h6, h7, h48, h49, h50⟩ := hs
    refine .seq ?_
    refine run_reg ?_
    refine e_end ?_
    refine g_v2 (t1 := 50) (t2 := 49) (u1 := (.int .i64 t50_26)) (u2 := (.int .i64 (d_2.1.length : Int))) (.bool (decide (t50_26 < (d_2.1.length : Int)))) h50 h49 rfl rfl ?_
    refine g_end ?_
    refine e_end ?_
    refine renew [(2, (.ref (.bx 2) 0 [] (.agg [(.int .i64 g_1.1), (Enc.enc (g_1.2 : List (Int × Int)))]))), (4, (.bool false)), (6, (.ref (.bx 6) 0 [] (.agg [(.int .i64 (d_2.1.length : Int)), (Enc.enc (d_2.2 : List (Int × Int)))]))), (7, (.ref (.bx 7) 0 [] (encO (.at 46 []) (.of (having_25 : List Int))))), (48, (Enc.enc (d_2.1 : List (List Int)))), (49, (.int .i64 (d_2.1.length : Int))), (50, (.int .i64 t50_26)), (51, (.bool (decide (t50_26 < (d_2.1.length : Int)))))] ⟨h2, h4, h6, h7, h48, h49, h50, rfl⟩ ?_
    rintro s ⟨h2, h4, h6, h7, h48, h49, h50, h51⟩
    refine .nsq ?_
    refine .seq ?_
    refine run_cond (t := decide (t50_26 < (d_2.1.length : Int))) h51 h (fun h => ?_) (fun h => ?_)
    · refine .skip ?_
      refine .nsq ?_
      refine .seq ?_
      refine .block ?_
      refine .seq ?_
      refine run_reg ?_
      refine e_end ?_
      refine g_v1 (t := 50) (u := (.int .i64 t50_26)) (.int .i64 t50_26) h50 rfl rfl ?_
      obtain ⟨e_43, E_e_43, h⟩ := bind_some h
      refine g_v (.ref .sh 0 [] (Enc.enc (e_43 : List Int))) (ev_idx (t := .sh) (lo := 0) (xs := d_2.1) h48 h50 E_e_43 rfl rfl) ?_
      refine g_v1 (t := 53) (u := (.ref .sh 0 [] (Enc.enc (e_43 : List Int)))) (Enc.enc (e_43 : List Int)) rfl rfl rfl ?_
      refine g_v1 (t := 52) (u := (.int .i64 t50_26)) (.int .i64 t50_26) rfl rfl rfl ?_
      refine g_v1 (t := 54) (u := (Enc.enc (e_43 : List Int))) (Enc.enc (e_43 : List Int)) rfl rfl rfl ?_
      refine g_end ?_
      refine e_end ?_
      refine renew [(2, (.ref (.bx 2) 0 [] (.agg [(.int .i64 g_1.1), (Enc.enc (g_1.2 : List (Int × Int)))]))), (4, (.bool false)), (6, (.ref (.bx 6) 0 [] (.agg [(.int .i64 (d_2.1.length : Int)), (Enc.enc (d_2.2 : List (Int × Int)))]))), (7, (.ref (.bx 7) 0 [] (encO (.at 46 []) (.of (having_25 : List Int))))), (8, (.int .i64 t50_26)), (9, (Enc.enc (e_43 : List Int))), (48, (Enc.enc (d_2.1 : List (List Int)))), (49, (.int .i64 (d_2.1.length : Int))), (50, (.int .i64 t50_26))] ⟨h2, h4, h6, h7, rfl, rfl, h48, h49, h50⟩ ?_
      rintro s ⟨h2, h4, h6, h7, h8, h9, h48, h49, h50⟩
      refine .nsq ?_
      refine .seq ?_
      refine .seq ?_
      refine run_reg ?_
      refine e_end ?_
      refine g_v1 (t := 2) (u := (.ref (.bx 2) 0 [] (.agg [(.int .i64 g_1.1), (Enc.enc (g_1.2 : List (Int × Int)))]))) (.agg [(.int .i64 g_1.1), (Enc.enc (g_1.2 : List (Int × Int)))]) h2 rfl rfl ?_
      refine g_v1 (t := 9) (u := (Enc.enc (e_43 : List Int))) (Enc.enc (e_43 : List Int)) h9 rfl rfl ?_
      obtain ⟨r_44, E_r_44, h⟩ := bind_some h
      refine g_call (m := 0) (al := false) (r := (Enc.enc (r_44 : Bool))) [Enc.enc (g_1 : (Int × (List (Int × Int)))), Enc.enc (e_43 : (List Int))] (ta_cons (v := (.agg [(.int .i64 g_1.1), (Enc.enc (g_1.2 : List (Int × Int)))])) rfl rfl (Enc.erase_enc (g_1 : (Int × (List (Int × Int))))) (ta_cons (v := (Enc.enc (e_43 : List Int))) rfl rfl (Enc.erase_enc (e_43 : (List Int))) ta_nil)) (H.c84 _ _ _ E_r_44) H.g84 rfl rfl rfl rfl ?_
      refine g_v1 (t := 57) (u := (.bool r_44)) (.bool (!r_44)) rfl rfl rfl ?_
      refine g_end ?_
      refine e_end ?_
      refine renew [(2, (.ref (.bx 2) 0 [] (.agg [(.int .i64 g_1.1), (Enc.enc (g_1.2 : List (Int × Int)))]))), (4, (.bool false)), (6, (.ref (.bx 6) 0 [] (.agg [(.int .i64 (d_2.1.length : Int)), (Enc.enc (d_2.2 : List (Int × Int)))]))), (7, (.ref (.bx 7) 0 [] (encO (.at 46 []) (.of (having_25 : List Int))))), (8, (.int .i64 t50_26)), (9, (Enc.enc (e_43 : List Int))), (48, (Enc.enc (d_2.1 : List (List Int)))), (49, (.int .i64 (d_2.1.length : Int))), (50, (.int .i64 t50_26)), (58, (.bool (!r_44)))] ⟨h2, h4, h6, h7, h8, h9, h48, h49, h50, rfl⟩ ?_
      rintro s ⟨h2, h4, h6, h7, h8, h9, h48, h49, h50, h58⟩
      refine .nsq ?_
      refine run_cond (t := (!r_44)) h58 h (fun h => ?_) (fun h => ?_)
      · refine .seq ?_
        refine run_reg ?_
        refine e_end ?_
        refine g_v0 (.bool false) rfl rfl ?_
        refine g_end ?_
        refine e_end ?_
        refine renew [(2, (.ref (.bx 2) 0 [] (.agg [(.int .i64 g_1.1), (Enc.enc (g_1.2 : List (Int × Int)))]))), (4, (.bool false)), (6, (.ref (.bx 6) 0 [] (.agg [(.int .i64 (d_2.1.length : Int)), (Enc.enc (d_2.2 : List (Int × Int)))]))), (7, (.ref (.bx 7) 0 [] (encO (.at 46 []) (.of (having_25 : List Int))))), (8, (.int .i64 t50_26)), (9, (Enc.enc (e_43 : List Int))), (48, (Enc.enc (d_2.1 : List (List Int)))), (49, (.int .i64 (d_2.1.length : Int))), (50, (.int .i64 t50_26))] ⟨h2, rfl, h6, h7, h8, h9, h48, h49, h50⟩ ?_
        rintro s ⟨h2, h4, h6, h7, h8, h9, h48, h49, h50⟩
        refine .nsq ?_
        refine .ret ?_
        have hr := Option.some.inj h
        subst hr
        exact rrA (res_tmp h4) rfl
      · refine .skip ?_
        refine .nsq ?_
        refine .seq ?_
        refine run_reg ?_
        refine e_end ?_
        refine g_v1 (t := 9) (u := (Enc.enc (e_43 : List Int))) (Enc.enc (e_43 : List Int)) h9 rfl rfl ?_
        refine g_v (.int .i64 (e_43.length : Int)) (ev_len (xs := e_43) rfl) ?_
        refine g_v0 (.int .i64 0) rfl rfl ?_
        refine g_end ?_
        refine e_end ?_
        refine renew [(2, (.ref (.bx 2) 0 [] (.agg [(.int .i64 g_1.1), (Enc.enc (g_1.2 : List (Int × Int)))]))), (4, (.bool false)), (6, (.ref (.bx 6) 0 [] (.agg [(.int .i64 (d_2.1.length : Int)), (Enc.enc (d_2.2 : List (Int × Int)))]))), (7, (.ref (.bx 7) 0 [] (encO (.at 46 []) (.of (having_25 : List Int))))), (8, (.int .i64 t50_26)), (48, (Enc.enc (d_2.1 : List (List Int)))), (49, (.int .i64 (d_2.1.length : Int))), (50, (.int .i64 t50_26)), (59, (Enc.enc (e_43 : List Int))), (60, (.int .i64 (e_43.length : Int))), (61, (.int .i64 0))] ⟨h2, h4, h6, h7, h8, h48, h49, h50, rfl, rfl, rfl⟩ ?_
        rintro s ⟨h2, h4, h6, h7, h8, h48, h49, h50, h59, h60, h61⟩
        refine .nsq ?_
        refine .block ?_
        refine .loop ?_
        exact t_f58_l1 H g_1 d_2 t50_26 e_43 (i_isDecomposition_l2 F g_1 d_2 k) ih F having_25 0 _ ⟨h2, h4, h6, h7, h8, h48, h49, h50, h59, h60, h61⟩ h
    · refine .exit ?_
      refine .esq ?_
      refine .elp ?_
      refine .ebk ?_
      refine .nsq ?_
      refine .seq ?_
      refine .seq ?_
      refine run_reg ?_
      refine e_end ?_
      refine g_v1 (t := 7) (u := (.ref (.bx 7) 0 [] (encO (.at 46 []) (.of (having_25 : List Int))))) (encO (.at 46 []) (.of (having_25 : List Int))) h7 rfl rfl ?_
      refine g_v1 (t := 6) (u := (.ref (.bx 6) 0 [] (.agg [(.int .i64 (d_2.1.length : Int)), (Enc.enc (d_2.2 : List (Int × Int)))]))) (.fn 100 [] [(.ref (.bx 6) 0 [] (.agg [(.int .i64 (d_2.1.length : Int)), (Enc.enc (d_2.2 : List (Int × Int)))]))]) h6 rfl rfl ?_
      obtain ⟨r_59, E_r_59, h⟩ := bind_some h
      refine g_call (m := 0) (al := false) (r := (Enc.enc (r_59 : Bool))) [Enc.enc (having_25 : (List Int)), Arg.arg ((Cl.mk () ((Rf.mk ((d_2.1.length : Int), d_2.2) : (Rf (Int × (List (Int × Int))))), ()) : (Cl 100 Unit ((Rf (Int × (List (Int × Int)))) × Unit))) : (Cl 100 Unit ((Rf (Int × (List (Int × Int)))) × Unit)))] (ta_cons (v := (encO (.at 46 []) (.of (having_25 : List Int)))) rfl rfl (erase_encO (o := .of having_25)) (ta_cons (v := (.fn 100 [] [(.ref (.bx 6) 0 [] (.agg [(.int .i64 (d_2.1.length : Int)), (Enc.enc (d_2.2 : List (Int × Int)))]))])) rfl rfl (erase_fn erases_nil (erases_cons (erase_ref (Enc.erase_enc (((d_2.1.length : Int), d_2.2) : (Int × (List (Int × Int)))))) erases_nil)) ta_nil)) (H.c99s1 _ _ _ E_r_59) H.g99s1 rfl rfl rfl rfl ?_
      refine g_end ?_
      refine e_end ?_
      refine renew [(2, (.ref (.bx 2) 0 [] (.agg [(.int .i64 g_1.1), (Enc.enc (g_1.2 : List (Int × Int)))]))), (4, (.bool false)), (7, (.ref (.bx 7) 0 [] (encO (.at 46 []) (.of (having_25 : List Int))))), (77, (.bool r_59))] ⟨h2, h4, h7, rfl⟩ ?_
      rintro s ⟨h2, h4, h7, h77⟩
      refine .nsq ?_
      refine run_cond (t := r_59) h77 h (fun h => ?_) (fun h => ?_)
      · refine .seq ?_
        refine run_reg ?_
        refine e_end ?_
        refine g_v0 (.bool false) rfl rfl ?_
        refine g_end ?_
        refine e_end ?_
        refine renew [(2, (.ref (.bx 2) 0 [] (.agg [(.int .i64 g_1.1), (Enc.enc (g_1.2 : List (Int × Int)))]))), (4, (.bool false)), (7, (.ref (.bx 7) 0 [] (encO (.at 46 []) (.of (having_25 : List Int)))))] ⟨h2, rfl, h7⟩ ?_
        rintro s ⟨h2, h4, h7⟩
        refine .nsq ?_
        refine .ret ?_
        have hr := Option.some.inj h
        subst hr
        exact rrA (res_tmp h4) rfl
      · refine .skip ?_
        refine .nsq ?_
        refine .seq ?_
        refine run_reg ?_
        refine e_end ?_
        refine g_v1 (t := 2) (u := (.ref (.bx 2) 0 [] (.agg [(.int .i64 g_1.1), (Enc.enc (g_1.2 : List (Int × Int)))]))) (.ref (.bx 2) 0 [1] (Enc.enc (g_1.2 : List (Int × Int)))) h2 rfl rfl ?_
        refine g_v1 (t := 78) (u := (.ref (.bx 2) 0 [1] (Enc.enc (g_1.2 : List (Int × Int))))) (Enc.enc (g_1.2 : List (Int × Int))) rfl rfl rfl ?_
        refine g_v1 (t := 7) (u := (.ref (.bx 7) 0 [] (encO (.at 46 []) (.of (having_25 : List Int))))) (.fn 101 [] [(.ref (.bx 7) 0 [] (encO (.at 46 []) (.of (having_25 : List Int))))]) h7 rfl rfl ?_
        obtain ⟨r_60, E_r_60, h⟩ := bind_some h
        refine g_call (m := 0) (al := false) (r := (Enc.enc (r_60 : Bool))) [Enc.enc (g_1.2 : (List (Int × Int))), Arg.arg ((Cl.mk () ((Rf.mk having_25 : (Rf (List Int))), ()) : (Cl 101 Unit ((Rf (List Int)) × Unit))) : (Cl 101 Unit ((Rf (List Int)) × Unit)))] (ta_cons (v := (Enc.enc (g_1.2 : List (Int × Int)))) rfl rfl (Enc.erase_enc (g_1.2 : (List (Int × Int)))) (ta_cons (v := (.fn 101 [] [(.ref (.bx 7) 0 [] (encO (.at 46 []) (.of (having_25 : List Int))))])) rfl rfl (erase_fn erases_nil (erases_cons (erase_ref (erase_encO (o := .of having_25))) erases_nil)) ta_nil)) (H.c86s1 _ _ _ E_r_60) H.g86s1 rfl rfl rfl rfl ?_
        refine g_v1 (t := 81) (u := (.bool r_60)) (.bool (!r_60)) rfl rfl rfl ?_
        refine g_v1 (t := 82) (u := (.bool (!r_60))) (.bool (!r_60)) rfl rfl rfl ?_
        refine g_end ?_
        refine e_end ?_
        refine renew [(4, (.bool (!r_60)))] rfl ?_
        rintro s h4
        refine .nsq ?_
        refine .ret ?_
        have hr := Option.some.inj h
        subst hr
        exact rrA (res_tmp h4) rfl
def i_isDecomposition_j1 (F : Nat) (g_1 : (Int × (List (Int × Int)))) (d_2 : ((List (List Int)) × (List (Int × Int))))  (t43_7 : Bool) : Option Bool :=
  bif t43_7 then
    some false
  else
    (mkN g_1.1 0).bind fun mk_8 =>
    i_isDecomposition_l2 F g_1 d_2 F mk_8 0
theorem t_f58_j1 (H : H58 D σ F) (g_1 : (Int × (List (Int × Int)))) (d_2 : ((List (List Int)) × (List (Int × Int))))  (t43_7 : Bool) (s : Nat → V) (hs : Facts [(2, (.ref (.bx 2) 0 [] (.agg [(.int .i64 g_1.1), (Enc.enc (g_1.2 : List (Int × Int)))]))), (3, (.ref (.bx 3) 0 [] (.agg [(Enc.enc (d_2.1 : List (List Int))), (Enc.enc (d_2.2 : List (Int × Int)))]))), (4, (.bool false)), (6, (.ref (.bx 6) 0 [] (.agg [(.int .i64 (d_2.1.length : Int)), (Enc.enc (d_2.2 : List (Int × Int)))]))), (43, (.bool t43_7))] s) (h : i_isDecomposition_j1 F g_1 d_2  t43_7 = some r) : Run D σ (R58 r) (.nrm [.sq A58_17, .sq A58_18]) s := by
  unfold i_isDecomposition_j1 at h
  obtain ⟨h2, h3, h4, h6, h43⟩ := hs
  refine .nsq ?_
  refine run_cond (t := t43_7) h43 h (fun h => ?_) (fun h => ?_)
  · refine .seq ?_
    refine run_reg ?_
    refine e_end ?_
    refine g_v0 (.bool false) rfl rfl ?_
    refine g_end ?_
    refine e_end ?_
    refine renew [(2, (.ref (.bx 2) 0 [] (.agg [(.int .i64 g_1.1), (Enc.enc (g_1.2 : List (Int × Int)))]))), (3, (.ref (.bx 3) 0 [] (.agg [(Enc.enc (d_2.1 : List (List Int))), (Enc.enc (d_2.2 : List (Int × Int)))]))), (4, (.bool false)), (6, (.ref (.bx 6) 0 [] (.agg [(.int .i64 (d_2.1.length : Int)), (Enc.enc (d_2.2 : List (Int × Int)))])))] ⟨h2, h3, rfl, h6⟩ ?_
    rintro s ⟨h2, h3, h4, h6⟩
    refine .nsq ?_
    refine .ret ?_
    have hr := Option.some.inj h
    subst hr
    exact rrA (res_tmp h4) rfl
  · refine .skip ?_
    refine .nsq ?_
    refine .seq ?_
    refine run_reg ?_
    refine e_clr ?_
    refine e_end ?_
    refine g_v1 (t := 2) (u := (.ref (.bx 2) 0 [] (.agg [(.int .i64 g_1.1), (Enc.enc (g_1.2 : List (Int × Int)))]))) (.ref (.bx 2) 0 [0] (.int .i64 g_1.1)) (keep_clear (s := s) (pk := [46, 7]) h2 rfl (map_bx rfl (map_agg (maps_cons rfl (maps_cons (Enc.map_enc _ (g_1.2 : List (Int × Int))) maps_nil))))) rfl rfl ?_
    refine g_v1 (t := 44) (u := (.ref (.bx 2) 0 [0] (.int .i64 g_1.1))) (.int .i64 g_1.1) rfl rfl rfl ?_
    obtain ⟨mk_8, E_mk_8, h⟩ := bind_some h
    refine g_mk (0 : Int) rfl rfl (gone_clear (s := s) (pk := [46, 7]) (t := 46) rfl) E_mk_8 ?_
    refine g_alloc (gone_clear (s := s) (pk := [46, 7]) (t := 7) rfl) ?_
    refine g_store (encO (.at 46 []) (.of (mk_8 : List Int))) (rd_of rfl rfl) (rd_of rfl rfl) (by refine ⟨by decide, by decide, rfl, rfl, rfl, ?_⟩; first | rfl | simp [V.toks, V.tokss, Enc.toks_enc]) ?_
    refine g_end ?_
    refine e_end ?_
    refine renew [(2, (.ref (.bx 2) 0 [] (.agg [(.int .i64 g_1.1), (Enc.enc (g_1.2 : List (Int × Int)))]))), (3, (.ref (.bx 3) 0 [] (.agg [(Enc.enc (d_2.1 : List (List Int))), (Enc.enc (d_2.2 : List (Int × Int)))]))), (4, (.bool false)), (6, (.ref (.bx 6) 0 [] (.agg [(.int .i64 (d_2.1.length : Int)), (Enc.enc (d_2.2 : List (Int × Int)))]))), (7, (.ref (.bx 7) 0 [] (encO (.at 46 []) (.of (mk_8 : List Int)))))] ⟨(keep_mut (keep_clear (s := s) (pk := [46, 7]) h2 rfl (map_bx rfl (map_agg (maps_cons rfl (maps_cons (Enc.map_enc _ (g_1.2 : List (Int × Int))) maps_nil))))) (mut_ref_ne rfl rfl (mut_agg (muts_cons rfl (muts_cons (Enc.mut_enc _ _ _ _ (g_1.2 : List (Int × Int))) rfl))))), (keep_mut (keep_clear (s := s) (pk := [46, 7]) h3 rfl (map_bx rfl (map_agg (maps_cons (Enc.map_enc _ (d_2.1 : List (List Int))) (maps_cons (Enc.map_enc _ (d_2.2 : List (Int × Int))) maps_nil))))) (mut_ref_ne rfl rfl (mut_agg (muts_cons (Enc.mut_enc _ _ _ _ (d_2.1 : List (List Int))) (muts_cons (Enc.mut_enc _ _ _ _ (d_2.2 : List (Int × Int))) rfl))))), (keep_mut (keep_clear (s := s) (pk := [46, 7]) h4 rfl rfl) rfl), (keep_mut (keep_clear (s := s) (pk := [46, 7]) h6 rfl (map_bx rfl (map_agg (maps_cons rfl (maps_cons (Enc.map_enc _ (d_2.2 : List (Int × Int))) maps_nil))))) (mut_ref_ne rfl rfl (mut_agg (muts_cons rfl (muts_cons (Enc.mut_enc _ _ _ _ (d_2.2 : List (Int × Int))) rfl))))), (keep_mut rfl rfl)⟩ ?_
    rintro s ⟨h2, h3, h4, h6, h7⟩
    refine .nsq ?_
    refine .seq ?_
    refine .seq ?_
    refine run_reg ?_
    refine e_end ?_
    refine g_v1 (t := 3) (u := (.ref (.bx 3) 0 [] (.agg [(Enc.enc (d_2.1 : List (List Int))), (Enc.enc (d_2.2 : List (Int × Int)))]))) (.ref (.bx 3) 0 [0] (Enc.enc (d_2.1 : List (List Int)))) h3 rfl rfl ?_
    refine g_v1 (t := 47) (u := (.ref (.bx 3) 0 [0] (Enc.enc (d_2.1 : List (List Int))))) (Enc.enc (d_2.1 : List (List Int))) rfl rfl rfl ?_
    refine g_v (.int .i64 (d_2.1.length : Int)) (ev_len (xs := d_2.1) rfl) ?_
    refine g_v0 (.int .i64 0) rfl rfl ?_
    refine g_end ?_
    refine e_end ?_
    refine renew [(2, (.ref (.bx 2) 0 [] (.agg [(.int .i64 g_1.1), (Enc.enc (g_1.2 : List (Int × Int)))]))), (4, (.bool false)), (6, (.ref (.bx 6) 0 [] (.agg [(.int .i64 (d_2.1.length : Int)), (Enc.enc (d_2.2 : List (Int × Int)))]))), (7, (.ref (.bx 7) 0 [] (encO (.at 46 []) (.of (mk_8 : List Int))))), (48, (Enc.enc (d_2.1 : List (List Int)))), (49, (.int .i64 (d_2.1.length : Int))), (50, (.int .i64 0))] ⟨h2, h4, h6, h7, rfl, rfl, rfl⟩ ?_
    rintro s ⟨h2, h4, h6, h7, h48, h49, h50⟩
    refine .nsq ?_
    refine .block ?_
    refine .loop ?_
    exact t_f58_l2 H g_1 d_2 F mk_8 0 _ ⟨h2, h4, h6, h7, h48, h49, h50⟩ h
def i_isDecomposition (F : Nat) (g_1 : (Int × (List (Int × Int)))) (d_2 : ((List (List Int)) × (List (Int × Int)))) : Option Bool :=
  bif ((d_2.1.length : Int) == 0) then
    i_isDecomposition_j1 F g_1 d_2 true
  else
    (i_IsGraph F ((d_2.1.length : Int), d_2.2)).bind fun r_61 =>
    bif (!r_61) then
      i_isDecomposition_j1 F g_1 d_2 true
    else
      bif ((d_2.2.length : Int) != (w64 ((d_2.1.length : Int) - 1))) then
        i_isDecomposition_j1 F g_1 d_2 true
      else
        (i_netOf F ((d_2.1.length : Int), d_2.2)).bind fun r_62 =>
        (shlI .i64 1 (d_2.1.length : Int)).bind fun q_63 =>
        (i_net_parts F r_62 (w64 (q_63 - 1))).bind fun r_64 =>
        i_isDecomposition_j1 F g_1 d_2 ((r_64.length : Int) != 1)
theorem t58 (H : H58 D σ F) (g_1 : (Int × (List (Int × Int)))) (d_2 : ((List (List Int)) × (List (Int × Int)))) (s : Nat → V) (hs : Facts [(0, (.agg [(.int .i64 g_1.1), (Enc.enc (g_1.2 : List (Int × Int)))])), (1, (.agg [(Enc.enc (d_2.1 : List (List Int))), (Enc.enc (d_2.2 : List (Int × Int)))]))] s) (h : i_isDecomposition F g_1 d_2 = some r) : Run D σ (R58 r) (.run A58 []) s := by
  unfold i_isDecomposition at h
  obtain ⟨h0, h1⟩ := hs
  refine .seq ?_
  refine run_reg ?_
  refine e_clr ?_
  refine e_end ?_
  refine g_box (.agg [(.int .i64 g_1.1), (Enc.enc (g_1.2 : List (Int × Int)))]) (rd_of (keep_clear (s := s) (pk := [2, 3]) h0 rfl (map_agg (maps_cons rfl (maps_cons (Enc.map_enc _ (g_1.2 : List (Int × Int))) maps_nil)))) rfl) (gone_clear (s := s) (pk := [2, 3]) (t := 2) rfl) rfl ?_
  refine g_box (.agg [(Enc.enc (d_2.1 : List (List Int))), (Enc.enc (d_2.2 : List (Int × Int)))]) (rd_of (keep_clear (s := s) (pk := [2, 3]) h1 rfl (map_agg (maps_cons (Enc.map_enc _ (d_2.1 : List (List Int))) (maps_cons (Enc.map_enc _ (d_2.2 : List (Int × Int))) maps_nil)))) rfl) (gone_clear (s := s) (pk := [2, 3]) (t := 3) rfl) rfl ?_
  refine g_v0 (.bool false) rfl rfl ?_
  refine g_end ?_
  refine e_end ?_
  refine renew [(2, (.ref (.bx 2) 0 [] (.agg [(.int .i64 g_1.1), (Enc.enc (g_1.2 : List (Int × Int)))]))), (3, (.ref (.bx 3) 0 [] (.agg [(Enc.enc (d_2.1 : List (List Int))), (Enc.enc (d_2.2 : List (Int × Int)))]))), (4, (.bool false))] ⟨rfl, rfl, rfl⟩ ?_
  rintro s ⟨h2, h3, h4⟩
  refine .nsq ?_
  refine .seq ?_
  refine run_reg ?_
  refine e_end ?_
  refine g_v1 (t := 3) (u := (.ref (.bx 3) 0 [] (.agg [(Enc.enc (d_2.1 : List (List Int))), (Enc.enc (d_2.2 : List (Int × Int)))]))) (.ref (.bx 3) 0 [0] (Enc.enc (d_2.1 : List (List Int)))) h3 rfl rfl ?_
  refine g_v1 (t := 12) (u := (.ref (.bx 3) 0 [0] (Enc.enc (d_2.1 : List (List Int))))) (Enc.enc (d_2.1 : List (List Int))) rfl rfl rfl ?_
  refine g_v (.int .i64 (d_2.1.length : Int)) (ev_len (xs := d_2.1) rfl) ?_
  refine g_v1 (t := 14) (u := (.int .i64 (d_2.1.length : Int))) (.int .i64 (d_2.1.length : Int)) rfl rfl rfl ?_
  refine g_end ?_
  refine e_end ?_
  refine renew [(2, (.ref (.bx 2) 0 [] (.agg [(.int .i64 g_1.1), (Enc.enc (g_1.2 : List (Int × Int)))]))), (3, (.ref (.bx 3) 0 [] (.agg [(Enc.enc (d_2.1 : List (List Int))), (Enc.enc (d_2.2 : List (Int × Int)))]))), (4, (.bool false)), (5, (.int .i64 (d_2.1.length : Int)))] ⟨h2, h3, h4, rfl⟩ ?_
  rintro s ⟨h2, h3, h4, h5⟩
  refine .nsq ?_
  refine .seq ?_
  refine run_reg ?_
  refine e_clr ?_
  refine e_end ?_
  refine g_v1 (t := 5) (u := (.int .i64 (d_2.1.length : Int))) (.int .i64 (d_2.1.length : Int)) (keep_clear (s := s) (pk := [6]) h5 rfl rfl) rfl rfl ?_
  refine g_v1 (t := 3) (u := (.ref (.bx 3) 0 [] (.agg [(Enc.enc (d_2.1 : List (List Int))), (Enc.enc (d_2.2 : List (Int × Int)))]))) (.ref (.bx 3) 0 [1] (Enc.enc (d_2.2 : List (Int × Int)))) (keep_clear (s := s) (pk := [6]) h3 rfl (map_bx rfl (map_agg (maps_cons (Enc.map_enc _ (d_2.1 : List (List Int))) (maps_cons (Enc.map_enc _ (d_2.2 : List (Int × Int))) maps_nil))))) rfl rfl ?_
  refine g_v1 (t := 16) (u := (.ref (.bx 3) 0 [1] (Enc.enc (d_2.2 : List (Int × Int))))) (Enc.enc (d_2.2 : List (Int × Int))) rfl rfl rfl ?_
  refine g_v2 (t1 := 15) (t2 := 17) (u1 := (.int .i64 (d_2.1.length : Int))) (u2 := (Enc.enc (d_2.2 : List (Int × Int)))) (.agg [(.int .i64 (d_2.1.length : Int)), (Enc.enc (d_2.2 : List (Int × Int)))]) rfl rfl rfl rfl ?_
  refine g_alloc (gone_clear (s := s) (pk := [6]) (t := 6) rfl) ?_
  refine g_store (.agg [(.int .i64 (d_2.1.length : Int)), (Enc.enc (d_2.2 : List (Int × Int)))]) (rd_of rfl rfl) (rd_of rfl rfl) (by refine ⟨by decide, by decide, rfl, rfl, rfl, ?_⟩; first | rfl | simp [V.toks, V.tokss, Enc.toks_enc]) ?_
  refine g_end ?_
  refine e_end ?_
  refine renew [(2, (.ref (.bx 2) 0 [] (.agg [(.int .i64 g_1.1), (Enc.enc (g_1.2 : List (Int × Int)))]))), (3, (.ref (.bx 3) 0 [] (.agg [(Enc.enc (d_2.1 : List (List Int))), (Enc.enc (d_2.2 : List (Int × Int)))]))), (4, (.bool false)), (5, (.int .i64 (d_2.1.length : Int))), (6, (.ref (.bx 6) 0 [] (.agg [(.int .i64 (d_2.1.length : Int)), (Enc.enc (d_2.2 : List (Int × Int)))])))] ⟨(keep_mut (keep_clear (s := s) (pk := [6]) h2 rfl (map_bx rfl (map_agg (maps_cons rfl (maps_cons (Enc.map_enc _ (g_1.2 : List (Int × Int))) maps_nil))))) (mut_ref_ne rfl rfl (mut_agg (muts_cons rfl (muts_cons (Enc.mut_enc _ _ _ _ (g_1.2 : List (Int × Int))) rfl))))), (keep_mut (keep_clear (s := s) (pk := [6]) h3 rfl (map_bx rfl (map_agg (maps_cons (Enc.map_enc _ (d_2.1 : List (List Int))) (maps_cons (Enc.map_enc _ (d_2.2 : List (Int × Int))) maps_nil))))) (mut_ref_ne rfl rfl (mut_agg (muts_cons (Enc.mut_enc _ _ _ _ (d_2.1 : List (List Int))) (muts_cons (Enc.mut_enc _ _ _ _ (d_2.2 : List (Int × Int))) rfl))))), (keep_mut (keep_clear (s := s) (pk := [6]) h4 rfl rfl) rfl), (keep_mut (keep_clear (s := s) (pk := [6]) h5 rfl rfl) rfl), (keep_mut rfl rfl)⟩ ?_
  rintro s ⟨h2, h3, h4, h5, h6⟩
  refine .nsq ?_
  refine .seq ?_
  refine .seq ?_
  refine run_reg ?_
  refine e_end ?_
  refine g_v1 (t := 5) (u := (.int .i64 (d_2.1.length : Int))) (.int .i64 (d_2.1.length : Int)) h5 rfl rfl ?_
  refine g_v1 (t := 19) (u := (.int .i64 (d_2.1.length : Int))) (.bool ((d_2.1.length : Int) == 0)) rfl rfl rfl ?_
  refine g_v1 (t := 20) (u := (.bool ((d_2.1.length : Int) == 0))) (.bool ((d_2.1.length : Int) == 0)) rfl rfl rfl ?_
  refine split_on (c := ((d_2.1.length : Int) == 0)) h (fun hg3 h => ?_) (fun hg3 h => ?_)
  · refine g_no (Eq.trans (b := .bool ((d_2.1.length : Int) == 0)) rfl (congrArg V.bool hg3)) ?_
    refine g_no (Eq.trans (b := .bool ((d_2.1.length : Int) == 0)) rfl (congrArg V.bool hg3)) ?_
    refine g_no (Eq.trans (b := .bool ((d_2.1.length : Int) == 0)) rfl (congrArg V.bool hg3)) ?_
    refine g_v2 (t1 := 21) (t2 := 24) (u1 := (.bool true)) (u2 := (.tup [])) (.bool true) (Eq.trans (b := .bool ((d_2.1.length : Int) == 0)) rfl (congrArg V.bool hg3)) rfl rfl rfl ?_
    refine g_v1 (t := 25) (u := (.bool true)) (.bool true) rfl rfl rfl ?_
    refine g_no rfl ?_
    refine g_no rfl ?_
    refine g_no rfl ?_
    refine g_no rfl ?_
    refine g_no rfl ?_
    refine g_no rfl ?_
    refine g_v2 (t1 := 26) (t2 := 32) (u1 := (.bool true)) (u2 := (.tup [])) (.bool true) rfl rfl rfl rfl ?_
    refine g_v1 (t := 33) (u := (.bool true)) (.bool true) rfl rfl rfl ?_
    refine g_no rfl ?_
    refine g_no rfl ?_
    refine g_no rfl ?_
    refine g_no rfl ?_
    refine g_no rfl ?_
    refine g_no rfl ?_
    refine g_no rfl ?_
    refine g_no rfl ?_
    refine g_v2 (t1 := 34) (t2 := 42) (u1 := (.bool true)) (u2 := (.tup [])) (.bool true) rfl rfl rfl rfl ?_
    refine g_end ?_
    refine e_end ?_
    refine renew [(2, (.ref (.bx 2) 0 [] (.agg [(.int .i64 g_1.1), (Enc.enc (g_1.2 : List (Int × Int)))]))), (3, (.ref (.bx 3) 0 [] (.agg [(Enc.enc (d_2.1 : List (List Int))), (Enc.enc (d_2.2 : List (Int × Int)))]))), (4, (.bool false)), (6, (.ref (.bx 6) 0 [] (.agg [(.int .i64 (d_2.1.length : Int)), (Enc.enc (d_2.2 : List (Int × Int)))]))), (43, (.bool true))] ⟨h2, h3, h4, h6, rfl⟩ ?_
    rintro s ⟨h2, h3, h4, h6, h43⟩
    exact t_f58_j1 H g_1 d_2 true _ ⟨h2, h3, h4, h6, h43⟩ h
  · refine g_yes (Eq.trans (b := .bool ((d_2.1.length : Int) == 0)) rfl (congrArg V.bool hg3)) (g_v1 (t := 6) (u := (.ref (.bx 6) 0 [] (.agg [(.int .i64 (d_2.1.length : Int)), (Enc.enc (d_2.2 : List (Int × Int)))]))) (.agg [(.int .i64 (d_2.1.length : Int)), (Enc.enc (d_2.2 : List (Int × Int)))]) h6 rfl rfl ?_)
    obtain ⟨r_61, E_r_61, h⟩ := bind_some h
    refine g_yes (Eq.trans (b := .bool ((d_2.1.length : Int) == 0)) rfl (congrArg V.bool hg3)) (g_call (m := 0) (al := false) (r := (Enc.enc (r_61 : Bool))) [Enc.enc (((d_2.1.length : Int), d_2.2) : (Int × (List (Int × Int))))] (ta_cons (v := (.agg [(.int .i64 (d_2.1.length : Int)), (Enc.enc (d_2.2 : List (Int × Int)))])) rfl rfl (Enc.erase_enc (((d_2.1.length : Int), d_2.2) : (Int × (List (Int × Int))))) ta_nil) (H.c53 _ _ E_r_61) H.g53 rfl rfl rfl rfl ?_)
    refine g_yes (Eq.trans (b := .bool ((d_2.1.length : Int) == 0)) rfl (congrArg V.bool hg3)) (g_v1 (t := 23) (u := (.bool r_61)) (.bool (!r_61)) rfl rfl rfl ?_)
    refine g_v2 (t1 := 21) (t2 := 24) (u1 := (.bool false)) (u2 := (.bool (!r_61))) (.bool (!r_61)) (Eq.trans (b := .bool ((d_2.1.length : Int) == 0)) rfl (congrArg V.bool hg3)) rfl rfl rfl ?_
    refine g_v1 (t := 25) (u := (.bool (!r_61))) (.bool (!r_61)) rfl rfl rfl ?_
    refine split_on (c := (!r_61)) h (fun hg8 h => ?_) (fun hg8 h => ?_)
    · refine g_no (Eq.trans (b := .bool (!r_61)) rfl (congrArg V.bool hg8)) ?_
      refine g_no (Eq.trans (b := .bool (!r_61)) rfl (congrArg V.bool hg8)) ?_
      refine g_no (Eq.trans (b := .bool (!r_61)) rfl (congrArg V.bool hg8)) ?_
      refine g_no (Eq.trans (b := .bool (!r_61)) rfl (congrArg V.bool hg8)) ?_
      refine g_no (Eq.trans (b := .bool (!r_61)) rfl (congrArg V.bool hg8)) ?_
      refine g_no (Eq.trans (b := .bool (!r_61)) rfl (congrArg V.bool hg8)) ?_
      refine g_v2 (t1 := 26) (t2 := 32) (u1 := (.bool true)) (u2 := (.tup [])) (.bool true) (Eq.trans (b := .bool (!r_61)) rfl (congrArg V.bool hg8)) rfl rfl rfl ?_
      refine g_v1 (t := 33) (u := (.bool true)) (.bool true) rfl rfl rfl ?_
      refine g_no rfl ?_
      refine g_no rfl ?_
      refine g_no rfl ?_
      refine g_no rfl ?_
      refine g_no rfl ?_
      refine g_no rfl ?_
      refine g_no rfl ?_
      refine g_no rfl ?_
      refine g_v2 (t1 := 34) (t2 := 42) (u1 := (.bool true)) (u2 := (.tup [])) (.bool true) rfl rfl rfl rfl ?_
      refine g_end ?_
      refine e_end ?_
      refine renew [(2, (.ref (.bx 2) 0 [] (.agg [(.int .i64 g_1.1), (Enc.enc (g_1.2 : List (Int × Int)))]))), (3, (.ref (.bx 3) 0 [] (.agg [(Enc.enc (d_2.1 : List (List Int))), (Enc.enc (d_2.2 : List (Int × Int)))]))), (4, (.bool false)), (6, (.ref (.bx 6) 0 [] (.agg [(.int .i64 (d_2.1.length : Int)), (Enc.enc (d_2.2 : List (Int × Int)))]))), (43, (.bool true))] ⟨h2, h3, h4, h6, rfl⟩ ?_
      rintro s ⟨h2, h3, h4, h6, h43⟩
      exact t_f58_j1 H g_1 d_2 true _ ⟨h2, h3, h4, h6, h43⟩ h
    · refine g_yes (Eq.trans (b := .bool (!r_61)) rfl (congrArg V.bool hg8)) (g_v1 (t := 3) (u := (.ref (.bx 3) 0 [] (.agg [(Enc.enc (d_2.1 : List (List Int))), (Enc.enc (d_2.2 : List (Int × Int)))]))) (.ref (.bx 3) 0 [1] (Enc.enc (d_2.2 : List (Int × Int)))) h3 rfl rfl ?_)
      refine g_yes (Eq.trans (b := .bool (!r_61)) rfl (congrArg V.bool hg8)) (g_v1 (t := 27) (u := (.ref (.bx 3) 0 [1] (Enc.enc (d_2.2 : List (Int × Int))))) (Enc.enc (d_2.2 : List (Int × Int))) rfl rfl rfl ?_)
      refine g_yes (Eq.trans (b := .bool (!r_61)) rfl (congrArg V.bool hg8)) (g_v (.int .i64 (d_2.2.length : Int)) (ev_len (xs := d_2.2) rfl) ?_)
      refine g_yes (Eq.trans (b := .bool (!r_61)) rfl (congrArg V.bool hg8)) (g_v1 (t := 5) (u := (.int .i64 (d_2.1.length : Int))) (.int .i64 (d_2.1.length : Int)) h5 rfl rfl ?_)
      refine g_yes (Eq.trans (b := .bool (!r_61)) rfl (congrArg V.bool hg8)) (g_v1 (t := 30) (u := (.int .i64 (d_2.1.length : Int))) (.int .i64 (w64 ((d_2.1.length : Int) - 1))) rfl rfl rfl ?_)
      refine g_yes (Eq.trans (b := .bool (!r_61)) rfl (congrArg V.bool hg8)) (g_v2 (t1 := 29) (t2 := 31) (u1 := (.int .i64 (d_2.2.length : Int))) (u2 := (.int .i64 (w64 ((d_2.1.length : Int) - 1)))) (.bool ((d_2.2.length : Int) != (w64 ((d_2.1.length : Int) - 1)))) rfl rfl rfl rfl ?_)
      refine g_v2 (t1 := 26) (t2 := 32) (u1 := (.bool false)) (u2 := (.bool ((d_2.2.length : Int) != (w64 ((d_2.1.length : Int) - 1))))) (.bool ((d_2.2.length : Int) != (w64 ((d_2.1.length : Int) - 1)))) (Eq.trans (b := .bool (!r_61)) rfl (congrArg V.bool hg8)) rfl rfl rfl ?_
      refine g_v1 (t := 33) (u := (.bool ((d_2.2.length : Int) != (w64 ((d_2.1.length : Int) - 1))))) (.bool ((d_2.2.length : Int) != (w64 ((d_2.1.length : Int) - 1)))) rfl rfl rfl ?_
      refine split_on (c := ((d_2.2.length : Int) != (w64 ((d_2.1.length : Int) - 1)))) h (fun hg16 h => ?_) (fun hg16 h => ?_)
      · refine g_no (Eq.trans (b := .bool ((d_2.2.length : Int) != (w64 ((d_2.1.length : Int) - 1)))) rfl (congrArg V.bool hg16)) ?_
        refine g_no (Eq.trans (b := .bool ((d_2.2.length : Int) != (w64 ((d_2.1.length : Int) - 1)))) rfl (congrArg V.bool hg16)) ?_
        refine g_no (Eq.trans (b := .bool ((d_2.2.length : Int) != (w64 ((d_2.1.length : Int) - 1)))) rfl (congrArg V.bool hg16)) ?_
        refine g_no (Eq.trans (b := .bool ((d_2.2.length : Int) != (w64 ((d_2.1.length : Int) - 1)))) rfl (congrArg V.bool hg16)) ?_
        refine g_no (Eq.trans (b := .bool ((d_2.2.length : Int) != (w64 ((d_2.1.length : Int) - 1)))) rfl (congrArg V.bool hg16)) ?_
        refine g_no (Eq.trans (b := .bool ((d_2.2.length : Int) != (w64 ((d_2.1.length : Int) - 1)))) rfl (congrArg V.bool hg16)) ?_
        refine g_no (Eq.trans (b := .bool ((d_2.2.length : Int) != (w64 ((d_2.1.length : Int) - 1)))) rfl (congrArg V.bool hg16)) ?_
        refine g_no (Eq.trans (b := .bool ((d_2.2.length : Int) != (w64 ((d_2.1.length : Int) - 1)))) rfl (congrArg V.bool hg16)) ?_
        refine g_v2 (t1 := 34) (t2 := 42) (u1 := (.bool true)) (u2 := (.tup [])) (.bool true) (Eq.trans (b := .bool ((d_2.2.length : Int) != (w64 ((d_2.1.length : Int) - 1)))) rfl (congrArg V.bool hg16)) rfl rfl rfl ?_
        refine g_end ?_
        refine e_end ?_
        refine renew [(2, (.ref (.bx 2) 0 [] (.agg [(.int .i64 g_1.1), (Enc.enc (g_1.2 : List (Int × Int)))]))), (3, (.ref (.bx 3) 0 [] (.agg [(Enc.enc (d_2.1 : List (List Int))), (Enc.enc (d_2.2 : List (Int × Int)))]))), (4, (.bool false)), (6, (.ref (.bx 6) 0 [] (.agg [(.int .i64 (d_2.1.length : Int)), (Enc.enc (d_2.2 : List (Int × Int)))]))), (43, (.bool true))] ⟨h2, h3, h4, h6, rfl⟩ ?_
        rintro s ⟨h2, h3, h4, h6, h43⟩
        exact t_f58_j1 H g_1 d_2 true _ ⟨h2, h3, h4, h6, h43⟩ h
      · refine g_yes (Eq.trans (b := .bool ((d_2.2.length : Int) != (w64 ((d_2.1.length : Int) - 1)))) rfl (congrArg V.bool hg16)) (g_v1 (t := 6) (u := (.ref (.bx 6) 0 [] (.agg [(.int .i64 (d_2.1.length : Int)), (Enc.enc (d_2.2 : List (Int × Int)))]))) (.agg [(.int .i64 (d_2.1.length : Int)), (Enc.enc (d_2.2 : List (Int × Int)))]) h6 rfl rfl ?_)
        obtain ⟨r_62, E_r_62, h⟩ := bind_some h
        refine g_yes (Eq.trans (b := .bool ((d_2.2.length : Int) != (w64 ((d_2.1.length : Int) - 1)))) rfl (congrArg V.bool hg16)) (g_call (m := 0) (al := false) (r := (Enc.enc (r_62 : (S1 (List Int))))) [Enc.enc (((d_2.1.length : Int), d_2.2) : (Int × (List (Int × Int))))] (ta_cons (v := (.agg [(.int .i64 (d_2.1.length : Int)), (Enc.enc (d_2.2 : List (Int × Int)))])) rfl rfl (Enc.erase_enc (((d_2.1.length : Int), d_2.2) : (Int × (List (Int × Int))))) ta_nil) (H.c67 _ _ E_r_62) H.g67 rfl rfl rfl rfl ?_)
        refine g_yes (Eq.trans (b := .bool ((d_2.2.length : Int) != (w64 ((d_2.1.length : Int) - 1)))) rfl (congrArg V.bool hg16)) (g_v1 (t := 5) (u := (.int .i64 (d_2.1.length : Int))) (.int .i64 (d_2.1.length : Int)) h5 rfl rfl ?_)
        obtain ⟨q_63, E_q_63, h⟩ := bind_some h
        refine g_yes (Eq.trans (b := .bool ((d_2.2.length : Int) != (w64 ((d_2.1.length : Int) - 1)))) rfl (congrArg V.bool hg16)) (g_v (.int .i64 q_63) (ev_shl rfl rfl E_q_63) ?_)
        refine g_yes (Eq.trans (b := .bool ((d_2.2.length : Int) != (w64 ((d_2.1.length : Int) - 1)))) rfl (congrArg V.bool hg16)) (g_v1 (t := 38) (u := (.int .i64 q_63)) (.int .i64 (w64 (q_63 - 1))) rfl rfl rfl ?_)
        obtain ⟨r_64, E_r_64, h⟩ := bind_some h
        refine g_yes (Eq.trans (b := .bool ((d_2.2.length : Int) != (w64 ((d_2.1.length : Int) - 1)))) rfl (congrArg V.bool hg16)) (g_call (m := 0) (al := false) (r := (Enc.enc (r_64 : (List Int)))) [Enc.enc (r_62 : (S1 (List Int))), Enc.enc (w64 (q_63 - 1) : Int)] (ta_cons (v := (.agg [(Enc.enc (r_62.a : List Int))])) rfl rfl (Enc.erase_enc (r_62 : (S1 (List Int)))) (ta_cons (v := (.int .i64 (w64 (q_63 - 1)))) rfl rfl rfl ta_nil)) (H.c92 _ _ _ E_r_64) H.g92 rfl rfl rfl rfl ?_)
        refine g_yes (Eq.trans (b := .bool ((d_2.2.length : Int) != (w64 ((d_2.1.length : Int) - 1)))) rfl (congrArg V.bool hg16)) (g_v (.int .i64 (r_64.length : Int)) (ev_len (xs := r_64) rfl) ?_)
        refine g_yes (Eq.trans (b := .bool ((d_2.2.length : Int) != (w64 ((d_2.1.length : Int) - 1)))) rfl (congrArg V.bool hg16)) (g_v1 (t := 41) (u := (.int .i64 (r_64.length : Int))) (.bool ((r_64.length : Int) != 1)) rfl rfl rfl ?_)
        refine g_v2 (t1 := 34) (t2 := 42) (u1 := (.bool false)) (u2 := (.bool ((r_64.length : Int) != 1))) (.bool ((r_64.length : Int) != 1)) (Eq.trans (b := .bool ((d_2.2.length : Int) != (w64 ((d_2.1.length : Int) - 1)))) rfl (congrArg V.bool hg16)) rfl rfl rfl ?_
        refine g_end ?_
        refine e_end ?_
        refine renew [(2, (.ref (.bx 2) 0 [] (.agg [(.int .i64 g_1.1), (Enc.enc (g_1.2 : List (Int × Int)))]))), (3, (.ref (.bx 3) 0 [] (.agg [(Enc.enc (d_2.1 : List (List Int))), (Enc.enc (d_2.2 : List (Int × Int)))]))), (4, (.bool false)), (6, (.ref (.bx 6) 0 [] (.agg [(.int .i64 (d_2.1.length : Int)), (Enc.enc (d_2.2 : List (Int × Int)))]))), (43, (.bool ((r_64.length : Int) != 1)))] ⟨h2, h3, h4, h6, rfl⟩ ?_
        rintro s ⟨h2, h3, h4, h6, h43⟩
        exact t_f58_j1 H g_1 d_2 ((r_64.length : Int) != 1) _ ⟨h2, h3, h4, h6, h43⟩ h
end
def e58 (F : Nat) : Ent := ⟨58, da (fun (x : ((Int × (List (Int × Int))) × ((List (List Int)) × (List (Int × Int))) × Unit)) => i_isDecomposition F x.1 x.2.1) (fun (r : Bool) => (Enc.enc (r : Bool))), 0, false, selF []⟩
theorem p58 {F : Nat} {x0 : (Int × (List (Int × Int)))} {x1 : ((List (List Int)) × (List (Int × Int)))} {r : Bool} (h : i_isDecomposition F x0 x1 = some r) : (e58 F).den [Enc.enc x0, Enc.enc x1] = some (Enc.enc (r : Bool)) := da_put (f := fun (x : ((Int × (List (Int × Int))) × ((List (List Int)) × (List (Int × Int))) × Unit)) => i_isDecomposition F x.1 x.2.1) (t := fun (r : Bool) => (Enc.enc (r : Bool))) (x0, x1, ()) h
theorem o58 {D : Den} {σ : Sig} {F : Nat} (hF : Fits2 Try.prog D σ) (H : H58 D σ F) : (e58 F).Ok Try.prog := by
  refine ⟨fun args r h => ?_, ⟨Try.f58, Try.func58, rfl, rfl⟩⟩
  obtain ⟨⟨x0, x1, _⟩, y, rfl, hy, rfl⟩ := da_open h
  exact contract_run hF (by kernel_rfl) Try.func58 rfl c58 (show 2 ≤ Try.f58.ntmps by decide) (t58 H x0 x1 _ ⟨rfl, rfl⟩ hy)
/- loop.example/g01109/impl.IsDecomposition -/
def A30_2 : AC := (AC.cond (O.t 8) (AC.seq (AC.reg [] [(I.mk (some 4) none false (X.v (A.mov (O.k (V.bool false))))), (I.mk (some 5) none false (X.v (A.mov (O.k (V.bool false)))))] []) AC.ret) AC.skip)
def A30_3 : AC := (AC.seq (AC.reg [] [(I.mk (some 9) none false (X.v (A.load (Sh.ag [Sh.s, Sh.p]) (O.t 2)))), (I.mk (some 10) none false (X.v (A.load (Sh.ag [Sh.p, Sh.p]) (O.t 3)))), (I.mk (some 11) none false (X.call (O.k (V.fn 58 [] [])) [(O.t 9), (O.t 10)])), (I.mk (some 4) none false (X.v (A.mov (O.t 11)))), (I.mk (some 5) none false (X.v (A.mov (O.k (V.bool true)))))] []) AC.ret)
def A30_1 : AC := (AC.seq (AC.seq (AC.reg [] [(I.mk (some 6) none false (X.v (A.load (Sh.ag [Sh.s, Sh.p]) (O.t 2)))), (I.mk (some 7) none false (X.call (O.k (V.fn 53 [] [])) [(O.t 6)])), (I.mk (some 8) none false (X.v (A.un UnOp.not (O.t 7))))] []) A30_2) A30_3)
def A30 : AC := (AC.seq (AC.reg [.clr [2, 3]] [(I.mk (some 2) none false (X.box (O.t 0))), (I.mk (some 3) none false (X.box (O.t 1))), (I.mk (some 4) none false (X.v (A.mov (O.k (V.bool false))))), (I.mk (some 5) none false (X.v (A.mov (O.k (V.bool false)))))] []) A30_1)
def an30 : List An := [{ id := 0, pre := [.clr [2, 3]], ep := [], lin := [], sp := [] }]
theorem c30 : cC Try.prog Try.f30.ntmps an30 (Try.f30.body.getD .skip) = some A30 := by kernel_rfl
structure H30 (D : Den) (σ : Sig) (F : Nat) : Prop where
  c53 : ∀ (x0 : (Int × (List (Int × Int)))) r, i_IsGraph F x0 = some r → D 53 [Enc.enc x0] = some (Enc.enc (r : Bool))
  g53 : σ 53 = some (0, false)
  c58 : ∀ (x0 : (Int × (List (Int × Int)))) (x1 : ((List (List Int)) × (List (Int × Int)))) r, i_isDecomposition F x0 x1 = some r → D 58 [Enc.enc x0, Enc.enc x1] = some (Enc.enc (r : Bool))
  g58 : σ 58 = some (0, false)
abbrev R30 (r : (Bool × Bool)) : (Nat → V) → Prop := RR Try.prog [.tmp 4, .tmp 5] 0 false (.tup [Enc.enc (r.1 : Bool), Enc.enc (r.2 : Bool)])
section
variable {D : Den} {σ : Sig} {F : Nat} {r : (Bool × Bool)}
def i_IsDecomposition (F : Nat) (g_1 : (Int × (List (Int × Int)))) (d_2 : ((List (List Int)) × (List (Int × Int)))) : Option (Bool × Bool) :=
  (i_IsGraph F g_1).bind fun r_3 =>
  bif (!r_3) then
    some (false, false)
  else
    (i_isDecomposition F g_1 d_2).bind fun r_4 =>
    some (r_4, true)
theorem t30 (H : H30 D σ F) (g_1 : (Int × (List (Int × Int)))) (d_2 : ((List (List Int)) × (List (Int × Int)))) (s : Nat → V) (hs : Facts [(0, (.agg [(.int .i64 g_1.1), (Enc.enc (g_1.2 : List (Int × Int)))])), (1, (.agg [(Enc.enc (d_2.1 : List (List Int))), (Enc.enc (d_2.2 : List (Int × Int)))]))] s) (h : i_IsDecomposition F g_1 d_2 = some r) : Run D σ (R30 r) (.run A30 []) s := by
  unfold i_IsDecomposition at h
  obtain ⟨h0, h1⟩ := hs
  refine .seq ?_
  refine run_reg ?_
  refine e_clr ?_
  refine e_end ?_
  refine g_box (.agg [(.int .i64 g_1.1), (Enc.enc (g_1.2 : List (Int × Int)))]) (rd_of (keep_clear (s := s) (pk := [2, 3]) h0 rfl (map_agg (maps_cons rfl (maps_cons (Enc.map_enc _ (g_1.2 : List (Int × Int))) maps_nil)))) rfl) (gone_clear (s := s) (pk := [2, 3]) (t := 2) rfl) rfl ?_
  refine g_box (.agg [(Enc.enc (d_2.1 : List (List Int))), (Enc.enc (d_2.2 : List (Int × Int)))]) (rd_of (keep_clear (s := s) (pk := [2, 3]) h1 rfl (map_agg (maps_cons (Enc.map_enc _ (d_2.1 : List (List Int))) (maps_cons (Enc.map_enc _ (d_2.2 : List (Int × Int))) maps_nil)))) rfl) (gone_clear (s := s) (pk := [2, 3]) (t := 3) rfl) rfl ?_
  refine g_v0 (.bool false) rfl rfl ?_
  refine g_v0 (.bool false) rfl rfl ?_
  refine g_end ?_
  refine e_end ?_
  refine renew [(2, (.ref (.bx 2) 0 [] (.agg [(.int .i64 g_1.1), (Enc.enc (g_1.2 : List (Int × Int)))]))), (3, (.ref (.bx 3) 0 [] (.agg [(Enc.enc (d_2.1 : List (List Int))), (Enc.enc (d_2.2 : List (Int × Int)))]))), (4, (.bool false)), (5, (.bool false))] ⟨rfl, rfl, rfl, rfl⟩ ?_
  rintro s ⟨h2, h3, h4, h5⟩
  refine .nsq ?_
  refine .seq ?_
  refine .seq ?_
  refine run_reg ?_
  refine e_end ?_
  refine g_v1 (t := 2) (u := (.ref (.bx 2) 0 [] (.agg [(.int .i64 g_1.1), (Enc.enc (g_1.2 : List (Int × Int)))]))) (.agg [(.int .i64 g_1.1), (Enc.enc (g_1.2 : List (Int × Int)))]) h2 rfl rfl ?_
  obtain ⟨r_3, E_r_3, h⟩ := bind_some h
  refine g_call (m := 0) (al := false) (r := (Enc.enc (r_3 : Bool))) [Enc.enc (g_1 : (Int × (List (Int × Int))))] (ta_cons (v := (.agg [(.int .i64 g_1.1), (Enc.enc (g_1.2 : List (Int × Int)))])) rfl rfl (Enc.erase_enc (g_1 : (Int × (List (Int × Int))))) ta_nil) (H.c53 _ _ E_r_3) H.g53 rfl rfl rfl rfl ?_
  refine g_v1 (t := 7) (u := (.bool r_3)) (.bool (!r_3)) rfl rfl rfl ?_
  refine g_end ?_
  refine e_end ?_
  refine renew [(2, (.ref (.bx 2) 0 [] (.agg [(.int .i64 g_1.1), (Enc.enc (g_1.2 : List (Int × Int)))]))), (3, (.ref (.bx 3) 0 [] (.agg [(Enc.enc (d_2.1 : List (List Int))), (Enc.enc (d_2.2 : List (Int × Int)))]))), (4, (.bool false)), (5, (.bool false)), (8, (.bool (!r_3)))] ⟨h2, h3, h4, h5, rfl⟩ ?_
  rintro s ⟨h2, h3, h4, h5, h8⟩
  refine .nsq ?_
  refine run_cond (t := (!r_3)) h8 h (fun h => ?_) (fun h => ?_)
  · refine .seq ?_
    refine run_reg ?_
    refine e_end ?_
    refine g_v0 (.bool false) rfl rfl ?_
    refine g_v0 (.bool false) rfl rfl ?_
    refine g_end ?_
    refine e_end ?_
    refine renew [(2, (.ref (.bx 2) 0 [] (.agg [(.int .i64 g_1.1), (Enc.enc (g_1.2 : List (Int × Int)))]))), (3, (.ref (.bx 3) 0 [] (.agg [(Enc.enc (d_2.1 : List (List Int))), (Enc.enc (d_2.2 : List (Int × Int)))]))), (4, (.bool false)), (5, (.bool false))] ⟨h2, h3, rfl, rfl⟩ ?_
    rintro s ⟨h2, h3, h4, h5⟩
    refine .nsq ?_
    refine .ret ?_
    have hr := Option.some.inj h
    subst hr
    exact rrB (res_tmp h4) (res_tmp h5) rfl
  · refine .skip ?_
    refine .nsq ?_
    refine .seq ?_
    refine run_reg ?_
    refine e_end ?_
    refine g_v1 (t := 2) (u := (.ref (.bx 2) 0 [] (.agg [(.int .i64 g_1.1), (Enc.enc (g_1.2 : List (Int × Int)))]))) (.agg [(.int .i64 g_1.1), (Enc.enc (g_1.2 : List (Int × Int)))]) h2 rfl rfl ?_
    refine g_v1 (t := 3) (u := (.ref (.bx 3) 0 [] (.agg [(Enc.enc (d_2.1 : List (List Int))), (Enc.enc (d_2.2 : List (Int × Int)))]))) (.agg [(Enc.enc (d_2.1 : List (List Int))), (Enc.enc (d_2.2 : List (Int × Int)))]) h3 rfl rfl ?_
    obtain ⟨r_4, E_r_4, h⟩ := bind_some h
    refine g_call (m := 0) (al := false) (r := (Enc.enc (r_4 : Bool))) [Enc.enc (g_1 : (Int × (List (Int × Int)))), Enc.enc (d_2 : ((List (List Int)) × (List (Int × Int))))] (ta_cons (v := (.agg [(.int .i64 g_1.1), (Enc.enc (g_1.2 : List (Int × Int)))])) rfl rfl (Enc.erase_enc (g_1 : (Int × (List (Int × Int))))) (ta_cons (v := (.agg [(Enc.enc (d_2.1 : List (List Int))), (Enc.enc (d_2.2 : List (Int × Int)))])) rfl rfl (Enc.erase_enc (d_2 : ((List (List Int)) × (List (Int × Int))))) ta_nil)) (H.c58 _ _ _ E_r_4) H.g58 rfl rfl rfl rfl ?_
    refine g_v1 (t := 11) (u := (.bool r_4)) (.bool r_4) rfl rfl rfl ?_
    refine g_v0 (.bool true) rfl rfl ?_
    refine g_end ?_
    refine e_end ?_
    refine renew [(4, (.bool r_4)), (5, (.bool true))] ⟨rfl, rfl⟩ ?_
    rintro s ⟨h4, h5⟩
    refine .nsq ?_
    refine .ret ?_
    have hr := Option.some.inj h
    subst hr
    exact rrB (res_tmp h4) (res_tmp h5) rfl
end
def e30 (F : Nat) : Ent := ⟨30, da (fun (x : ((Int × (List (Int × Int))) × ((List (List Int)) × (List (Int × Int))) × Unit)) => i_IsDecomposition F x.1 x.2.1) (fun (r : (Bool × Bool)) => (.tup [Enc.enc (r.1 : Bool), Enc.enc (r.2 : Bool)])), 0, false, selF []⟩
theorem p30 {F : Nat} {x0 : (Int × (List (Int × Int)))} {x1 : ((List (List Int)) × (List (Int × Int)))} {r : (Bool × Bool)} (h : i_IsDecomposition F x0 x1 = some r) : (e30 F).den [Enc.enc x0, Enc.enc x1] = some (.tup [Enc.enc (r.1 : Bool), Enc.enc (r.2 : Bool)]) := da_put (f := fun (x : ((Int × (List (Int × Int))) × ((List (List Int)) × (List (Int × Int))) × Unit)) => i_IsDecomposition F x.1 x.2.1) (t := fun (r : (Bool × Bool)) => (.tup [Enc.enc (r.1 : Bool), Enc.enc (r.2 : Bool)])) (x0, x1, ()) h
theorem o30 {D : Den} {σ : Sig} {F : Nat} (hF : Fits2 Try.prog D σ) (H : H30 D σ F) : (e30 F).Ok Try.prog := by
  refine ⟨fun args r h => ?_, ⟨Try.f30, Try.func30, rfl, rfl⟩⟩
  obtain ⟨⟨x0, x1, _⟩, y, rfl, hy, rfl⟩ := da_open h
  exact contract_run hF (by kernel_rfl) Try.func30 rfl c30 (show 2 ≤ Try.f30.ntmps by decide) (t30 H x0 x1 _ ⟨rfl, rfl⟩ hy)
end Go.Zq
