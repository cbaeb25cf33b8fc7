/- Functions of the program as typed functions, and that the machine runs as they say (part 3). No further condition. -/
import Derived.Test.YtodihaaheneikaaK2
import Derived.Test.YtodihaaheneikaaProg
import Derived.Test.YtodihaaheneikaaChecked
import Derived.KernelRfl
import Derived.Test.YtodihaaheneikaaG2
set_option linter.unusedVariables false
set_option linter.unusedSimpArgs false
/- Functions of the program, as typed functions, and that the machine runs as they say. -/
namespace Go.Zq
open Go.Proofs
/- loop.example/g01109/impl.IsGraph -/
def A53_5 : AC := (AC.cond (O.t 48) (AC.seq (AC.reg [] [(I.mk (some 2) none false (X.v (A.mov (O.k (V.bool false)))))] []) AC.ret) AC.skip)
def A53_4 : AC := (AC.seq (AC.reg [] [(I.mk (some 17) none false (X.v (A.idxA (O.t 4) (O.k (V.int IntKind.i64 (Int.ofNat 0))) 2 1))), (I.mk (some 18) none false (X.v (A.load Sh.s (O.t 17)))), (I.mk (some 19) none false (X.v (A.bin BinOp.lss (O.t 18) (O.k (V.int IntKind.i64 (Int.ofNat 0)))))), (I.mk (some 20) none false (X.v (A.mov (O.t 19)))), (I.mk (some 21) (some (20, false)) false (X.v (A.idxA (O.t 4) (O.k (V.int IntKind.i64 (Int.ofNat 0))) 2 1))), (I.mk (some 22) (some (20, false)) false (X.v (A.load Sh.s (O.t 21)))), (I.mk (some 23) (some (20, false)) false (X.v (A.idxA (O.t 4) (O.k (V.int IntKind.i64 (Int.ofNat 1))) 2 1))), (I.mk (some 24) (some (20, false)) false (X.v (A.load Sh.s (O.t 23)))), (I.mk (some 25) (some (20, false)) false (X.v (A.bin BinOp.geq (O.t 22) (O.t 24)))), (I.mk (some 26) none false (X.v (A.pick (O.t 20) (O.k (V.bool true)) (O.t 25)))), (I.mk (some 27) none false (X.v (A.mov (O.t 26)))), (I.mk (some 28) (some (27, false)) false (X.v (A.idxA (O.t 4) (O.k (V.int IntKind.i64 (Int.ofNat 1))) 2 1))), (I.mk (some 29) (some (27, false)) false (X.v (A.load Sh.s (O.t 28)))), (I.mk (some 30) (some (27, false)) false (X.v (A.fld (O.t 1) 0 0))), (I.mk (some 31) (some (27, false)) false (X.v (A.load Sh.s (O.t 30)))), (I.mk (some 32) (some (27, false)) false (X.v (A.bin BinOp.geq (O.t 29) (O.t 31)))), (I.mk (some 33) none false (X.v (A.pick (O.t 27) (O.k (V.bool true)) (O.t 32)))), (I.mk (some 34) none false (X.v (A.mov (O.t 33)))), (I.mk (some 35) (some (34, false)) false (X.v (A.mov (O.t 3)))), (I.mk (some 36) (some (34, false)) false (X.v (A.bin BinOp.gtr (O.t 35) (O.k (V.int IntKind.i64 (Int.ofNat 0)))))), (I.mk (some 37) (some (34, false)) false (X.v (A.mov (O.t 36)))), (I.mk (some 38) (some (37, true)) false (X.v (A.fld (O.t 1) 1 1))), (I.mk (some 39) (some (37, true)) false (X.v (A.load Sh.p (O.t 38)))), (I.mk (some 40) (some (37, true)) false (X.v (A.mov (O.t 3)))), (I.mk (some 41) (some (37, true)) false (X.v (A.bin BinOp.sub (O.t 40) (O.k (V.int IntKind.i64 (Int.ofNat 1)))))), (I.mk (some 42) (some (37, true)) false (X.v (A.idx (O.t 39) (O.t 41) 2))), (I.mk (some 43) (some (37, true)) false (X.v (A.sliceA (O.t 42) 2 Sh.s))), (I.mk (some 44) (some (37, true)) false (X.v (A.sliceA (O.t 4) 2 Sh.s))), (I.mk (some 45) (some (37, true)) false (X.call (O.k (V.fn 81 [] [])) [(O.t 43), (O.t 44)])), (I.mk (some 46) (some (37, true)) false (X.v (A.bin BinOp.geq (O.t 45) (O.k (V.int IntKind.i64 (Int.ofNat 0)))))), (I.mk (some 47) (some (34, false)) false (X.v (A.pick (O.t 37) (O.t 46) (O.k (V.bool false))))), (I.mk (some 48) none false (X.v (A.pick (O.t 34) (O.k (V.bool true)) (O.t 47))))] []) A53_5)
def A53_6 : AC := (AC.reg [] [(I.mk (some 49) none false (X.v (A.bin BinOp.add (O.t 12) (O.k (V.int IntKind.i64 (Int.ofNat 1)))))), (I.mk (some 12) none false (X.v (A.mov (O.t 49))))] [])
def A53_3 : AC := (AC.seq (AC.block 1 (AC.seq (AC.reg [.clr [4]] [(I.mk (some 14) none false (X.v (A.mov (O.t 12)))), (I.mk (some 15) none false (X.v (A.idx (O.t 10) (O.t 12) 2))), (I.mk (some 16) none false (X.v (A.load (Sh.ag [Sh.s, Sh.s]) (O.t 15)))), (I.mk (some 4) none false (X.alloc (V.agg [(V.int IntKind.i64 (Int.ofNat 0)), (V.int IntKind.i64 (Int.ofNat 0))]))), (I.mk (some 3) none false (X.v (A.mov (O.t 14)))), (I.mk none none false (X.store (Sh.ag [Sh.s, Sh.s]) (O.t 4) (O.t 16)))] []) A53_4)) A53_6)
def A53_2 : AC := (AC.seq (AC.cond (O.t 13) AC.skip (AC.exit 0)) A53_3)
def A53_1 : AC := (AC.seq (AC.reg [] [(I.mk (some 13) none false (X.v (A.bin BinOp.lss (O.t 12) (O.t 11))))] []) A53_2)
def A53_7 : AC := (AC.seq (AC.reg [] [(I.mk (some 2) none false (X.v (A.mov (O.k (V.bool true)))))] []) AC.ret)
def A53_9 : AC := (AC.cond (O.t 8) (AC.seq (AC.reg [] [(I.mk (some 2) none false (X.v (A.mov (O.k (V.bool false)))))] []) AC.ret) AC.skip)
def A53_11 : AC := (AC.block 0 (AC.loop A53_1))
def A53_10 : AC := (AC.seq (AC.seq (AC.reg [] [(I.mk (some 9) none false (X.v (A.fld (O.t 1) 1 1))), (I.mk (some 10) none false (X.v (A.load Sh.p (O.t 9)))), (I.mk (some 11) none false (X.v (A.len (O.t 10)))), (I.mk (some 12) none false (X.v (A.mov (O.k (V.int IntKind.i64 (Int.ofNat 0))))))] []) A53_11) A53_7)
def A53_8 : AC := (AC.seq (AC.seq (AC.reg [] [(I.mk (some 5) none false (X.v (A.fld (O.t 1) 0 0))), (I.mk (some 6) none false (X.v (A.load Sh.s (O.t 5)))), (I.mk (some 7) none false (X.call (O.k (V.fn 62 [] [])) [(O.t 6), (O.k (V.int IntKind.i64 (Int.ofNat 0))), (O.k (V.int IntKind.i64 (Int.ofNat 8)))])), (I.mk (some 8) none false (X.v (A.un UnOp.not (O.t 7))))] []) A53_9) A53_10)
def A53 : AC := (AC.seq (AC.reg [.clr [1]] [(I.mk (some 1) none false (X.box (O.t 0))), (I.mk (some 2) none false (X.v (A.mov (O.k (V.bool false)))))] []) A53_8)
def an53 : List An := [{ id := 0, pre := [.clr [1]], ep := [], lin := [], sp := [] }, { id := 5, pre := [.clr [4]], ep := [], lin := [], sp := [] }]
theorem c53 : cC Try.prog Try.f53.ntmps an53 (Try.f53.body.getD .skip) = some A53 := by kernel_rfl
structure H53 (D : Den) (σ : Sig) (F : Nat) : Prop where
  c62 : ∀ (x0 : Int) (x1 : Int) (x2 : Int) r, i_within F x0 x1 x2 = some r → D 62 [Enc.enc x0, Enc.enc x1, Enc.enc x2] = some (Enc.enc (r : Bool))
  g62 : σ 62 = some (0, false)
  c81 : ∀ (x0 : (List Int)) (x1 : (List Int)) r, slices_Compare F x0 x1 = some r → D 81 [Enc.enc x0, Enc.enc x1] = some (Enc.enc (r : Int))
  g81 : σ 81 = some (0, false)
abbrev R53 (r : Bool) : (Nat → V) → Prop := RR Try.prog [.tmp 2] 0 false (Enc.enc (r : Bool))
section
variable {D : Den} {σ : Sig} {F : Nat} {r : Bool}
def i_IsGraph_j1 (F : Nat) (g_1 : (Int × (List (Int × Int)))) (t12_9 : Int) (c1 : Int → Option Bool) (t48_19 : Bool) : Option Bool :=
  bif t48_19 then
    some false
  else
    c1 (w64 (t12_9 + 1))
theorem t_f53_j1 (H : H53 D σ F) (g_1 : (Int × (List (Int × Int)))) (t12_9 : Int) (c1 : Int → Option Bool) (Hc1 : ∀ (t12_9 : Int) (s : Nat → V), Facts [(1, (.ref (.bx 1) 0 [] (.agg [(.int .i64 g_1.1), (Enc.enc (g_1.2 : List (Int × Int)))]))), (2, (.bool false)), (10, (Enc.enc (g_1.2 : List (Int × Int)))), (11, (.int .i64 (g_1.2.length : Int))), (12, (.int .i64 t12_9))] s → c1 t12_9 = some r → Run D σ (R53 r) (.run A53_1 [.lp A53_1, .bk 0, .sq A53_7]) s) (t48_19 : Bool) (s : Nat → V) (hs : Facts [(1, (.ref (.bx 1) 0 [] (.agg [(.int .i64 g_1.1), (Enc.enc (g_1.2 : List (Int × Int)))]))), (2, (.bool false)), (10, (Enc.enc (g_1.2 : List (Int × Int)))), (11, (.int .i64 (g_1.2.length : Int))), (12, (.int .i64 t12_9)), (48, (.bool t48_19))] s) (h : i_IsGraph_j1 F g_1 t12_9 c1 t48_19 = some r) : Run D σ (R53 r) (.nrm [.sq A53_5, .bk 1, .sq A53_6, .lp A53_1, .bk 0, .sq A53_7]) s := by
  unfold i_IsGraph_j1 at h
  obtain ⟨h1, h2, h10, h11, h12, h48⟩ := hs
  refine .nsq ?_
  refine run_cond (t := t48_19) h48 h (fun h => ?_) (fun h => ?_)
  · refine .seq ?_
    refine run_reg ?_
    refine e_end ?_
    refine g_v0 (.bool false) rfl rfl ?_
    refine g_end ?_
    refine e_end ?_
    refine renew [(1, (.ref (.bx 1) 0 [] (.agg [(.int .i64 g_1.1), (Enc.enc (g_1.2 : List (Int × Int)))]))), (2, (.bool false)), (10, (Enc.enc (g_1.2 : List (Int × Int)))), (11, (.int .i64 (g_1.2.length : Int))), (12, (.int .i64 t12_9))] ⟨h1, rfl, h10, h11, h12⟩ ?_
    rintro s ⟨h1, h2, h10, h11, h12⟩
    refine .nsq ?_
    refine .ret ?_
    have hr := Option.some.inj h
    subst hr
    exact rrA (res_tmp h2) rfl
  · refine .skip ?_
    refine .nbk ?_
    refine .nsq ?_
    refine run_reg ?_
    refine e_end ?_
    refine g_v1 (t := 12) (u := (.int .i64 t12_9)) (.int .i64 (w64 (t12_9 + 1))) h12 rfl rfl ?_
    refine g_v1 (t := 49) (u := (.int .i64 (w64 (t12_9 + 1)))) (.int .i64 (w64 (t12_9 + 1))) rfl rfl rfl ?_
    refine g_end ?_
    refine e_end ?_
    refine renew [(1, (.ref (.bx 1) 0 [] (.agg [(.int .i64 g_1.1), (Enc.enc (g_1.2 : List (Int × Int)))]))), (2, (.bool false)), (10, (Enc.enc (g_1.2 : List (Int × Int)))), (11, (.int .i64 (g_1.2.length : Int))), (12, (.int .i64 (w64 (t12_9 + 1))))] ⟨h1, h2, h10, h11, rfl⟩ ?_
    rintro s ⟨h1, h2, h10, h11, h12⟩
    refine .nlp ?_
    exact Hc1 (w64 (t12_9 + 1)) _ ⟨h1, h2, h10, h11, h12⟩ h
def i_IsGraph_l1 (F : Nat) (g_1 : (Int × (List (Int × Int))))  : Nat → Int → Option Bool
  | 0, _ => none
  | k + 1, t12_9 =>
    bif decide (t12_9 < (g_1.2.length : Int)) then
      (idx g_1.2 t12_9).bind fun e_16 =>
      bif decide (e_16.1 < 0) then
        i_IsGraph_j1 F g_1 t12_9 (i_IsGraph_l1 F g_1 k) true
      else
        bif decide (e_16.1 ≥ e_16.2) then
          i_IsGraph_j1 F g_1 t12_9 (i_IsGraph_l1 F g_1 k) true
        else
          bif decide (e_16.2 ≥ g_1.1) then
            i_IsGraph_j1 F g_1 t12_9 (i_IsGraph_l1 F g_1 k) true
          else
            bif decide (t12_9 > 0) then
              (idx g_1.2 (w64 (t12_9 - 1))).bind fun e_20 =>
              (slices_Compare F [e_20.1, e_20.2] [e_16.1, e_16.2]).bind fun r_21 =>
              i_IsGraph_j1 F g_1 t12_9 (i_IsGraph_l1 F g_1 k) (decide (r_21 ≥ 0))
            else
              i_IsGraph_j1 F g_1 t12_9 (i_IsGraph_l1 F g_1 k) false
    else
      some true
theorem t_f53_l1 (H : H53 D σ F) (g_1 : (Int × (List (Int × Int))))  : ∀ (k : Nat) (t12_9 : Int) (s : Nat → V), Facts [(1, (.ref (.bx 1) 0 [] (.agg [(.int .i64 g_1.1), (Enc.enc (g_1.2 : List (Int × Int)))]))), (2, (.bool false)), (10, (Enc.enc (g_1.2 : List (Int × Int)))), (11, (.int .i64 (g_1.2.length : Int))), (12, (.int .i64 t12_9))] s → i_IsGraph_l1 F g_1 k t12_9 = some r → Run D σ (R53 r) (.run A53_1 [.lp A53_1, .bk 0, .sq A53_7]) s := by
  intro k
  induction k with
  | zero => intro t12_9 s _ h; exact nomatch (h : (none : Option _) = some r)
  | succ k ih =>
    intro t12_9 s hs h
    rw [i_IsGraph_l1] at h
    obtain ⟨h1, h2, h10, h11, h12⟩ := hs
    refine .seq ?_
    refine run_reg ?_
    refine e_end ?_
    refine g_v2 (t1 := 12) (t2 := 11) (u1 := (.int .i64 t12_9)) (u2 := (.int .i64 (g_1.2.length : Int))) (.bool (decide (t12_9 < (g_1.2.length : Int)))) h12 h11 rfl rfl ?_
    refine g_end ?_
    refine e_end ?_
    refine renew [(1, (.ref (.bx 1) 0 [] (.agg [(.int .i64 g_1.1), (Enc.enc (g_1.2 : List (Int × Int)))]))), (2, (.bool false)), (10, (Enc.enc (g_1.2 : List (Int × Int)))), (11, (.int .i64 (g_1.2.length : Int))), (12, (.int .i64 t12_9)), (13, (.bool (decide (t12_9 < (g_1.2.length : Int)))))] ⟨h1, h2, h10, h11, h12, rfl⟩ ?_
    rintro s ⟨h1, h2, h10, h11, h12, h13⟩
    refine .nsq ?_
    refine .seq ?_
    refine run_cond (t := decide (t12_9 < (g_1.2.length : Int))) h13 h (fun h => ?_) (fun h => ?_)
    · refine .skip ?_
      refine .nsq ?_
      refine .seq ?_
      refine .block ?_
      refine .seq ?_
      refine run_reg ?_
      refine e_clr ?_
      refine e_end ?_
      refine g_v1 (t := 12) (u := (.int .i64 t12_9)) (.int .i64 t12_9) (keep_clear (s := s) (pk := [4]) h12 rfl rfl) rfl rfl ?_
      obtain ⟨e_16, E_e_16, h⟩ := bind_some h
      refine g_v (.ref .sh 0 [] (.agg [(.int .i64 e_16.1), (.int .i64 e_16.2)])) (ev_idx (t := .sh) (lo := 0) (xs := g_1.2) (keep_clear (s := s) (pk := [4]) h10 rfl (Enc.map_enc _ (g_1.2 : List (Int × Int)))) (keep_clear (s := s) (pk := [4]) h12 rfl rfl) E_e_16 rfl rfl) ?_
      refine g_v1 (t := 15) (u := (.ref .sh 0 [] (.agg [(.int .i64 e_16.1), (.int .i64 e_16.2)]))) (.agg [(.int .i64 e_16.1), (.int .i64 e_16.2)]) rfl rfl rfl ?_
      refine g_alloc (gone_clear (s := s) (pk := [4]) (t := 4) rfl) ?_
      refine g_v1 (t := 14) (u := (.int .i64 t12_9)) (.int .i64 t12_9) rfl rfl rfl ?_
      refine g_store (.agg [(.int .i64 e_16.1), (.int .i64 e_16.2)]) (rd_of rfl rfl) (rd_of rfl rfl) (by refine ⟨by decide, by decide, rfl, rfl, rfl, ?_⟩; first | rfl | simp [V.toks, V.tokss, Enc.toks_enc]) ?_
      refine g_end ?_
      refine e_end ?_
      refine renew [(1, (.ref (.bx 1) 0 [] (.agg [(.int .i64 g_1.1), (Enc.enc (g_1.2 : List (Int × Int)))]))), (2, (.bool false)), (3, (.int .i64 t12_9)), (4, (.ref (.bx 4) 0 [] (.agg [(.int .i64 e_16.1), (.int .i64 e_16.2)]))), (10, (Enc.enc (g_1.2 : List (Int × Int)))), (11, (.int .i64 (g_1.2.length : Int))), (12, (.int .i64 t12_9))] ⟨(keep_mut (keep_clear (s := s) (pk := [4]) h1 rfl (map_bx rfl (map_agg (maps_cons rfl (maps_cons (Enc.map_enc _ (g_1.2 : List (Int × Int))) maps_nil))))) (mut_ref_ne rfl rfl (mut_agg (muts_cons rfl (muts_cons (Enc.mut_enc _ _ _ _ (g_1.2 : List (Int × Int))) rfl))))), (keep_mut (keep_clear (s := s) (pk := [4]) h2 rfl rfl) rfl), (keep_mut rfl rfl), (keep_mut rfl rfl), (keep_mut (keep_clear (s := s) (pk := [4]) h10 rfl (Enc.map_enc _ (g_1.2 : List (Int × Int)))) (Enc.mut_enc _ _ _ _ (g_1.2 : List (Int × Int)))), (keep_mut (keep_clear (s := s) (pk := [4]) h11 rfl rfl) rfl), (keep_mut (keep_clear (s := s) (pk := [4]) h12 rfl rfl) rfl)⟩ ?_
      rintro s ⟨h1, h2, h3, h4, h10, h11, h12⟩
      refine .nsq ?_
      refine .seq ?_
      refine run_reg ?_
      refine e_end ?_
      refine g_v1 (t := 4) (u := (.ref (.bx 4) 0 [] (.agg [(.int .i64 e_16.1), (.int .i64 e_16.2)]))) (.ref (.bx 4) 0 [0] (.int .i64 e_16.1)) h4 rfl rfl ?_
      refine g_v1 (t := 17) (u := (.ref (.bx 4) 0 [0] (.int .i64 e_16.1))) (.int .i64 e_16.1) rfl rfl rfl ?_
      refine g_v1 (t := 18) (u := (.int .i64 e_16.1)) (.bool (decide (e_16.1 < 0))) rfl rfl rfl ?_
      refine g_v1 (t := 19) (u := (.bool (decide (e_16.1 < 0)))) (.bool (decide (e_16.1 < 0))) rfl rfl rfl ?_
      refine split_on (c := decide (e_16.1 < 0)) h (fun hg4 h => ?_) (fun hg4 h => ?_)
      · refine g_no (Eq.trans (b := .bool (decide (e_16.1 < 0))) rfl (congrArg V.bool hg4)) ?_
        refine g_no (Eq.trans (b := .bool (decide (e_16.1 < 0))) rfl (congrArg V.bool hg4)) ?_
        refine g_no (Eq.trans (b := .bool (decide (e_16.1 < 0))) rfl (congrArg V.bool hg4)) ?_
        refine g_no (Eq.trans (b := .bool (decide (e_16.1 < 0))) rfl (congrArg V.bool hg4)) ?_
        refine g_no (Eq.trans (b := .bool (decide (e_16.1 < 0))) rfl (congrArg V.bool hg4)) ?_
        refine g_v2 (t1 := 20) (t2 := 25) (u1 := (.bool true)) (u2 := (.tup [])) (.bool true) (Eq.trans (b := .bool (decide (e_16.1 < 0))) rfl (congrArg V.bool hg4)) rfl rfl rfl ?_
        refine g_v1 (t := 26) (u := (.bool true)) (.bool true) rfl rfl rfl ?_
        refine g_no rfl ?_
        refine g_no rfl ?_
        refine g_no rfl ?_
        refine g_no rfl ?_
        refine g_no rfl ?_
        refine g_v2 (t1 := 27) (t2 := 32) (u1 := (.bool true)) (u2 := (.tup [])) (.bool true) rfl rfl rfl rfl ?_
        refine g_v1 (t := 33) (u := (.bool true)) (.bool true) rfl rfl rfl ?_
        refine g_no rfl ?_
        refine g_no rfl ?_
        refine g_no rfl ?_
        refine g_skip rfl ?_
        refine g_skip rfl ?_
        refine g_skip rfl ?_
        refine g_skip rfl ?_
        refine g_skip rfl ?_
        refine g_skip rfl ?_
        refine g_skip rfl ?_
        refine g_skip rfl ?_
        refine g_skip rfl ?_
        refine g_no rfl ?_
        refine g_v2 (t1 := 34) (t2 := 47) (u1 := (.bool true)) (u2 := (.tup [])) (.bool true) rfl rfl rfl rfl ?_
        refine g_end ?_
        refine e_end ?_
        refine renew [(1, (.ref (.bx 1) 0 [] (.agg [(.int .i64 g_1.1), (Enc.enc (g_1.2 : List (Int × Int)))]))), (2, (.bool false)), (10, (Enc.enc (g_1.2 : List (Int × Int)))), (11, (.int .i64 (g_1.2.length : Int))), (12, (.int .i64 t12_9)), (48, (.bool true))] ⟨h1, h2, h10, h11, h12, rfl⟩ ?_
        rintro s ⟨h1, h2, h10, h11, h12, h48⟩
        exact t_f53_j1 H g_1 t12_9 (i_IsGraph_l1 F g_1 k) ih true _ ⟨h1, h2, h10, h11, h12, h48⟩ h
      · refine g_yes (Eq.trans (b := .bool (decide (e_16.1 < 0))) rfl (congrArg V.bool hg4)) (g_v1 (t := 4) (u := (.ref (.bx 4) 0 [] (.agg [(.int .i64 e_16.1), (.int .i64 e_16.2)]))) (.ref (.bx 4) 0 [0] (.int .i64 e_16.1)) h4 rfl rfl ?_)
        refine g_yes (Eq.trans (b := .bool (decide (e_16.1 < 0))) rfl (congrArg V.bool hg4)) (g_v1 (t := 21) (u := (.ref (.bx 4) 0 [0] (.int .i64 e_16.1))) (.int .i64 e_16.1) rfl rfl rfl ?_)
        refine g_yes (Eq.trans (b := .bool (decide (e_16.1 < 0))) rfl (congrArg V.bool hg4)) (g_v1 (t := 4) (u := (.ref (.bx 4) 0 [] (.agg [(.int .i64 e_16.1), (.int .i64 e_16.2)]))) (.ref (.bx 4) 0 [1] (.int .i64 e_16.2)) h4 rfl rfl ?_)
        refine g_yes (Eq.trans (b := .bool (decide (e_16.1 < 0))) rfl (congrArg V.bool hg4)) (g_v1 (t := 23) (u := (.ref (.bx 4) 0 [1] (.int .i64 e_16.2))) (.int .i64 e_16.2) rfl rfl rfl ?_)
        refine g_yes (Eq.trans (b := .bool (decide (e_16.1 < 0))) rfl (congrArg V.bool hg4)) (g_v2 (t1 := 22) (t2 := 24) (u1 := (.int .i64 e_16.1)) (u2 := (.int .i64 e_16.2)) (.bool (decide (e_16.1 ≥ e_16.2))) rfl rfl rfl rfl ?_)
        refine g_v2 (t1 := 20) (t2 := 25) (u1 := (.bool false)) (u2 := (.bool (decide (e_16.1 ≥ e_16.2)))) (.bool (decide (e_16.1 ≥ e_16.2))) (Eq.trans (b := .bool (decide (e_16.1 < 0))) rfl (congrArg V.bool hg4)) rfl rfl rfl ?_
        refine g_v1 (t := 26) (u := (.bool (decide (e_16.1 ≥ e_16.2)))) (.bool (decide (e_16.1 ≥ e_16.2))) rfl rfl rfl ?_
        refine split_on (c := decide (e_16.1 ≥ e_16.2)) h (fun hg11 h => ?_) (fun hg11 h => ?_)
        · refine g_no (Eq.trans (b := .bool (decide (e_16.1 ≥ e_16.2))) rfl (congrArg V.bool hg11)) ?_
          refine g_no (Eq.trans (b := .bool (decide (e_16.1 ≥ e_16.2))) rfl (congrArg V.bool hg11)) ?_
          refine g_no (Eq.trans (b := .bool (decide (e_16.1 ≥ e_16.2))) rfl (congrArg V.bool hg11)) ?_
          refine g_no (Eq.trans (b := .bool (decide (e_16.1 ≥ e_16.2))) rfl (congrArg V.bool hg11)) ?_
          refine g_no (Eq.trans (b := .bool (decide (e_16.1 ≥ e_16.2))) rfl (congrArg V.bool hg11)) ?_
          refine g_v2 (t1 := 27) (t2 := 32) (u1 := (.bool true)) (u2 := (.tup [])) (.bool true) (Eq.trans (b := .bool (decide (e_16.1 ≥ e_16.2))) rfl (congrArg V.bool hg11)) rfl rfl rfl ?_
          refine g_v1 (t := 33) (u := (.bool true)) (.bool true) rfl rfl rfl ?_
          refine g_no rfl ?_
          refine g_no rfl ?_
          refine g_no rfl ?_
          refine g_skip rfl ?_
          refine g_skip rfl ?_
          refine g_skip rfl ?_
          refine g_skip rfl ?_
          refine g_skip rfl ?_
          refine g_skip rfl ?_
          refine g_skip rfl ?_
          refine g_skip rfl ?_
          refine g_skip rfl ?_
          refine g_no rfl ?_
          refine g_v2 (t1 := 34) (t2 := 47) (u1 := (.bool true)) (u2 := (.tup [])) (.bool true) rfl rfl rfl rfl ?_
          refine g_end ?_
          refine e_end ?_
          refine renew [(1, (.ref (.bx 1) 0 [] (.agg [(.int .i64 g_1.1), (Enc.enc (g_1.2 : List (Int × Int)))]))), (2, (.bool false)), (10, (Enc.enc (g_1.2 : List (Int × Int)))), (11, (.int .i64 (g_1.2.length : Int))), (12, (.int .i64 t12_9)), (48, (.bool true))] ⟨h1, h2, h10, h11, h12, rfl⟩ ?_
          rintro s ⟨h1, h2, h10, h11, h12, h48⟩
          exact t_f53_j1 H g_1 t12_9 (i_IsGraph_l1 F g_1 k) ih true _ ⟨h1, h2, h10, h11, h12, h48⟩ h
        · refine g_yes (Eq.trans (b := .bool (decide (e_16.1 ≥ e_16.2))) rfl (congrArg V.bool hg11)) (g_v1 (t := 4) (u := (.ref (.bx 4) 0 [] (.agg [(.int .i64 e_16.1), (.int .i64 e_16.2)]))) (.ref (.bx 4) 0 [1] (.int .i64 e_16.2)) h4 rfl rfl ?_)
          refine g_yes (Eq.trans (b := .bool (decide (e_16.1 ≥ e_16.2))) rfl (congrArg V.bool hg11)) (g_v1 (t := 28) (u := (.ref (.bx 4) 0 [1] (.int .i64 e_16.2))) (.int .i64 e_16.2) rfl rfl rfl ?_)
          refine g_yes (Eq.trans (b := .bool (decide (e_16.1 ≥ e_16.2))) rfl (congrArg V.bool hg11)) (g_v1 (t := 1) (u := (.ref (.bx 1) 0 [] (.agg [(.int .i64 g_1.1), (Enc.enc (g_1.2 : List (Int × Int)))]))) (.ref (.bx 1) 0 [0] (.int .i64 g_1.1)) h1 rfl rfl ?_)
          refine g_yes (Eq.trans (b := .bool (decide (e_16.1 ≥ e_16.2))) rfl (congrArg V.bool hg11)) (g_v1 (t := 30) (u := (.ref (.bx 1) 0 [0] (.int .i64 g_1.1))) (.int .i64 g_1.1) rfl rfl rfl ?_)
          refine g_yes (Eq.trans (b := .bool (decide (e_16.1 ≥ e_16.2))) rfl (congrArg V.bool hg11)) (g_v2 (t1 := 29) (t2 := 31) (u1 := (.int .i64 e_16.2)) (u2 := (.int .i64 g_1.1)) (.bool (decide (e_16.2 ≥ g_1.1))) rfl rfl rfl rfl ?_)
          refine g_v2 (t1 := 27) (t2 := 32) (u1 := (.bool false)) (u2 := (.bool (decide (e_16.2 ≥ g_1.1)))) (.bool (decide (e_16.2 ≥ g_1.1))) (Eq.trans (b := .bool (decide (e_16.1 ≥ e_16.2))) rfl (congrArg V.bool hg11)) rfl rfl rfl ?_
          refine g_v1 (t := 33) (u := (.bool (decide (e_16.2 ≥ g_1.1)))) (.bool (decide (e_16.2 ≥ g_1.1))) rfl rfl rfl ?_
          refine split_on (c := decide (e_16.2 ≥ g_1.1)) h (fun hg18 h => ?_) (fun hg18 h => ?_)
          · refine g_no (Eq.trans (b := .bool (decide (e_16.2 ≥ g_1.1))) rfl (congrArg V.bool hg18)) ?_
            refine g_no (Eq.trans (b := .bool (decide (e_16.2 ≥ g_1.1))) rfl (congrArg V.bool hg18)) ?_
            refine g_no (Eq.trans (b := .bool (decide (e_16.2 ≥ g_1.1))) rfl (congrArg V.bool hg18)) ?_
            refine g_skip rfl ?_
            refine g_skip rfl ?_
            refine g_skip rfl ?_
            refine g_skip rfl ?_
            refine g_skip rfl ?_
            refine g_skip rfl ?_
            refine g_skip rfl ?_
            refine g_skip rfl ?_
            refine g_skip rfl ?_
            refine g_no (Eq.trans (b := .bool (decide (e_16.2 ≥ g_1.1))) rfl (congrArg V.bool hg18)) ?_
            refine g_v2 (t1 := 34) (t2 := 47) (u1 := (.bool true)) (u2 := (.tup [])) (.bool true) (Eq.trans (b := .bool (decide (e_16.2 ≥ g_1.1))) rfl (congrArg V.bool hg18)) rfl rfl rfl ?_
            refine g_end ?_
            refine e_end ?_
            refine renew [(1, (.ref (.bx 1) 0 [] (.agg [(.int .i64 g_1.1), (Enc.enc (g_1.2 : List (Int × Int)))]))), (2, (.bool false)), (10, (Enc.enc (g_1.2 : List (Int × Int)))), (11, (.int .i64 (g_1.2.length : Int))), (12, (.int .i64 t12_9)), (48, (.bool true))] ⟨h1, h2, h10, h11, h12, rfl⟩ ?_
            rintro s ⟨h1, h2, h10, h11, h12, h48⟩
            exact t_f53_j1 H g_1 t12_9 (i_IsGraph_l1 F g_1 k) ih true _ ⟨h1, h2, h10, h11, h12, h48⟩ h
          · refine g_yes (Eq.trans (b := .bool (decide (e_16.2 ≥ g_1.1))) rfl (congrArg V.bool hg18)) (g_v1 (t := 3) (u := (.int .i64 t12_9)) (.int .i64 t12_9) h3 rfl rfl ?_)
            refine g_yes (Eq.trans (b := .bool (decide (e_16.2 ≥ g_1.1))) rfl (congrArg V.bool hg18)) (g_v1 (t := 35) (u := (.int .i64 t12_9)) (.bool (decide (t12_9 > 0))) rfl rfl rfl ?_)
            refine g_yes (Eq.trans (b := .bool (decide (e_16.2 ≥ g_1.1))) rfl (congrArg V.bool hg18)) (g_v1 (t := 36) (u := (.bool (decide (t12_9 > 0)))) (.bool (decide (t12_9 > 0))) rfl rfl rfl ?_)
            refine split_on (c := decide (t12_9 > 0)) h (fun hg21 h => ?_) (fun hg21 h => ?_)
            · refine g_yes (Eq.trans (b := .bool (decide (t12_9 > 0))) rfl (congrArg V.bool hg21)) (g_v1 (t := 1) (u := (.ref (.bx 1) 0 [] (.agg [(.int .i64 g_1.1), (Enc.enc (g_1.2 : List (Int × Int)))]))) (.ref (.bx 1) 0 [1] (Enc.enc (g_1.2 : List (Int × Int)))) h1 rfl rfl ?_)
              refine g_yes (Eq.trans (b := .bool (decide (t12_9 > 0))) rfl (congrArg V.bool hg21)) (g_v1 (t := 38) (u := (.ref (.bx 1) 0 [1] (Enc.enc (g_1.2 : List (Int × Int))))) (Enc.enc (g_1.2 : List (Int × Int))) rfl rfl rfl ?_)
              refine g_yes (Eq.trans (b := .bool (decide (t12_9 > 0))) rfl (congrArg V.bool hg21)) (g_v1 (t := 3) (u := (.int .i64 t12_9)) (.int .i64 t12_9) h3 rfl rfl ?_)
              refine g_yes (Eq.trans (b := .bool (decide (t12_9 > 0))) rfl (congrArg V.bool hg21)) (g_v1 (t := 40) (u := (.int .i64 t12_9)) (.int .i64 (w64 (t12_9 - 1))) rfl rfl rfl ?_)
              obtain ⟨e_20, E_e_20, h⟩ := bind_some h
              refine g_yes (Eq.trans (b := .bool (decide (t12_9 > 0))) rfl (congrArg V.bool hg21)) (g_v (.ref .sh 0 [] (.agg [(.int .i64 e_20.1), (.int .i64 e_20.2)])) (ev_idx (t := .sh) (lo := 0) (xs := g_1.2) rfl rfl E_e_20 rfl rfl) ?_)
              refine g_yes (Eq.trans (b := .bool (decide (t12_9 > 0))) rfl (congrArg V.bool hg21)) (g_v1 (t := 42) (u := (.ref .sh 0 [] (.agg [(.int .i64 e_20.1), (.int .i64 e_20.2)]))) (Enc.enc ([e_20.1, e_20.2] : List Int)) rfl rfl rfl ?_)
              refine g_yes (Eq.trans (b := .bool (decide (t12_9 > 0))) rfl (congrArg V.bool hg21)) (g_v1 (t := 4) (u := (.ref (.bx 4) 0 [] (.agg [(.int .i64 e_16.1), (.int .i64 e_16.2)]))) (encO (.bx 4) (.of ([e_16.1, e_16.2] : List Int))) h4 rfl rfl ?_)
              obtain ⟨r_21, E_r_21, h⟩ := bind_some h
              refine g_yes (Eq.trans (b := .bool (decide (t12_9 > 0))) rfl (congrArg V.bool hg21)) (g_call (m := 0) (al := false) (r := (Enc.enc (r_21 : Int))) [Enc.enc ([e_20.1, e_20.2] : (List Int)), Enc.enc ([e_16.1, e_16.2] : (List Int))] (ta_cons (v := (Enc.enc ([e_20.1, e_20.2] : List Int))) rfl rfl (Enc.erase_enc ([e_20.1, e_20.2] : (List Int))) (ta_cons (v := (encO (.bx 4) (.of ([e_16.1, e_16.2] : List Int)))) rfl rfl (erase_encO (o := .of [e_16.1, e_16.2])) ta_nil)) (H.c81 _ _ _ E_r_21) H.g81 rfl rfl rfl rfl ?_)
              refine g_yes (Eq.trans (b := .bool (decide (t12_9 > 0))) rfl (congrArg V.bool hg21)) (g_v1 (t := 45) (u := (.int .i64 r_21)) (.bool (decide (r_21 ≥ 0))) rfl rfl rfl ?_)
              refine g_yes (Eq.trans (b := .bool (decide (e_16.2 ≥ g_1.1))) rfl (congrArg V.bool hg18)) (g_v2 (t1 := 37) (t2 := 46) (u1 := (.bool true)) (u2 := (.bool (decide (r_21 ≥ 0)))) (.bool (decide (r_21 ≥ 0))) (Eq.trans (b := .bool (decide (t12_9 > 0))) rfl (congrArg V.bool hg21)) rfl rfl rfl ?_)
              refine g_v2 (t1 := 34) (t2 := 47) (u1 := (.bool false)) (u2 := (.bool (decide (r_21 ≥ 0)))) (.bool (decide (r_21 ≥ 0))) (Eq.trans (b := .bool (decide (e_16.2 ≥ g_1.1))) rfl (congrArg V.bool hg18)) rfl rfl rfl ?_
              refine g_end ?_
              refine e_end ?_
              refine renew [(1, (.ref (.bx 1) 0 [] (.agg [(.int .i64 g_1.1), (Enc.enc (g_1.2 : List (Int × Int)))]))), (2, (.bool false)), (10, (Enc.enc (g_1.2 : List (Int × Int)))), (11, (.int .i64 (g_1.2.length : Int))), (12, (.int .i64 t12_9)), (48, (.bool (decide (r_21 ≥ 0))))] ⟨h1, h2, h10, h11, h12, rfl⟩ ?_
              rintro s ⟨h1, h2, h10, h11, h12, h48⟩
              exact t_f53_j1 H g_1 t12_9 (i_IsGraph_l1 F g_1 k) ih (decide (r_21 ≥ 0)) _ ⟨h1, h2, h10, h11, h12, h48⟩ h
            · refine g_no (Eq.trans (b := .bool (decide (t12_9 > 0))) rfl (congrArg V.bool hg21)) ?_
              refine g_no (Eq.trans (b := .bool (decide (t12_9 > 0))) rfl (congrArg V.bool hg21)) ?_
              refine g_no (Eq.trans (b := .bool (decide (t12_9 > 0))) rfl (congrArg V.bool hg21)) ?_
              refine g_no (Eq.trans (b := .bool (decide (t12_9 > 0))) rfl (congrArg V.bool hg21)) ?_
              refine g_no (Eq.trans (b := .bool (decide (t12_9 > 0))) rfl (congrArg V.bool hg21)) ?_
              refine g_no (Eq.trans (b := .bool (decide (t12_9 > 0))) rfl (congrArg V.bool hg21)) ?_
              refine g_no (Eq.trans (b := .bool (decide (t12_9 > 0))) rfl (congrArg V.bool hg21)) ?_
              refine g_no (Eq.trans (b := .bool (decide (t12_9 > 0))) rfl (congrArg V.bool hg21)) ?_
              refine g_no (Eq.trans (b := .bool (decide (t12_9 > 0))) rfl (congrArg V.bool hg21)) ?_
              refine g_yes (Eq.trans (b := .bool (decide (e_16.2 ≥ g_1.1))) rfl (congrArg V.bool hg18)) (g_v2 (t1 := 37) (t2 := 46) (u1 := (.bool false)) (u2 := (.tup [])) (.bool false) (Eq.trans (b := .bool (decide (t12_9 > 0))) rfl (congrArg V.bool hg21)) rfl rfl rfl ?_)
              refine g_v2 (t1 := 34) (t2 := 47) (u1 := (.bool false)) (u2 := (.bool false)) (.bool false) (Eq.trans (b := .bool (decide (e_16.2 ≥ g_1.1))) rfl (congrArg V.bool hg18)) rfl rfl rfl ?_
              refine g_end ?_
              refine e_end ?_
              refine renew [(1, (.ref (.bx 1) 0 [] (.agg [(.int .i64 g_1.1), (Enc.enc (g_1.2 : List (Int × Int)))]))), (2, (.bool false)), (10, (Enc.enc (g_1.2 : List (Int × Int)))), (11, (.int .i64 (g_1.2.length : Int))), (12, (.int .i64 t12_9)), (48, (.bool false))] ⟨h1, h2, h10, h11, h12, rfl⟩ ?_
              rintro s ⟨h1, h2, h10, h11, h12, h48⟩
              exact t_f53_j1 H g_1 t12_9 (i_IsGraph_l1 F g_1 k) ih false _ ⟨h1, h2, h10, h11, h12, h48⟩ h
    · refine .exit ?_
      refine .esq ?_
      refine .elp ?_
      refine .ebk ?_
      refine .nsq ?_
      refine .seq ?_
      refine run_reg ?_
      refine e_end ?_
      refine g_v0 (.bool true) rfl rfl ?_
      refine g_end ?_
      refine e_end ?_
      refine renew [(2, (.bool true))] rfl ?_
      rintro s h2
      refine .nsq ?_
      refine .ret ?_
      have hr := Option.some.inj h
      subst hr
      exact rrA (res_tmp h2) rfl
def i_IsGraph (F : Nat) (g_1 : (Int × (List (Int × Int)))) : Option Bool :=
  (i_within F g_1.1 0 8).bind fun r_2 =>
  bif (!r_2) then
    some false
  else
    i_IsGraph_l1 F g_1 F 0
theorem t53 (H : H53 D σ F) (g_1 : (Int × (List (Int × Int)))) (s : Nat → V) (hs : Facts [(0, (.agg [(.int .i64 g_1.1), (Enc.enc (g_1.2 : List (Int × Int)))]))] s) (h : i_IsGraph F g_1 = some r) : Run D σ (R53 r) (.run A53 []) s := by
  unfold i_IsGraph at h
  have h0 := hs
  refine .seq ?_
  refine run_reg ?_
  refine e_clr ?_
  refine e_end ?_
  refine g_box (.agg [(.int .i64 g_1.1), (Enc.enc (g_1.2 : List (Int × Int)))]) (rd_of (keep_clear (s := s) (pk := [1]) h0 rfl (map_agg (maps_cons rfl (maps_cons (Enc.map_enc _ (g_1.2 : List (Int × Int))) maps_nil)))) rfl) (gone_clear (s := s) (pk := [1]) (t := 1) rfl) rfl ?_
  refine g_v0 (.bool false) rfl rfl ?_
  refine g_end ?_
  refine e_end ?_
  refine renew [(1, (.ref (.bx 1) 0 [] (.agg [(.int .i64 g_1.1), (Enc.enc (g_1.2 : List (Int × Int)))]))), (2, (.bool false))] ⟨rfl, rfl⟩ ?_
  rintro s ⟨h1, h2⟩
  refine .nsq ?_
  refine .seq ?_
  refine .seq ?_
  refine run_reg ?_
  refine e_end ?_
  refine g_v1 (t := 1) (u := (.ref (.bx 1) 0 [] (.agg [(.int .i64 g_1.1), (Enc.enc (g_1.2 : List (Int × Int)))]))) (.ref (.bx 1) 0 [0] (.int .i64 g_1.1)) h1 rfl rfl ?_
  refine g_v1 (t := 5) (u := (.ref (.bx 1) 0 [0] (.int .i64 g_1.1))) (.int .i64 g_1.1) rfl rfl rfl ?_
  obtain ⟨r_2, E_r_2, h⟩ := bind_some h
  refine g_call (m := 0) (al := false) (r := (Enc.enc (r_2 : Bool))) [Enc.enc (g_1.1 : Int), Enc.enc (0 : Int), Enc.enc (8 : Int)] (ta_cons (v := (.int .i64 g_1.1)) rfl rfl rfl (ta_cons (v := (.int .i64 0)) rfl rfl rfl (ta_cons (v := (.int .i64 8)) rfl rfl rfl ta_nil))) (H.c62 _ _ _ _ E_r_2) H.g62 rfl rfl rfl rfl ?_
  refine g_v1 (t := 7) (u := (.bool r_2)) (.bool (!r_2)) rfl rfl rfl ?_
  refine g_end ?_
  refine e_end ?_
  refine renew [(1, (.ref (.bx 1) 0 [] (.agg [(.int .i64 g_1.1), (Enc.enc (g_1.2 : List (Int × Int)))]))), (2, (.bool false)), (8, (.bool (!r_2)))] ⟨h1, h2, rfl⟩ ?_
  rintro s ⟨h1, h2, h8⟩
  refine .nsq ?_
  refine run_cond (t := (!r_2)) h8 h (fun h => ?_) (fun h => ?_)
  · refine .seq ?_
    refine run_reg ?_
    refine e_end ?_
    refine g_v0 (.bool false) rfl rfl ?_
    refine g_end ?_
    refine e_end ?_
    refine renew [(1, (.ref (.bx 1) 0 [] (.agg [(.int .i64 g_1.1), (Enc.enc (g_1.2 : List (Int × Int)))]))), (2, (.bool false))] ⟨h1, rfl⟩ ?_
    rintro s ⟨h1, h2⟩
    refine .nsq ?_
    refine .ret ?_
    have hr := Option.some.inj h
    subst hr
    exact rrA (res_tmp h2) rfl
  · refine .skip ?_
    refine .nsq ?_
    refine .seq ?_
    refine .seq ?_
    refine run_reg ?_
    refine e_end ?_
    refine g_v1 (t := 1) (u := (.ref (.bx 1) 0 [] (.agg [(.int .i64 g_1.1), (Enc.enc (g_1.2 : List (Int × Int)))]))) (.ref (.bx 1) 0 [1] (Enc.enc (g_1.2 : List (Int × Int)))) h1 rfl rfl ?_
    refine g_v1 (t := 9) (u := (.ref (.bx 1) 0 [1] (Enc.enc (g_1.2 : List (Int × Int))))) (Enc.enc (g_1.2 : List (Int × Int))) rfl rfl rfl ?_
    refine g_v (.int .i64 (g_1.2.length : Int)) (ev_len (xs := g_1.2) rfl) ?_
    refine g_v0 (.int .i64 0) rfl rfl ?_
    refine g_end ?_
    refine e_end ?_
    refine renew [(1, (.ref (.bx 1) 0 [] (.agg [(.int .i64 g_1.1), (Enc.enc (g_1.2 : List (Int × Int)))]))), (2, (.bool false)), (10, (Enc.enc (g_1.2 : List (Int × Int)))), (11, (.int .i64 (g_1.2.length : Int))), (12, (.int .i64 0))] ⟨h1, h2, rfl, rfl, rfl⟩ ?_
    rintro s ⟨h1, h2, h10, h11, h12⟩
    refine .nsq ?_
    refine .block ?_
    refine .loop ?_
    exact t_f53_l1 H g_1 F 0 _ ⟨h1, h2, h10, h11, h12⟩ h
end
def e53 (F : Nat) : Ent := ⟨53, da (fun (x : ((Int × (List (Int × Int))) × Unit)) => i_IsGraph F x.1) (fun (r : Bool) => (Enc.enc (r : Bool))), 0, false, selF []⟩
theorem p53 {F : Nat} {x0 : (Int × (List (Int × Int)))} {r : Bool} (h : i_IsGraph F x0 = some r) : (e53 F).den [Enc.enc x0] = some (Enc.enc (r : Bool)) := da_put (f := fun (x : ((Int × (List (Int × Int))) × Unit)) => i_IsGraph F x.1) (t := fun (r : Bool) => (Enc.enc (r : Bool))) (x0, ()) h
theorem o53 {D : Den} {σ : Sig} {F : Nat} (hF : Fits2 Try.prog D σ) (H : H53 D σ F) : (e53 F).Ok Try.prog := by
  refine ⟨fun args r h => ?_, ⟨Try.f53, Try.func53, rfl, rfl⟩⟩
  obtain ⟨⟨x0, _⟩, y, rfl, hy, rfl⟩ := da_open h
  exact contract_run hF (by kernel_rfl) Try.func53 rfl c53 (show 1 ≤ Try.f53.ntmps by decide) (t53 H x0 _ rfl hy)
/- loop.example/g01109/impl.allWithin -/
def A132_5 : AC := (AC.cond (O.t 19) (AC.seq (AC.reg [] [(I.mk (some 6) none false (X.v (A.mov (O.k (V.bool false)))))] []) AC.ret) AC.skip)
def A132_4 : AC := (AC.seq (AC.reg [] [(I.mk (some 15) none false (X.v (A.mov (O.t 8)))), (I.mk (some 16) none false (X.v (A.mov (O.t 1)))), (I.mk (some 17) none false (X.v (A.mov (O.t 2)))), (I.mk (some 18) none false (X.call (O.k (V.fn 62 [] [])) [(O.t 15), (O.t 16), (O.t 17)])), (I.mk (some 19) none false (X.v (A.un UnOp.not (O.t 18))))] []) A132_5)
def A132_6 : AC := (AC.reg [] [(I.mk (some 20) none false (X.v (A.bin BinOp.add (O.t 11) (O.k (V.int IntKind.i64 (Int.ofNat 1)))))), (I.mk (some 11) none false (X.v (A.mov (O.t 20))))] [])
def A132_3 : AC := (AC.seq (AC.block 1 (AC.seq (AC.reg [] [(I.mk (some 13) none false (X.v (A.idx (O.t 9) (O.t 11) 1))), (I.mk (some 14) none false (X.v (A.load Sh.s (O.t 13)))), (I.mk (some 8) none false (X.v (A.mov (O.t 14))))] []) A132_4)) A132_6)
def A132_2 : AC := (AC.seq (AC.cond (O.t 12) AC.skip (AC.exit 0)) A132_3)
def A132_1 : AC := (AC.seq (AC.reg [] [(I.mk (some 12) none false (X.v (A.bin BinOp.lss (O.t 11) (O.t 10))))] []) A132_2)
def A132_7 : AC := (AC.seq (AC.reg [] [(I.mk (some 6) none false (X.v (A.mov (O.k (V.bool true)))))] []) AC.ret)
def A132_9 : AC := (AC.block 0 (AC.loop A132_1))
def A132_8 : AC := (AC.seq (AC.seq (AC.reg [] [(I.mk (some 9) none false (X.v (A.mov (O.t 0)))), (I.mk (some 10) none false (X.v (A.len (O.t 9)))), (I.mk (some 11) none false (X.v (A.mov (O.k (V.int IntKind.i64 (Int.ofNat 0))))))] []) A132_9) A132_7)
def A132 : AC := (AC.seq (AC.reg [] [(I.mk (some 6) none false (X.v (A.mov (O.k (V.bool false)))))] []) A132_8)
def an132 : List An := []
theorem c132 : cC Try.prog Try.f132.ntmps an132 (Try.f132.body.getD .skip) = some A132 := by kernel_rfl
structure H132 (D : Den) (σ : Sig) (F : Nat) : Prop where
  c62 : ∀ (x0 : Int) (x1 : Int) (x2 : Int) r, i_within F x0 x1 x2 = some r → D 62 [Enc.enc x0, Enc.enc x1, Enc.enc x2] = some (Enc.enc (r : Bool))
  g62 : σ 62 = some (0, false)
abbrev R132 (r : Bool) : (Nat → V) → Prop := RR Try.prog [.tmp 6] 0 false (Enc.enc (r : Bool))
section
variable {D : Den} {σ : Sig} {F : Nat} {r : Bool}
def i_allWithin_l1 (F : Nat) (low_2 : Int) (high_3 : Int) (list_1 : (List Int))  : Nat → Int → Option Bool
  | 0, _ => none
  | k + 1, t11_6 =>
    bif decide (t11_6 < (list_1.length : Int)) then
      (idx list_1 t11_6).bind fun e_9 =>
      (i_within F e_9 low_2 high_3).bind fun r_10 =>
      bif (!r_10) then
        some false
      else
        (i_allWithin_l1 F low_2 high_3 list_1 k) (w64 (t11_6 + 1))
    else
      some true
theorem t_f132_l1 (H : H132 D σ F) (low_2 : Int) (high_3 : Int) (list_1 : (List Int))  : ∀ (k : Nat) (t11_6 : Int) (s : Nat → V), Facts [(1, (.int .i64 low_2)), (2, (.int .i64 high_3)), (6, (.bool false)), (9, (Enc.enc (list_1 : List Int))), (10, (.int .i64 (list_1.length : Int))), (11, (.int .i64 t11_6))] s → i_allWithin_l1 F low_2 high_3 list_1 k t11_6 = some r → Run D σ (R132 r) (.run A132_1 [.lp A132_1, .bk 0, .sq A132_7]) s := by
  intro k
  induction k with
  | zero => intro t11_6 s _ h; exact nomatch (h : (none : Option _) = some r)
  | succ k ih =>
    intro t11_6 s hs h
    rw [i_allWithin_l1] at h
    obtain ⟨h1, h2, h6, h9, h10, h11⟩ := hs
    refine .seq ?_
    refine run_reg ?_
    refine e_end ?_
    refine g_v2 (t1 := 11) (t2 := 10) (u1 := (.int .i64 t11_6)) (u2 := (.int .i64 (list_1.length : Int))) (.bool (decide (t11_6 < (list_1.length : Int)))) h11 h10 rfl rfl ?_
    refine g_end ?_
    refine e_end ?_
    refine renew [(1, (.int .i64 low_2)), (2, (.int .i64 high_3)), (6, (.bool false)), (9, (Enc.enc (list_1 : List Int))), (10, (.int .i64 (list_1.length : Int))), (11, (.int .i64 t11_6)), (12, (.bool (decide (t11_6 < (list_1.length : Int)))))] ⟨h1, h2, h6, h9, h10, h11, rfl⟩ ?_
    rintro s ⟨h1, h2, h6, h9, h10, h11, h12⟩
    refine .nsq ?_
    refine .seq ?_
    refine run_cond (t := decide (t11_6 < (list_1.length : Int))) h12 h (fun h => ?_) (fun h => ?_)
    · refine .skip ?_
      refine .nsq ?_
      refine .seq ?_
      refine .block ?_
      refine .seq ?_
      refine run_reg ?_
      refine e_end ?_
      obtain ⟨e_9, E_e_9, h⟩ := bind_some h
      refine g_v (.ref .sh 0 [] (.int .i64 e_9)) (ev_idx (t := .sh) (lo := 0) (xs := list_1) h9 h11 E_e_9 rfl rfl) ?_
      refine g_v1 (t := 13) (u := (.ref .sh 0 [] (.int .i64 e_9))) (.int .i64 e_9) rfl rfl rfl ?_
      refine g_v1 (t := 14) (u := (.int .i64 e_9)) (.int .i64 e_9) rfl rfl rfl ?_
      refine g_end ?_
      refine e_end ?_
      refine renew [(1, (.int .i64 low_2)), (2, (.int .i64 high_3)), (6, (.bool false)), (8, (.int .i64 e_9)), (9, (Enc.enc (list_1 : List Int))), (10, (.int .i64 (list_1.length : Int))), (11, (.int .i64 t11_6))] ⟨h1, h2, h6, rfl, h9, h10, h11⟩ ?_
      rintro s ⟨h1, h2, h6, h8, h9, h10, h11⟩
      refine .nsq ?_
      refine .seq ?_
      refine run_reg ?_
      refine e_end ?_
      refine g_v1 (t := 8) (u := (.int .i64 e_9)) (.int .i64 e_9) h8 rfl rfl ?_
      refine g_v1 (t := 1) (u := (.int .i64 low_2)) (.int .i64 low_2) h1 rfl rfl ?_
      refine g_v1 (t := 2) (u := (.int .i64 high_3)) (.int .i64 high_3) h2 rfl rfl ?_
      obtain ⟨r_10, E_r_10, h⟩ := bind_some h
      refine g_call (m := 0) (al := false) (r := (Enc.enc (r_10 : Bool))) [Enc.enc (e_9 : Int), Enc.enc (low_2 : Int), Enc.enc (high_3 : Int)] (ta_cons (v := (.int .i64 e_9)) rfl rfl rfl (ta_cons (v := (.int .i64 low_2)) rfl rfl rfl (ta_cons (v := (.int .i64 high_3)) rfl rfl rfl ta_nil))) (H.c62 _ _ _ _ E_r_10) H.g62 rfl rfl rfl rfl ?_
      refine g_v1 (t := 18) (u := (.bool r_10)) (.bool (!r_10)) rfl rfl rfl ?_
      refine g_end ?_
      refine e_end ?_
      refine renew [(1, (.int .i64 low_2)), (2, (.int .i64 high_3)), (6, (.bool false)), (9, (Enc.enc (list_1 : List Int))), (10, (.int .i64 (list_1.length : Int))), (11, (.int .i64 t11_6)), (19, (.bool (!r_10)))] ⟨h1, h2, h6, h9, h10, h11, rfl⟩ ?_
      rintro s ⟨h1, h2, h6, h9, h10, h11, h19⟩
      refine .nsq ?_
      refine run_cond (t := (!r_10)) h19 h (fun h => ?_) (fun h => ?_)
      · refine .seq ?_
        refine run_reg ?_
        refine e_end ?_
        refine g_v0 (.bool false) rfl rfl ?_
        refine g_end ?_
        refine e_end ?_
        refine renew [(1, (.int .i64 low_2)), (2, (.int .i64 high_3)), (6, (.bool false)), (9, (Enc.enc (list_1 : List Int))), (10, (.int .i64 (list_1.length : Int))), (11, (.int .i64 t11_6))] ⟨h1, h2, rfl, h9, h10, h11⟩ ?_
        rintro s ⟨h1, h2, h6, h9, h10, h11⟩
        refine .nsq ?_
        refine .ret ?_
        have hr := Option.some.inj h
        subst hr
        exact rrA (res_tmp h6) rfl
      · refine .skip ?_
        refine .nbk ?_
        refine .nsq ?_
        refine run_reg ?_
        refine e_end ?_
        refine g_v1 (t := 11) (u := (.int .i64 t11_6)) (.int .i64 (w64 (t11_6 + 1))) h11 rfl rfl ?_
        refine g_v1 (t := 20) (u := (.int .i64 (w64 (t11_6 + 1)))) (.int .i64 (w64 (t11_6 + 1))) rfl rfl rfl ?_
        refine g_end ?_
        refine e_end ?_
        refine renew [(1, (.int .i64 low_2)), (2, (.int .i64 high_3)), (6, (.bool false)), (9, (Enc.enc (list_1 : List Int))), (10, (.int .i64 (list_1.length : Int))), (11, (.int .i64 (w64 (t11_6 + 1))))] ⟨h1, h2, h6, h9, h10, rfl⟩ ?_
        rintro s ⟨h1, h2, h6, h9, h10, h11⟩
        refine .nlp ?_
        exact ih (w64 (t11_6 + 1)) _ ⟨h1, h2, h6, h9, h10, h11⟩ h
    · refine .exit ?_
      refine .esq ?_
      refine .elp ?_
      refine .ebk ?_
      refine .nsq ?_
      refine .seq ?_
      refine run_reg ?_
      refine e_end ?_
      refine g_v0 (.bool true) rfl rfl ?_
      refine g_end ?_
      refine e_end ?_
      refine renew [(6, (.bool true))] rfl ?_
      rintro s h6
      refine .nsq ?_
      refine .ret ?_
      have hr := Option.some.inj h
      subst hr
      exact rrA (res_tmp h6) rfl
def i_allWithin (F : Nat) (list_1 : (List Int)) (low_2 : Int) (high_3 : Int) : Option Bool :=
  i_allWithin_l1 F low_2 high_3 list_1 F 0
theorem t132 (H : H132 D σ F) (list_1 : (List Int)) (low_2 : Int) (high_3 : Int) (s : Nat → V) (hs : Facts [(0, (Enc.enc (list_1 : List Int))), (1, (.int .i64 low_2)), (2, (.int .i64 high_3))] s) (h : i_allWithin F list_1 low_2 high_3 = some r) : Run D σ (R132 r) (.run A132 []) s := by
  unfold i_allWithin at h
  obtain ⟨h0, h1, h2⟩ := hs
  refine .seq ?_
  refine run_reg ?_
  refine e_end ?_
  refine g_v0 (.bool false) rfl rfl ?_
  refine g_end ?_
  refine e_end ?_
  refine renew [(0, (Enc.enc (list_1 : List Int))), (1, (.int .i64 low_2)), (2, (.int .i64 high_3)), (6, (.bool false))] ⟨h0, h1, h2, rfl⟩ ?_
  rintro s ⟨h0, h1, h2, h6⟩
  refine .nsq ?_
  refine .seq ?_
  refine .seq ?_
  refine run_reg ?_
  refine e_end ?_
  refine g_v1 (t := 0) (u := (Enc.enc (list_1 : List Int))) (Enc.enc (list_1 : List Int)) h0 rfl rfl ?_
  refine g_v (.int .i64 (list_1.length : Int)) (ev_len (xs := list_1) rfl) ?_
  refine g_v0 (.int .i64 0) rfl rfl ?_
  refine g_end ?_
  refine e_end ?_
  refine renew [(1, (.int .i64 low_2)), (2, (.int .i64 high_3)), (6, (.bool false)), (9, (Enc.enc (list_1 : List Int))), (10, (.int .i64 (list_1.length : Int))), (11, (.int .i64 0))] ⟨h1, h2, h6, rfl, rfl, rfl⟩ ?_
  rintro s ⟨h1, h2, h6, h9, h10, h11⟩
  refine .nsq ?_
  refine .block ?_
  refine .loop ?_
  exact t_f132_l1 H low_2 high_3 list_1 F 0 _ ⟨h1, h2, h6, h9, h10, h11⟩ h
end
def e132 (F : Nat) : Ent := ⟨132, da (fun (x : ((List Int) × Int × Int × Unit)) => i_allWithin F x.1 x.2.1 x.2.2.1) (fun (r : Bool) => (Enc.enc (r : Bool))), 0, false, selF []⟩
theorem p132 {F : Nat} {x0 : (List Int)} {x1 : Int} {x2 : Int} {r : Bool} (h : i_allWithin F x0 x1 x2 = some r) : (e132 F).den [Enc.enc x0, Enc.enc x1, Enc.enc x2] = some (Enc.enc (r : Bool)) := da_put (f := fun (x : ((List Int) × Int × Int × Unit)) => i_allWithin F x.1 x.2.1 x.2.2.1) (t := fun (r : Bool) => (Enc.enc (r : Bool))) (x0, x1, x2, ()) h
theorem o132 {D : Den} {σ : Sig} {F : Nat} (hF : Fits2 Try.prog D σ) (H : H132 D σ F) : (e132 F).Ok Try.prog := by
  refine ⟨fun args r h => ?_, ⟨Try.f132, Try.func132, rfl, rfl⟩⟩
  obtain ⟨⟨x0, x1, x2, _⟩, y, rfl, hy, rfl⟩ := da_open h
  exact contract_run hF (by kernel_rfl) Try.func132 rfl c132 (show 3 ≤ Try.f132.ntmps by decide) (t132 H x0 x1 x2 _ ⟨rfl, rfl, rfl⟩ hy)
/- loop.example/g01109/impl.hasNodes -/
def A116_1 : AC := (AC.seq (AC.reg [] [(I.mk (some 5) none false (X.v (A.load (Sh.ag [Sh.s, Sh.p]) (O.t 2)))), (I.mk (some 6) none false (X.call (O.k (V.fn 53 [] [])) [(O.t 5)])), (I.mk (some 7) none false (X.v (A.mov (O.t 6)))), (I.mk (some 8) (some (7, true)) false (X.v (A.mov (O.t 1)))), (I.mk (some 9) (some (7, true)) false (X.v (A.fld (O.t 2) 0 0))), (I.mk (some 10) (some (7, true)) false (X.v (A.load Sh.s (O.t 9)))), (I.mk (some 11) (some (7, true)) false (X.v (A.bin BinOp.sub (O.t 10) (O.k (V.int IntKind.i64 (Int.ofNat 1)))))), (I.mk (some 12) (some (7, true)) false (X.call (O.k (V.fn 132 [] [])) [(O.t 8), (O.k (V.int IntKind.i64 (Int.ofNat 0))), (O.t 11)])), (I.mk (some 13) none false (X.v (A.pick (O.t 7) (O.t 12) (O.k (V.bool false))))), (I.mk (some 4) none false (X.v (A.mov (O.t 13))))] []) AC.ret)
def A116 : AC := (AC.seq (AC.reg [.clr [2]] [(I.mk (some 2) none false (X.box (O.t 0))), (I.mk (some 4) none false (X.v (A.mov (O.k (V.bool false)))))] []) A116_1)
def an116 : List An := [{ id := 0, pre := [.clr [2]], ep := [], lin := [], sp := [] }]
theorem c116 : cC Try.prog Try.f116.ntmps an116 (Try.f116.body.getD .skip) = some A116 := by kernel_rfl
structure H116 (D : Den) (σ : Sig) (F : Nat) : Prop where
  c53 : ∀ (x0 : (Int × (List (Int × Int)))) r, i_IsGraph F x0 = some r → D 53 [Enc.enc x0] = some (Enc.enc (r : Bool))
  g53 : σ 53 = some (0, false)
  c132 : ∀ (x0 : (List Int)) (x1 : Int) (x2 : Int) r, i_allWithin F x0 x1 x2 = some r → D 132 [Enc.enc x0, Enc.enc x1, Enc.enc x2] = some (Enc.enc (r : Bool))
  g132 : σ 132 = some (0, false)
abbrev R116 (r : Bool) : (Nat → V) → Prop := RR Try.prog [.tmp 4] 0 false (Enc.enc (r : Bool))
section
variable {D : Den} {σ : Sig} {F : Nat} {r : Bool}
def i_hasNodes (F : Nat) (g_1 : (Int × (List (Int × Int)))) (nodes_2 : (List Int)) : Option Bool :=
  (i_IsGraph F g_1).bind fun r_3 =>
  bif r_3 then
    (i_allWithin F nodes_2 0 (w64 (g_1.1 - 1))).bind fun r_4 =>
    some r_4
  else
    some false
theorem t116 (H : H116 D σ F) (g_1 : (Int × (List (Int × Int)))) (nodes_2 : (List Int)) (s : Nat → V) (hs : Facts [(0, (.agg [(.int .i64 g_1.1), (Enc.enc (g_1.2 : List (Int × Int)))])), (1, (Enc.enc (nodes_2 : List Int)))] s) (h : i_hasNodes F g_1 nodes_2 = some r) : Run D σ (R116 r) (.run A116 []) s := by
  unfold i_hasNodes at h
  obtain ⟨h0, h1⟩ := hs
  refine .seq ?_
  refine run_reg ?_
  refine e_clr ?_
  refine e_end ?_
  refine g_box (.agg [(.int .i64 g_1.1), (Enc.enc (g_1.2 : List (Int × Int)))]) (rd_of (keep_clear (s := s) (pk := [2]) h0 rfl (map_agg (maps_cons rfl (maps_cons (Enc.map_enc _ (g_1.2 : List (Int × Int))) maps_nil)))) rfl) (gone_clear (s := s) (pk := [2]) (t := 2) rfl) rfl ?_
  refine g_v0 (.bool false) rfl rfl ?_
  refine g_end ?_
  refine e_end ?_
  refine renew [(1, (Enc.enc (nodes_2 : List Int))), (2, (.ref (.bx 2) 0 [] (.agg [(.int .i64 g_1.1), (Enc.enc (g_1.2 : List (Int × Int)))]))), (4, (.bool false))] ⟨(keep_clear (s := s) (pk := [2]) h1 rfl (Enc.map_enc _ (nodes_2 : List Int))), rfl, rfl⟩ ?_
  rintro s ⟨h1, h2, h4⟩
  refine .nsq ?_
  refine .seq ?_
  refine run_reg ?_
  refine e_end ?_
  refine g_v1 (t := 2) (u := (.ref (.bx 2) 0 [] (.agg [(.int .i64 g_1.1), (Enc.enc (g_1.2 : List (Int × Int)))]))) (.agg [(.int .i64 g_1.1), (Enc.enc (g_1.2 : List (Int × Int)))]) h2 rfl rfl ?_
  obtain ⟨r_3, E_r_3, h⟩ := bind_some h
  refine g_call (m := 0) (al := false) (r := (Enc.enc (r_3 : Bool))) [Enc.enc (g_1 : (Int × (List (Int × Int))))] (ta_cons (v := (.agg [(.int .i64 g_1.1), (Enc.enc (g_1.2 : List (Int × Int)))])) rfl rfl (Enc.erase_enc (g_1 : (Int × (List (Int × Int))))) ta_nil) (H.c53 _ _ E_r_3) H.g53 rfl rfl rfl rfl ?_
  refine g_v1 (t := 6) (u := (.bool r_3)) (.bool r_3) rfl rfl rfl ?_
  refine split_on (c := r_3) h (fun hg3 h => ?_) (fun hg3 h => ?_)
  · refine g_yes (Eq.trans (b := .bool r_3) rfl (congrArg V.bool hg3)) (g_v1 (t := 1) (u := (Enc.enc (nodes_2 : List Int))) (Enc.enc (nodes_2 : List Int)) h1 rfl rfl ?_)
    refine g_yes (Eq.trans (b := .bool r_3) rfl (congrArg V.bool hg3)) (g_v1 (t := 2) (u := (.ref (.bx 2) 0 [] (.agg [(.int .i64 g_1.1), (Enc.enc (g_1.2 : List (Int × Int)))]))) (.ref (.bx 2) 0 [0] (.int .i64 g_1.1)) h2 rfl rfl ?_)
    refine g_yes (Eq.trans (b := .bool r_3) rfl (congrArg V.bool hg3)) (g_v1 (t := 9) (u := (.ref (.bx 2) 0 [0] (.int .i64 g_1.1))) (.int .i64 g_1.1) rfl rfl rfl ?_)
    refine g_yes (Eq.trans (b := .bool r_3) rfl (congrArg V.bool hg3)) (g_v1 (t := 10) (u := (.int .i64 g_1.1)) (.int .i64 (w64 (g_1.1 - 1))) rfl rfl rfl ?_)
    obtain ⟨r_4, E_r_4, h⟩ := bind_some h
    refine g_yes (Eq.trans (b := .bool r_3) rfl (congrArg V.bool hg3)) (g_call (m := 0) (al := false) (r := (Enc.enc (r_4 : Bool))) [Enc.enc (nodes_2 : (List Int)), Enc.enc (0 : Int), Enc.enc (w64 (g_1.1 - 1) : Int)] (ta_cons (v := (Enc.enc (nodes_2 : List Int))) rfl rfl (Enc.erase_enc (nodes_2 : (List Int))) (ta_cons (v := (.int .i64 0)) rfl rfl rfl (ta_cons (v := (.int .i64 (w64 (g_1.1 - 1)))) rfl rfl rfl ta_nil))) (H.c132 _ _ _ _ E_r_4) H.g132 rfl rfl rfl rfl ?_)
    refine g_v2 (t1 := 7) (t2 := 12) (u1 := (.bool true)) (u2 := (.bool r_4)) (.bool r_4) (Eq.trans (b := .bool r_3) rfl (congrArg V.bool hg3)) rfl rfl rfl ?_
    refine g_v1 (t := 13) (u := (.bool r_4)) (.bool r_4) rfl rfl rfl ?_
    refine g_end ?_
    refine e_end ?_
    refine renew [(4, (.bool r_4))] rfl ?_
    rintro s h4
    refine .nsq ?_
    refine .ret ?_
    have hr := Option.some.inj h
    subst hr
    exact rrA (res_tmp h4) rfl
  · refine g_no (Eq.trans (b := .bool r_3) rfl (congrArg V.bool hg3)) ?_
    refine g_no (Eq.trans (b := .bool r_3) rfl (congrArg V.bool hg3)) ?_
    refine g_no (Eq.trans (b := .bool r_3) rfl (congrArg V.bool hg3)) ?_
    refine g_no (Eq.trans (b := .bool r_3) rfl (congrArg V.bool hg3)) ?_
    refine g_no (Eq.trans (b := .bool r_3) rfl (congrArg V.bool hg3)) ?_
    refine g_v2 (t1 := 7) (t2 := 12) (u1 := (.bool false)) (u2 := (.tup [])) (.bool false) (Eq.trans (b := .bool r_3) rfl (congrArg V.bool hg3)) rfl rfl rfl ?_
    refine g_v1 (t := 13) (u := (.bool false)) (.bool false) rfl rfl rfl ?_
    refine g_end ?_
    refine e_end ?_
    refine renew [(4, (.bool false))] rfl ?_
    rintro s h4
    refine .nsq ?_
    refine .ret ?_
    have hr := Option.some.inj h
    subst hr
    exact rrA (res_tmp h4) rfl
end
def e116 (F : Nat) : Ent := ⟨116, da (fun (x : ((Int × (List (Int × Int))) × (List Int) × Unit)) => i_hasNodes F x.1 x.2.1) (fun (r : Bool) => (Enc.enc (r : Bool))), 0, false, selF []⟩
theorem p116 {F : Nat} {x0 : (Int × (List (Int × Int)))} {x1 : (List Int)} {r : Bool} (h : i_hasNodes F x0 x1 = some r) : (e116 F).den [Enc.enc x0, Enc.enc x1] = some (Enc.enc (r : Bool)) := da_put (f := fun (x : ((Int × (List (Int × Int))) × (List Int) × Unit)) => i_hasNodes F x.1 x.2.1) (t := fun (r : Bool) => (Enc.enc (r : Bool))) (x0, x1, ()) h
theorem o116 {D : Den} {σ : Sig} {F : Nat} (hF : Fits2 Try.prog D σ) (H : H116 D σ F) : (e116 F).Ok Try.prog := by
  refine ⟨fun args r h => ?_, ⟨Try.f116, Try.func116, rfl, rfl⟩⟩
  obtain ⟨⟨x0, x1, _⟩, y, rfl, hy, rfl⟩ := da_open h
  exact contract_run hF (by kernel_rfl) Try.func116 rfl c116 (show 2 ≤ Try.f116.ntmps by decide) (t116 H x0 x1 _ ⟨rfl, rfl⟩ hy)
/- loop.example/g01109/impl.increasing -/
def A117_2 : AC := (AC.cond (O.t 7) AC.skip (AC.exit 0))
def A117_4 : AC := (AC.cond (O.t 19) (AC.seq (AC.reg [] [(I.mk (some 2) none false (X.v (A.mov (O.k (V.bool false)))))] []) AC.ret) AC.skip)
def A117_5 : AC := (AC.reg [] [(I.mk (some 8) none false (X.v (A.mov (O.t 3)))), (I.mk (some 9) none false (X.v (A.bin BinOp.add (O.t 8) (O.k (V.int IntKind.i64 (Int.ofNat 1)))))), (I.mk (some 3) none false (X.v (A.mov (O.t 9))))] [])
def A117_3 : AC := (AC.seq (AC.block 1 (AC.seq (AC.reg [] [(I.mk (some 10) none false (X.v (A.mov (O.t 0)))), (I.mk (some 11) none false (X.v (A.mov (O.t 3)))), (I.mk (some 12) none false (X.v (A.bin BinOp.sub (O.t 11) (O.k (V.int IntKind.i64 (Int.ofNat 1)))))), (I.mk (some 13) none false (X.v (A.idx (O.t 10) (O.t 12) 1))), (I.mk (some 14) none false (X.v (A.load Sh.s (O.t 13)))), (I.mk (some 15) none false (X.v (A.mov (O.t 0)))), (I.mk (some 16) none false (X.v (A.mov (O.t 3)))), (I.mk (some 17) none false (X.v (A.idx (O.t 15) (O.t 16) 1))), (I.mk (some 18) none false (X.v (A.load Sh.s (O.t 17)))), (I.mk (some 19) none false (X.v (A.bin BinOp.geq (O.t 14) (O.t 18))))] []) A117_4)) A117_5)
def A117_1 : AC := (AC.seq (AC.seq (AC.reg [] [(I.mk (some 4) none false (X.v (A.mov (O.t 3)))), (I.mk (some 5) none false (X.v (A.mov (O.t 0)))), (I.mk (some 6) none false (X.v (A.len (O.t 5)))), (I.mk (some 7) none false (X.v (A.bin BinOp.lss (O.t 4) (O.t 6))))] []) A117_2) A117_3)
def A117_6 : AC := (AC.seq (AC.reg [] [(I.mk (some 2) none false (X.v (A.mov (O.k (V.bool true)))))] []) AC.ret)
def A117_8 : AC := (AC.block 0 (AC.loop A117_1))
def A117_7 : AC := (AC.seq (AC.seq (AC.reg [] [(I.mk (some 3) none false (X.v (A.mov (O.k (V.int IntKind.i64 (Int.ofNat 1))))))] []) A117_8) A117_6)
def A117 : AC := (AC.seq (AC.reg [] [(I.mk (some 2) none false (X.v (A.mov (O.k (V.bool false)))))] []) A117_7)
def an117 : List An := []
theorem c117 : cC Try.prog Try.f117.ntmps an117 (Try.f117.body.getD .skip) = some A117 := by kernel_rfl
structure H117 (D : Den) (σ : Sig) (F : Nat) : Prop where
  mk ::
abbrev R117 (r : Bool) : (Nat → V) → Prop := RR Try.prog [.tmp 2] 0 false (Enc.enc (r : Bool))
section
variable {D : Den} {σ : Sig} {F : Nat} {r : Bool}
def i_increasing_l1 (F : Nat) (list_1 : (List Int))  : Nat → Int → Option Bool
  | 0, _ => none
  | k + 1, i_4 =>
    bif decide (i_4 < (list_1.length : Int)) then
      (idx list_1 (w64 (i_4 - 1))).bind fun e_7 =>
      (idx list_1 i_4).bind fun e_8 =>
      bif decide (e_7 ≥ e_8) then
        some false
      else
        (i_increasing_l1 F list_1 k) (w64 (i_4 + 1))
    else
      some true
theorem t_f117_l1 (H : H117 D σ F) (list_1 : (List Int))  : ∀ (k : Nat) (i_4 : Int) (s : Nat → V), Facts [(0, (Enc.enc (list_1 : List Int))), (2, (.bool false)), (3, (.int .i64 i_4))] s → i_increasing_l1 F list_1 k i_4 = some r → Run D σ (R117 r) (.run A117_1 [.lp A117_1, .bk 0, .sq A117_6]) s := by
  intro k
  induction k with
  | zero => intro i_4 s _ h; exact nomatch (h : (none : Option _) = some r)
  | succ k ih =>
    intro i_4 s hs h
    rw [i_increasing_l1] at h
    obtain ⟨h0, h2, h3⟩ := hs
    refine .seq ?_
    refine .seq ?_
    refine run_reg ?_
    refine e_end ?_
    refine g_v1 (t := 3) (u := (.int .i64 i_4)) (.int .i64 i_4) h3 rfl rfl ?_
    refine g_v1 (t := 0) (u := (Enc.enc (list_1 : List Int))) (Enc.enc (list_1 : List Int)) h0 rfl rfl ?_
    refine g_v (.int .i64 (list_1.length : Int)) (ev_len (xs := list_1) rfl) ?_
    refine g_v2 (t1 := 4) (t2 := 6) (u1 := (.int .i64 i_4)) (u2 := (.int .i64 (list_1.length : Int))) (.bool (decide (i_4 < (list_1.length : Int)))) rfl rfl rfl rfl ?_
    refine g_end ?_
    refine e_end ?_
    refine renew [(0, (Enc.enc (list_1 : List Int))), (2, (.bool false)), (3, (.int .i64 i_4)), (7, (.bool (decide (i_4 < (list_1.length : Int)))))] ⟨h0, h2, h3, rfl⟩ ?_
    rintro s ⟨h0, h2, h3, h7⟩
    refine .nsq ?_
    refine run_cond (t := decide (i_4 < (list_1.length : Int))) h7 h (fun h => ?_) (fun h => ?_)
    · refine .skip ?_
      refine .nsq ?_
      refine .seq ?_
      refine .block ?_
      refine .seq ?_
      refine run_reg ?_
      refine e_end ?_
      refine g_v1 (t := 0) (u := (Enc.enc (list_1 : List Int))) (Enc.enc (list_1 : List Int)) h0 rfl rfl ?_
      refine g_v1 (t := 3) (u := (.int .i64 i_4)) (.int .i64 i_4) h3 rfl rfl ?_
      refine g_v1 (t := 11) (u := (.int .i64 i_4)) (.int .i64 (w64 (i_4 - 1))) rfl rfl rfl ?_
      obtain ⟨e_7, E_e_7, h⟩ := bind_some h
      refine g_v (.ref .sh 0 [] (.int .i64 e_7)) (ev_idx (t := .sh) (lo := 0) (xs := list_1) rfl rfl E_e_7 rfl rfl) ?_
      refine g_v1 (t := 13) (u := (.ref .sh 0 [] (.int .i64 e_7))) (.int .i64 e_7) rfl rfl rfl ?_
      refine g_v1 (t := 0) (u := (Enc.enc (list_1 : List Int))) (Enc.enc (list_1 : List Int)) h0 rfl rfl ?_
      refine g_v1 (t := 3) (u := (.int .i64 i_4)) (.int .i64 i_4) h3 rfl rfl ?_
      obtain ⟨e_8, E_e_8, h⟩ := bind_some h
      refine g_v (.ref .sh 0 [] (.int .i64 e_8)) (ev_idx (t := .sh) (lo := 0) (xs := list_1) rfl rfl E_e_8 rfl rfl) ?_
      refine g_v1 (t := 17) (u := (.ref .sh 0 [] (.int .i64 e_8))) (.int .i64 e_8) rfl rfl rfl ?_
      refine g_v2 (t1 := 14) (t2 := 18) (u1 := (.int .i64 e_7)) (u2 := (.int .i64 e_8)) (.bool (decide (e_7 ≥ e_8))) rfl rfl rfl rfl ?_
      refine g_end ?_
      refine e_end ?_
      refine renew [(0, (Enc.enc (list_1 : List Int))), (2, (.bool false)), (3, (.int .i64 i_4)), (19, (.bool (decide (e_7 ≥ e_8))))] ⟨h0, h2, h3, rfl⟩ ?_
      rintro s ⟨h0, h2, h3, h19⟩
      refine .nsq ?_
      refine run_cond (t := decide (e_7 ≥ e_8)) h19 h (fun h => ?_) (fun h => ?_)
      · refine .seq ?_
        refine run_reg ?_
        refine e_end ?_
        refine g_v0 (.bool false) rfl rfl ?_
        refine g_end ?_
        refine e_end ?_
        refine renew [(0, (Enc.enc (list_1 : List Int))), (2, (.bool false)), (3, (.int .i64 i_4))] ⟨h0, rfl, h3⟩ ?_
        rintro s ⟨h0, h2, h3⟩
        refine .nsq ?_
        refine .ret ?_
        have hr := Option.some.inj h
        subst hr
        exact rrA (res_tmp h2) rfl
      · refine .skip ?_
        refine .nbk ?_
        refine .nsq ?_
        refine run_reg ?_
        refine e_end ?_
        refine g_v1 (t := 3) (u := (.int .i64 i_4)) (.int .i64 i_4) h3 rfl rfl ?_
        refine g_v1 (t := 8) (u := (.int .i64 i_4)) (.int .i64 (w64 (i_4 + 1))) rfl rfl rfl ?_
        refine g_v1 (t := 9) (u := (.int .i64 (w64 (i_4 + 1)))) (.int .i64 (w64 (i_4 + 1))) rfl rfl rfl ?_
        refine g_end ?_
        refine e_end ?_
        refine renew [(0, (Enc.enc (list_1 : List Int))), (2, (.bool false)), (3, (.int .i64 (w64 (i_4 + 1))))] ⟨h0, h2, rfl⟩ ?_
        rintro s ⟨h0, h2, h3⟩
        refine .nlp ?_
        exact ih (w64 (i_4 + 1)) _ ⟨h0, h2, h3⟩ h
    · refine .exit ?_
      refine .esq ?_
      refine .elp ?_
      refine .ebk ?_
      refine .nsq ?_
      refine .seq ?_
      refine run_reg ?_
      refine e_end ?_
      refine g_v0 (.bool true) rfl rfl ?_
      refine g_end ?_
      refine e_end ?_
      refine renew [(2, (.bool true))] rfl ?_
      rintro s h2
      refine .nsq ?_
      refine .ret ?_
      have hr := Option.some.inj h
      subst hr
      exact rrA (res_tmp h2) rfl
def i_increasing (F : Nat) (list_1 : (List Int)) : Option Bool :=
  i_increasing_l1 F list_1 F 1
theorem t117 (H : H117 D σ F) (list_1 : (List Int)) (s : Nat → V) (hs : Facts [(0, (Enc.enc (list_1 : List Int)))] s) (h : i_increasing F list_1 = some r) : Run D σ (R117 r) (.run A117 []) s := by
  unfold i_increasing at h
  have h0 := hs
  refine .seq ?_
  refine run_reg ?_
  refine e_end ?_
  refine g_v0 (.bool false) rfl rfl ?_
  refine g_end ?_
  refine e_end ?_
  refine renew [(0, (Enc.enc (list_1 : List Int))), (2, (.bool false))] ⟨h0, rfl⟩ ?_
  rintro s ⟨h0, h2⟩
  refine .nsq ?_
  refine .seq ?_
  refine .seq ?_
  refine run_reg ?_
  refine e_end ?_
  refine g_v0 (.int .i64 1) rfl rfl ?_
  refine g_end ?_
  refine e_end ?_
  refine renew [(0, (Enc.enc (list_1 : List Int))), (2, (.bool false)), (3, (.int .i64 1))] ⟨h0, h2, rfl⟩ ?_
  rintro s ⟨h0, h2, h3⟩
  refine .nsq ?_
  refine .block ?_
  refine .loop ?_
  exact t_f117_l1 H list_1 F 1 _ ⟨h0, h2, h3⟩ h
end
def e117 (F : Nat) : Ent := ⟨117, da (fun (x : ((List Int) × Unit)) => i_increasing F x.1) (fun (r : Bool) => (Enc.enc (r : Bool))), 0, false, selF []⟩
theorem p117 {F : Nat} {x0 : (List Int)} {r : Bool} (h : i_increasing F x0 = some r) : (e117 F).den [Enc.enc x0] = some (Enc.enc (r : Bool)) := da_put (f := fun (x : ((List Int) × Unit)) => i_increasing F x.1) (t := fun (r : Bool) => (Enc.enc (r : Bool))) (x0, ()) h
theorem o117 {D : Den} {σ : Sig} {F : Nat} (hF : Fits2 Try.prog D σ) (H : H117 D σ F) : (e117 F).Ok Try.prog := by
  refine ⟨fun args r h => ?_, ⟨Try.f117, Try.func117, rfl, rfl⟩⟩
  obtain ⟨⟨x0, _⟩, y, rfl, hy, rfl⟩ := da_open h
  exact contract_run hF (by kernel_rfl) Try.func117 rfl c117 (show 1 ≤ Try.f117.ntmps by decide) (t117 H x0 _ rfl hy)
/- loop.example/g01109/impl.isSet -/
def A84_1 : AC := (AC.seq (AC.reg [] [(I.mk (some 5) none false (X.v (A.load (Sh.ag [Sh.s, Sh.p]) (O.t 2)))), (I.mk (some 6) none false (X.v (A.mov (O.t 1)))), (I.mk (some 7) none false (X.call (O.k (V.fn 116 [] [])) [(O.t 5), (O.t 6)])), (I.mk (some 8) none false (X.v (A.mov (O.t 7)))), (I.mk (some 9) (some (8, true)) false (X.v (A.mov (O.t 1)))), (I.mk (some 10) (some (8, true)) false (X.call (O.k (V.fn 117 [] [])) [(O.t 9)])), (I.mk (some 11) none false (X.v (A.pick (O.t 8) (O.t 10) (O.k (V.bool false))))), (I.mk (some 4) none false (X.v (A.mov (O.t 11))))] []) AC.ret)
def A84 : AC := (AC.seq (AC.reg [.clr [2]] [(I.mk (some 2) none false (X.box (O.t 0))), (I.mk (some 4) none false (X.v (A.mov (O.k (V.bool false)))))] []) A84_1)
def an84 : List An := [{ id := 0, pre := [.clr [2]], ep := [], lin := [], sp := [] }]
theorem c84 : cC Try.prog Try.f84.ntmps an84 (Try.f84.body.getD .skip) = some A84 := by kernel_rfl
structure H84 (D : Den) (σ : Sig) (F : Nat) : Prop where
  c116 : ∀ (x0 : (Int × (List (Int × Int)))) (x1 : (List Int)) r, i_hasNodes F x0 x1 = some r → D 116 [Enc.enc x0, Enc.enc x1] = some (Enc.enc (r : Bool))
  g116 : σ 116 = some (0, false)
  c117 : ∀ (x0 : (List Int)) r, i_increasing F x0 = some r → D 117 [Enc.enc x0] = some (Enc.enc (r : Bool))
  g117 : σ 117 = some (0, false)
abbrev R84 (r : Bool) : (Nat → V) → Prop := RR Try.prog [.tmp 4] 0 false (Enc.enc (r : Bool))
section
variable {D : Den} {σ : Sig} {F : Nat} {r : Bool}
def i_isSet (F : Nat) (g_1 : (Int × (List (Int × Int)))) (set_2 : (List Int)) : Option Bool :=
  (i_hasNodes F g_1 set_2).bind fun r_3 =>
  bif r_3 then
    (i_increasing F set_2).bind fun r_4 =>
    some r_4
  else
    some false
theorem t84 (H : H84 D σ F) (g_1 : (Int × (List (Int × Int)))) (set_2 : (List Int)) (s : Nat → V) (hs : Facts [(0, (.agg [(.int .i64 g_1.1), (Enc.enc (g_1.2 : List (Int × Int)))])), (1, (Enc.enc (set_2 : List Int)))] s) (h : i_isSet F g_1 set_2 = some r) : Run D σ (R84 r) (.run A84 []) s := by
  unfold i_isSet at h
  obtain ⟨h0, h1⟩ := hs
  refine .seq ?_
  refine run_reg ?_
  refine e_clr ?_
  refine e_end ?_
  refine g_box (.agg [(.int .i64 g_1.1), (Enc.enc (g_1.2 : List (Int × Int)))]) (rd_of (keep_clear (s := s) (pk := [2]) h0 rfl (map_agg (maps_cons rfl (maps_cons (Enc.map_enc _ (g_1.2 : List (Int × Int))) maps_nil)))) rfl) (gone_clear (s := s) (pk := [2]) (t := 2) rfl) rfl ?_
  refine g_v0 (.bool false) rfl rfl ?_
  refine g_end ?_
  refine e_end ?_
  refine renew [(1, (Enc.enc (set_2 : List Int))), (2, (.ref (.bx 2) 0 [] (.agg [(.int .i64 g_1.1), (Enc.enc (g_1.2 : List (Int × Int)))]))), (4, (.bool false))] ⟨(keep_clear (s := s) (pk := [2]) h1 rfl (Enc.map_enc _ (set_2 : List Int))), rfl, rfl⟩ ?_
  rintro s ⟨h1, h2, h4⟩
  refine .nsq ?_
  refine .seq ?_
  refine run_reg ?_
  refine e_end ?_
  refine g_v1 (t := 2) (u := (.ref (.bx 2) 0 [] (.agg [(.int .i64 g_1.1), (Enc.enc (g_1.2 : List (Int × Int)))]))) (.agg [(.int .i64 g_1.1), (Enc.enc (g_1.2 : List (Int × Int)))]) h2 rfl rfl ?_
  refine g_v1 (t := 1) (u := (Enc.enc (set_2 : List Int))) (Enc.enc (set_2 : List Int)) h1 rfl rfl ?_
  obtain ⟨r_3, E_r_3, h⟩ := bind_some h
  refine g_call (m := 0) (al := false) (r := (Enc.enc (r_3 : Bool))) [Enc.enc (g_1 : (Int × (List (Int × Int)))), Enc.enc (set_2 : (List Int))] (ta_cons (v := (.agg [(.int .i64 g_1.1), (Enc.enc (g_1.2 : List (Int × Int)))])) rfl rfl (Enc.erase_enc (g_1 : (Int × (List (Int × Int))))) (ta_cons (v := (Enc.enc (set_2 : List Int))) rfl rfl (Enc.erase_enc (set_2 : (List Int))) ta_nil)) (H.c116 _ _ _ E_r_3) H.g116 rfl rfl rfl rfl ?_
  refine g_v1 (t := 7) (u := (.bool r_3)) (.bool r_3) rfl rfl rfl ?_
  refine split_on (c := r_3) h (fun hg4 h => ?_) (fun hg4 h => ?_)
  · refine g_yes (Eq.trans (b := .bool r_3) rfl (congrArg V.bool hg4)) (g_v1 (t := 1) (u := (Enc.enc (set_2 : List Int))) (Enc.enc (set_2 : List Int)) h1 rfl rfl ?_)
    obtain ⟨r_4, E_r_4, h⟩ := bind_some h
    refine g_yes (Eq.trans (b := .bool r_3) rfl (congrArg V.bool hg4)) (g_call (m := 0) (al := false) (r := (Enc.enc (r_4 : Bool))) [Enc.enc (set_2 : (List Int))] (ta_cons (v := (Enc.enc (set_2 : List Int))) rfl rfl (Enc.erase_enc (set_2 : (List Int))) ta_nil) (H.c117 _ _ E_r_4) H.g117 rfl rfl rfl rfl ?_)
    refine g_v2 (t1 := 8) (t2 := 10) (u1 := (.bool true)) (u2 := (.bool r_4)) (.bool r_4) (Eq.trans (b := .bool r_3) rfl (congrArg V.bool hg4)) rfl rfl rfl ?_
    refine g_v1 (t := 11) (u := (.bool r_4)) (.bool r_4) rfl rfl rfl ?_
    refine g_end ?_
    refine e_end ?_
    refine renew [(4, (.bool r_4))] rfl ?_
    rintro s h4
    refine .nsq ?_
    refine .ret ?_
    have hr := Option.some.inj h
    subst hr
    exact rrA (res_tmp h4) rfl
  · refine g_no (Eq.trans (b := .bool r_3) rfl (congrArg V.bool hg4)) ?_
    refine g_no (Eq.trans (b := .bool r_3) rfl (congrArg V.bool hg4)) ?_
    refine g_v2 (t1 := 8) (t2 := 10) (u1 := (.bool false)) (u2 := (.tup [])) (.bool false) (Eq.trans (b := .bool r_3) rfl (congrArg V.bool hg4)) rfl rfl rfl ?_
    refine g_v1 (t := 11) (u := (.bool false)) (.bool false) rfl rfl rfl ?_
    refine g_end ?_
    refine e_end ?_
    refine renew [(4, (.bool false))] rfl ?_
    rintro s h4
    refine .nsq ?_
    refine .ret ?_
    have hr := Option.some.inj h
    subst hr
    exact rrA (res_tmp h4) rfl
end
def e84 (F : Nat) : Ent := ⟨84, da (fun (x : ((Int × (List (Int × Int))) × (List Int) × Unit)) => i_isSet F x.1 x.2.1) (fun (r : Bool) => (Enc.enc (r : Bool))), 0, false, selF []⟩
theorem p84 {F : Nat} {x0 : (Int × (List (Int × Int)))} {x1 : (List Int)} {r : Bool} (h : i_isSet F x0 x1 = some r) : (e84 F).den [Enc.enc x0, Enc.enc x1] = some (Enc.enc (r : Bool)) := da_put (f := fun (x : ((Int × (List (Int × Int))) × (List Int) × Unit)) => i_isSet F x.1 x.2.1) (t := fun (r : Bool) => (Enc.enc (r : Bool))) (x0, x1, ()) h
theorem o84 {D : Den} {σ : Sig} {F : Nat} (hF : Fits2 Try.prog D σ) (H : H84 D σ F) : (e84 F).Ok Try.prog := by
  refine ⟨fun args r h => ?_, ⟨Try.f84, Try.func84, rfl, rfl⟩⟩
  obtain ⟨⟨x0, x1, _⟩, y, rfl, hy, rfl⟩ := da_open h
  exact contract_run hF (by kernel_rfl) Try.func84 rfl c84 (show 2 ≤ Try.f84.ntmps by decide) (t84 H x0 x1 _ ⟨rfl, rfl⟩ hy)
/- loop.example/g01109/impl.netOf -/
def A67_5 : AC := (AC.reg [] [(I.mk (some 28) none false (X.v (A.fld (O.t 3) 0 0))), (I.mk (some 29) none false (X.v (A.load Sh.p (O.t 28)))), (I.mk (some 30) none false (X.v (A.idxA (O.t 5) (O.k (V.int IntKind.i64 (Int.ofNat 1))) 2 1))), (I.mk (some 31) none false (X.v (A.load Sh.s (O.t 30)))), (I.mk (some 32) none false (X.v (A.idx (O.t 29) (O.t 31) 1))), (I.mk (some 33) none false (X.v (A.load Sh.s (O.t 32)))), (I.mk (some 34) none false (X.v (A.idxA (O.t 5) (O.k (V.int IntKind.i64 (Int.ofNat 0))) 2 1))), (I.mk (some 35) none false (X.v (A.load Sh.s (O.t 34)))), (I.mk (some 36) none false (X.v (A.bin BinOp.shl (O.k (V.int IntKind.i64 (Int.ofNat 1))) (O.t 35)))), (I.mk (some 37) none false (X.v (A.bin BinOp.or (O.t 33) (O.t 36)))), (I.mk (some 38) none false (X.v (A.idx (O.t 29) (O.t 31) 1))), (I.mk none none false (X.store Sh.s (O.t 38) (O.t 37)))] [])
def A67_4 : AC := (AC.seq (AC.reg [] [(I.mk (some 17) none false (X.v (A.fld (O.t 3) 0 0))), (I.mk (some 18) none false (X.v (A.load Sh.p (O.t 17)))), (I.mk (some 19) none false (X.v (A.idxA (O.t 5) (O.k (V.int IntKind.i64 (Int.ofNat 0))) 2 1))), (I.mk (some 20) none false (X.v (A.load Sh.s (O.t 19)))), (I.mk (some 21) none false (X.v (A.idx (O.t 18) (O.t 20) 1))), (I.mk (some 22) none false (X.v (A.load Sh.s (O.t 21)))), (I.mk (some 23) none false (X.v (A.idxA (O.t 5) (O.k (V.int IntKind.i64 (Int.ofNat 1))) 2 1))), (I.mk (some 24) none false (X.v (A.load Sh.s (O.t 23)))), (I.mk (some 25) none false (X.v (A.bin BinOp.shl (O.k (V.int IntKind.i64 (Int.ofNat 1))) (O.t 24)))), (I.mk (some 26) none false (X.v (A.bin BinOp.or (O.t 22) (O.t 25)))), (I.mk (some 27) none false (X.v (A.idx (O.t 18) (O.t 20) 1))), (I.mk none none false (X.store Sh.s (O.t 27) (O.t 26)))] []) A67_5)
def A67_6 : AC := (AC.reg [] [(I.mk (some 39) none false (X.v (A.bin BinOp.add (O.t 13) (O.k (V.int IntKind.i64 (Int.ofNat 1)))))), (I.mk (some 13) none false (X.v (A.mov (O.t 39))))] [])
def A67_3 : AC := (AC.seq (AC.block 1 (AC.seq (AC.reg [.clr [5]] [(I.mk (some 15) none false (X.v (A.idx (O.t 11) (O.t 13) 2))), (I.mk (some 16) none false (X.v (A.load (Sh.ag [Sh.s, Sh.s]) (O.t 15)))), (I.mk (some 5) none false (X.alloc (V.agg [(V.int IntKind.i64 (Int.ofNat 0)), (V.int IntKind.i64 (Int.ofNat 0))]))), (I.mk none none false (X.store (Sh.ag [Sh.s, Sh.s]) (O.t 5) (O.t 16)))] []) A67_4)) A67_6)
def A67_2 : AC := (AC.seq (AC.cond (O.t 14) AC.skip (AC.exit 0)) A67_3)
def A67_1 : AC := (AC.seq (AC.reg [] [(I.mk (some 14) none false (X.v (A.bin BinOp.lss (O.t 13) (O.t 12))))] []) A67_2)
def A67_7 : AC := (AC.seq (AC.reg [] [(I.mk (some 40) none false (X.v (A.load (Sh.ag [Sh.p]) (O.t 3)))), (I.mk none none false (X.store (Sh.ag [Sh.p]) (O.t 2) (O.t 40)))] []) AC.ret)
def A67_10 : AC := (AC.block 0 (AC.loop A67_1))
def A67_9 : AC := (AC.seq (AC.seq (AC.reg [] [(I.mk (some 10) none false (X.v (A.fld (O.t 1) 1 1))), (I.mk (some 11) none false (X.v (A.load Sh.p (O.t 10)))), (I.mk (some 12) none false (X.v (A.len (O.t 11)))), (I.mk (some 13) none false (X.v (A.mov (O.k (V.int IntKind.i64 (Int.ofNat 0))))))] []) A67_10) A67_7)
def A67_8 : AC := (AC.seq (AC.reg [.clr [8, 3]] [(I.mk (some 6) none false (X.v (A.fld (O.t 1) 0 0))), (I.mk (some 7) none false (X.v (A.load Sh.s (O.t 6)))), (I.mk (some 8) none false (X.mk (O.t 7) (V.int IntKind.i64 (Int.ofNat 0)))), (I.mk (some 9) none false (X.v (A.bld (V.agg [(V.sl Tok.nl Sh.s 0 [])]) [(0, 0, (O.t 8))]))), (I.mk (some 3) none false (X.alloc (V.agg [(V.sl Tok.nl Sh.s 0 [])]))), (I.mk none none false (X.store (Sh.ag [Sh.p]) (O.t 3) (O.t 9)))] []) A67_9)
def A67 : AC := (AC.seq (AC.reg [.clr [1, 2]] [(I.mk (some 1) none false (X.box (O.t 0))), (I.mk (some 2) none false (X.alloc (V.agg [(V.sl Tok.nl Sh.s 0 [])])))] []) A67_8)
def an67 : List An := [{ id := 0, pre := [.clr [1, 2]], ep := [], lin := [], sp := [] }, { id := 1, pre := [.clr [8, 3]], ep := [], lin := [], sp := [] }, { id := 4, pre := [.clr [5]], ep := [], lin := [], sp := [] }]
theorem c67 : cC Try.prog Try.f67.ntmps an67 (Try.f67.body.getD .skip) = some A67 := by kernel_rfl
structure H67 (D : Den) (σ : Sig) (F : Nat) : Prop where
  mk ::
abbrev R67 (r : (S1 (List Int))) : (Nat → V) → Prop := RR Try.prog [.cell 2 95] 0 false (Enc.enc (r : (S1 (List Int))))
section
variable {D : Den} {σ : Sig} {F : Nat} {r : (S1 (List Int))}
def i_netOf_l1 (F : Nat) (g_1 : (Int × (List (Int × Int))))  : Nat → (List Int) → Int → Option (S1 (List Int))
  | 0, _, _ => none
  | k + 1, w_10, t13_11 =>
    bif decide (t13_11 < (g_1.2.length : Int)) then
      (idx g_1.2 t13_11).bind fun e_19 =>
      (idx w_10 e_19.1).bind fun e_20 =>
      (shlI .i64 1 e_19.2).bind fun q_21 =>
      (idx w_10 e_19.1).bind fun e_22 =>
      (idx (w_10.set e_19.1.toNat (ior .i64 e_20 q_21)) e_19.2).bind fun e_23 =>
      (shlI .i64 1 e_19.1).bind fun q_24 =>
      (idx (w_10.set e_19.1.toNat (ior .i64 e_20 q_21)) e_19.2).bind fun e_25 =>
      (i_netOf_l1 F g_1 k) ((w_10.set e_19.1.toNat (ior .i64 e_20 q_21)).set e_19.2.toNat (ior .i64 e_23 q_24)) (w64 (t13_11 + 1))
    else
      some (S1.mk w_10)
theorem t_f67_l1 (H : H67 D σ F) (g_1 : (Int × (List (Int × Int))))  : ∀ (k : Nat) (w_10 : (List Int)) (t13_11 : Int) (s : Nat → V), Facts [(2, (.ref (.bx 2) 0 [] (.agg [(.sl .nl (Enc.shp Int) 0 [])]))), (3, (.ref (.bx 3) 0 [] (.agg [(encO (.at 8 []) (.of (w_10 : List Int)))]))), (11, (Enc.enc (g_1.2 : List (Int × Int)))), (12, (.int .i64 (g_1.2.length : Int))), (13, (.int .i64 t13_11))] s → i_netOf_l1 F g_1 k w_10 t13_11 = some r → Run D σ (R67 r) (.run A67_1 [.lp A67_1, .bk 0, .sq A67_7]) s := by
  intro k
  induction k with
  | zero => intro w_10 t13_11 s _ h; exact nomatch (h : (none : Option _) = some r)
  | succ k ih =>
    intro w_10 t13_11 s hs h
    rw [i_netOf_l1] at h
    obtain ⟨h2, h3, h11, h12, h13⟩ := hs
    refine .seq ?_
    refine run_reg ?_
    refine e_end ?_
    refine g_v2 (t1 := 13) (t2 := 12) (u1 := (.int .i64 t13_11)) (u2 := (.int .i64 (g_1.2.length : Int))) (.bool (decide (t13_11 < (g_1.2.length : Int)))) h13 h12 rfl rfl ?_
    refine g_end ?_
    refine e_end ?_
    refine renew [(2, (.ref (.bx 2) 0 [] (.agg [(.sl .nl (Enc.shp Int) 0 [])]))), (3, (.ref (.bx 3) 0 [] (.agg [(encO (.at 8 []) (.of (w_10 : List Int)))]))), (11, (Enc.enc (g_1.2 : List (Int × Int)))), (12, (.int .i64 (g_1.2.length : Int))), (13, (.int .i64 t13_11)), (14, (.bool (decide (t13_11 < (g_1.2.length : Int)))))] ⟨h2, h3, h11, h12, h13, rfl⟩ ?_
    rintro s ⟨h2, h3, h11, h12, h13, h14⟩
    refine .nsq ?_
    refine .seq ?_
    refine run_cond (t := decide (t13_11 < (g_1.2.length : Int))) h14 h (fun h => ?_) (fun h => ?_)
    · refine .skip ?_
      refine .nsq ?_
      refine .seq ?_
      refine .block ?_
      refine .seq ?_
      refine run_reg ?_
      refine e_clr ?_
      refine e_end ?_
      obtain ⟨e_19, E_e_19, h⟩ := bind_some h
      refine g_v (.ref .sh 0 [] (.agg [(.int .i64 e_19.1), (.int .i64 e_19.2)])) (ev_idx (t := .sh) (lo := 0) (xs := g_1.2) (keep_clear (s := s) (pk := [5]) h11 rfl (Enc.map_enc _ (g_1.2 : List (Int × Int)))) (keep_clear (s := s) (pk := [5]) h13 rfl rfl) E_e_19 rfl rfl) ?_
      refine g_v1 (t := 15) (u := (.ref .sh 0 [] (.agg [(.int .i64 e_19.1), (.int .i64 e_19.2)]))) (.agg [(.int .i64 e_19.1), (.int .i64 e_19.2)]) rfl rfl rfl ?_
      refine g_alloc (gone_clear (s := s) (pk := [5]) (t := 5) rfl) ?_
      refine g_store (.agg [(.int .i64 e_19.1), (.int .i64 e_19.2)]) (rd_of rfl rfl) (rd_of rfl rfl) (by refine ⟨by decide, by decide, rfl, rfl, rfl, ?_⟩; first | rfl | simp [V.toks, V.tokss, Enc.toks_enc]) ?_
      refine g_end ?_
      refine e_end ?_
      refine renew [(2, (.ref (.bx 2) 0 [] (.agg [(.sl .nl (Enc.shp Int) 0 [])]))), (3, (.ref (.bx 3) 0 [] (.agg [(encO (.at 8 []) (.of (w_10 : List Int)))]))), (5, (.ref (.bx 5) 0 [] (.agg [(.int .i64 e_19.1), (.int .i64 e_19.2)]))), (11, (Enc.enc (g_1.2 : List (Int × Int)))), (12, (.int .i64 (g_1.2.length : Int))), (13, (.int .i64 t13_11))] ⟨(keep_mut (keep_clear (s := s) (pk := [5]) h2 rfl (map_bx rfl (map_agg (maps_cons rfl maps_nil)))) (mut_ref_ne rfl rfl (mut_agg (muts_cons rfl rfl)))), (keep_mut (keep_clear (s := s) (pk := [5]) h3 rfl (map_bx rfl (map_agg (maps_cons (map_encO (r := 8) (p := []) rfl rfl) maps_nil)))) (mut_ref_ne rfl rfl (mut_agg (muts_cons (mut_own_ne rfl rfl) rfl)))), (keep_mut rfl rfl), (keep_mut (keep_clear (s := s) (pk := [5]) h11 rfl (Enc.map_enc _ (g_1.2 : List (Int × Int)))) (Enc.mut_enc _ _ _ _ (g_1.2 : List (Int × Int)))), (keep_mut (keep_clear (s := s) (pk := [5]) h12 rfl rfl) rfl), (keep_mut (keep_clear (s := s) (pk := [5]) h13 rfl rfl) rfl)⟩ ?_
      rintro s ⟨h2, h3, h5, h11, h12, h13⟩
      refine .nsq ?_
      refine .seq ?_
      refine run_reg ?_
      refine e_end ?_
      refine g_v1 (t := 3) (u := (.ref (.bx 3) 0 [] (.agg [(encO (.at 8 []) (.of (w_10 : List Int)))]))) (.ref (.bx 3) 0 [0] (encO (.at 8 []) (.of (w_10 : List Int)))) h3 rfl rfl ?_
      refine g_v1 (t := 17) (u := (.ref (.bx 3) 0 [0] (encO (.at 8 []) (.of (w_10 : List Int))))) (encO (.at 8 []) (.of (w_10 : List Int))) rfl rfl rfl ?_
      refine g_v1 (t := 5) (u := (.ref (.bx 5) 0 [] (.agg [(.int .i64 e_19.1), (.int .i64 e_19.2)]))) (.ref (.bx 5) 0 [0] (.int .i64 e_19.1)) h5 rfl rfl ?_
      refine g_v1 (t := 19) (u := (.ref (.bx 5) 0 [0] (.int .i64 e_19.1))) (.int .i64 e_19.1) rfl rfl rfl ?_
      obtain ⟨e_20, E_e_20, h⟩ := bind_some h
      refine g_v (.ref (.at 8 []) e_19.1.toNat [] (.int .i64 e_20)) (ev_idxO (o := (.of w_10)) rfl rfl E_e_20 rfl) ?_
      refine g_v1 (t := 21) (u := (.ref (.at 8 []) e_19.1.toNat [] (.int .i64 e_20))) (.int .i64 e_20) rfl rfl rfl ?_
      refine g_v1 (t := 5) (u := (.ref (.bx 5) 0 [] (.agg [(.int .i64 e_19.1), (.int .i64 e_19.2)]))) (.ref (.bx 5) 0 [1] (.int .i64 e_19.2)) h5 rfl rfl ?_
      refine g_v1 (t := 23) (u := (.ref (.bx 5) 0 [1] (.int .i64 e_19.2))) (.int .i64 e_19.2) rfl rfl rfl ?_
      obtain ⟨q_21, E_q_21, h⟩ := bind_some h
      refine g_v (.int .i64 q_21) (ev_shl rfl rfl E_q_21) ?_
      refine g_v2 (t1 := 22) (t2 := 25) (u1 := (.int .i64 e_20)) (u2 := (.int .i64 q_21)) (.int .i64 (ior .i64 e_20 q_21)) rfl rfl rfl rfl ?_
      obtain ⟨e_22, E_e_22, h⟩ := bind_some h
      refine g_v (.ref (.at 8 []) e_19.1.toNat [] (.int .i64 e_22)) (ev_idxO (o := (.of w_10)) rfl rfl E_e_22 rfl) ?_
      refine g_store (.int .i64 (ior .i64 e_20 q_21)) (rd_of rfl rfl) (rd_of rfl rfl) (by refine ⟨by decide, by decide, rfl, rfl, rfl, ?_⟩; first | rfl | simp [V.toks, V.tokss, Enc.toks_enc]) ?_
      refine g_end ?_
      refine e_end ?_
      refine renew [(2, (.ref (.bx 2) 0 [] (.agg [(.sl .nl (Enc.shp Int) 0 [])]))), (3, (.ref (.bx 3) 0 [] (.agg [(encO (.at 8 []) (.of (w_10.set e_19.1.toNat (ior .i64 e_20 q_21) : List Int)))]))), (5, (.ref (.bx 5) 0 [] (.agg [(.int .i64 e_19.1), (.int .i64 e_19.2)]))), (11, (Enc.enc (g_1.2 : List (Int × Int)))), (12, (.int .i64 (g_1.2.length : Int))), (13, (.int .i64 t13_11))] ⟨(keep_mut h2 (mut_ref_ne rfl rfl (mut_agg (muts_cons rfl rfl)))), (keep_mut h3 (mut_ref_ne rfl rfl (mut_agg (muts_cons mut_own rfl)))), (keep_mut h5 rfl), (keep_mut h11 (Enc.mut_enc _ _ _ _ (g_1.2 : List (Int × Int)))), (keep_mut h12 rfl), (keep_mut h13 rfl)⟩ ?_
      rintro s ⟨h2, h3, h5, h11, h12, h13⟩
      refine .nsq ?_
      refine run_reg ?_
      refine e_end ?_
      refine g_v1 (t := 3) (u := (.ref (.bx 3) 0 [] (.agg [(encO (.at 8 []) (.of (w_10.set e_19.1.toNat (ior .i64 e_20 q_21) : List Int)))]))) (.ref (.bx 3) 0 [0] (encO (.at 8 []) (.of (w_10.set e_19.1.toNat (ior .i64 e_20 q_21) : List Int)))) h3 rfl rfl ?_
      refine g_v1 (t := 28) (u := (.ref (.bx 3) 0 [0] (encO (.at 8 []) (.of (w_10.set e_19.1.toNat (ior .i64 e_20 q_21) : List Int))))) (encO (.at 8 []) (.of (w_10.set e_19.1.toNat (ior .i64 e_20 q_21) : List Int))) rfl rfl rfl ?_
      refine g_v1 (t := 5) (u := (.ref (.bx 5) 0 [] (.agg [(.int .i64 e_19.1), (.int .i64 e_19.2)]))) (.ref (.bx 5) 0 [1] (.int .i64 e_19.2)) h5 rfl rfl ?_
      refine g_v1 (t := 30) (u := (.ref (.bx 5) 0 [1] (.int .i64 e_19.2))) (.int .i64 e_19.2) rfl rfl rfl ?_
      obtain ⟨e_23, E_e_23, h⟩ := bind_some h
      refine g_v (.ref (.at 8 []) e_19.2.toNat [] (.int .i64 e_23)) (ev_idxO (o := (.of (w_10.set e_19.1.toNat (ior .i64 e_20 q_21)))) rfl rfl E_e_23 rfl) ?_
      refine g_v1 (t := 32) (u := (.ref (.at 8 []) e_19.2.toNat [] (.int .i64 e_23))) (.int .i64 e_23) rfl rfl rfl ?_
      refine g_v1 (t := 5) (u := (.ref (.bx 5) 0 [] (.agg [(.int .i64 e_19.1), (.int .i64 e_19.2)]))) (.ref (.bx 5) 0 [0] (.int .i64 e_19.1)) h5 rfl rfl ?_
      refine g_v1 (t := 34) (u := (.ref (.bx 5) 0 [0] (.int .i64 e_19.1))) (.int .i64 e_19.1) rfl rfl rfl ?_
      obtain ⟨q_24, E_q_24, h⟩ := bind_some h
      refine g_v (.int .i64 q_24) (ev_shl rfl rfl E_q_24) ?_
      refine g_v2 (t1 := 33) (t2 := 36) (u1 := (.int .i64 e_23)) (u2 := (.int .i64 q_24)) (.int .i64 (ior .i64 e_23 q_24)) rfl rfl rfl rfl ?_
      obtain ⟨e_25, E_e_25, h⟩ := bind_some h
      refine g_v (.ref (.at 8 []) e_19.2.toNat [] (.int .i64 e_25)) (ev_idxO (o := (.of (w_10.set e_19.1.toNat (ior .i64 e_20 q_21)))) rfl rfl E_e_25 rfl) ?_
      refine g_store (.int .i64 (ior .i64 e_23 q_24)) (rd_of rfl rfl) (rd_of rfl rfl) (by refine ⟨by decide, by decide, rfl, rfl, rfl, ?_⟩; first | rfl | simp [V.toks, V.tokss, Enc.toks_enc]) ?_
      refine g_end ?_
      refine e_end ?_
      refine renew [(2, (.ref (.bx 2) 0 [] (.agg [(.sl .nl (Enc.shp Int) 0 [])]))), (3, (.ref (.bx 3) 0 [] (.agg [(encO (.at 8 []) (.of ((w_10.set e_19.1.toNat (ior .i64 e_20 q_21)).set e_19.2.toNat (ior .i64 e_23 q_24) : List Int)))]))), (11, (Enc.enc (g_1.2 : List (Int × Int)))), (12, (.int .i64 (g_1.2.length : Int))), (13, (.int .i64 t13_11))] ⟨(keep_mut h2 (mut_ref_ne rfl rfl (mut_agg (muts_cons rfl rfl)))), (keep_mut h3 (mut_ref_ne rfl rfl (mut_agg (muts_cons mut_own rfl)))), (keep_mut h11 (Enc.mut_enc _ _ _ _ (g_1.2 : List (Int × Int)))), (keep_mut h12 rfl), (keep_mut h13 rfl)⟩ ?_
      rintro s ⟨h2, h3, h11, h12, h13⟩
      refine .nbk ?_
      refine .nsq ?_
      refine run_reg ?_
      refine e_end ?_
      refine g_v1 (t := 13) (u := (.int .i64 t13_11)) (.int .i64 (w64 (t13_11 + 1))) h13 rfl rfl ?_
      refine g_v1 (t := 39) (u := (.int .i64 (w64 (t13_11 + 1)))) (.int .i64 (w64 (t13_11 + 1))) rfl rfl rfl ?_
      refine g_end ?_
      refine e_end ?_
      refine renew [(2, (.ref (.bx 2) 0 [] (.agg [(.sl .nl (Enc.shp Int) 0 [])]))), (3, (.ref (.bx 3) 0 [] (.agg [(encO (.at 8 []) (.of ((w_10.set e_19.1.toNat (ior .i64 e_20 q_21)).set e_19.2.toNat (ior .i64 e_23 q_24) : List Int)))]))), (11, (Enc.enc (g_1.2 : List (Int × Int)))), (12, (.int .i64 (g_1.2.length : Int))), (13, (.int .i64 (w64 (t13_11 + 1))))] ⟨h2, h3, h11, h12, rfl⟩ ?_
      rintro s ⟨h2, h3, h11, h12, h13⟩
      refine .nlp ?_
      exact ih ((w_10.set e_19.1.toNat (ior .i64 e_20 q_21)).set e_19.2.toNat (ior .i64 e_23 q_24)) (w64 (t13_11 + 1)) _ ⟨h2, h3, h11, h12, h13⟩ h
    · refine .exit ?_
      refine .esq ?_
      refine .elp ?_
      refine .ebk ?_
      refine .nsq ?_
      refine .seq ?_
      refine run_reg ?_
      refine e_end ?_
      refine g_v1 (t := 3) (u := (.ref (.bx 3) 0 [] (.agg [(encO (.at 8 []) (.of (w_10 : List Int)))]))) (.agg [(encO (.at 8 []) (.of (w_10 : List Int)))]) h3 rfl rfl ?_
      refine g_store (.agg [(encO (.at 8 []) (.of (w_10 : List Int)))]) (rd_of h2 rfl) (rd_of rfl rfl) (by refine ⟨by decide, by decide, rfl, rfl, rfl, ?_⟩; first | rfl | simp [V.toks, V.tokss, Enc.toks_enc]) ?_
      refine g_end ?_
      refine e_end ?_
      refine renew [(2, (.ref (.bx 2) 0 [] (.agg [(encO (.at 8 []) (.of (w_10 : List Int)))])))] (keep_mut h2 rfl) ?_
      rintro s h2
      refine .nsq ?_
      refine .ret ?_
      have hr := Option.some.inj h
      subst hr
      exact rrA (res_cell h2 (by kernel_rfl)) (fin_retF (fin_agg (fins_cons (fin_own (o := .of w_10)) fins_nil)) (mine_agg (mines_cons (mine_own rfl) mines_nil)))
def i_netOf (F : Nat) (g_1 : (Int × (List (Int × Int)))) : Option (S1 (List Int)) :=
  (mkN g_1.1 0).bind fun mk_2 =>
  i_netOf_l1 F g_1 F mk_2 0
theorem t67 (H : H67 D σ F) (g_1 : (Int × (List (Int × Int)))) (s : Nat → V) (hs : Facts [(0, (.agg [(.int .i64 g_1.1), (Enc.enc (g_1.2 : List (Int × Int)))]))] s) (h : i_netOf F g_1 = some r) : Run D σ (R67 r) (.run A67 []) s := by
  unfold i_netOf at h
  have h0 := hs
  refine .seq ?_
  refine run_reg ?_
  refine e_clr ?_
  refine e_end ?_
  refine g_box (.agg [(.int .i64 g_1.1), (Enc.enc (g_1.2 : List (Int × Int)))]) (rd_of (keep_clear (s := s) (pk := [1, 2]) h0 rfl (map_agg (maps_cons rfl (maps_cons (Enc.map_enc _ (g_1.2 : List (Int × Int))) maps_nil)))) rfl) (gone_clear (s := s) (pk := [1, 2]) (t := 1) rfl) rfl ?_
  refine g_alloc (gone_clear (s := s) (pk := [1, 2]) (t := 2) rfl) ?_
  refine g_end ?_
  refine e_end ?_
  refine renew [(1, (.ref (.bx 1) 0 [] (.agg [(.int .i64 g_1.1), (Enc.enc (g_1.2 : List (Int × Int)))]))), (2, (.ref (.bx 2) 0 [] (.agg [(.sl .nl (Enc.shp Int) 0 [])])))] ⟨rfl, rfl⟩ ?_
  rintro s ⟨h1, h2⟩
  refine .nsq ?_
  refine .seq ?_
  refine run_reg ?_
  refine e_clr ?_
  refine e_end ?_
  refine g_v1 (t := 1) (u := (.ref (.bx 1) 0 [] (.agg [(.int .i64 g_1.1), (Enc.enc (g_1.2 : List (Int × Int)))]))) (.ref (.bx 1) 0 [0] (.int .i64 g_1.1)) (keep_clear (s := s) (pk := [8, 3]) h1 rfl (map_bx rfl (map_agg (maps_cons rfl (maps_cons (Enc.map_enc _ (g_1.2 : List (Int × Int))) maps_nil))))) rfl rfl ?_
  refine g_v1 (t := 6) (u := (.ref (.bx 1) 0 [0] (.int .i64 g_1.1))) (.int .i64 g_1.1) rfl rfl rfl ?_
  obtain ⟨mk_2, E_mk_2, h⟩ := bind_some h
  refine g_mk (0 : Int) rfl rfl (gone_clear (s := s) (pk := [8, 3]) (t := 8) rfl) E_mk_2 ?_
  refine g_v1 (t := 8) (u := (encO (.at 8 []) (.of (mk_2 : List Int)))) (.agg [(encO (.at 8 []) (.of (mk_2 : List Int)))]) rfl rfl rfl ?_
  refine g_alloc (gone_clear (s := s) (pk := [8, 3]) (t := 3) rfl) ?_
  refine g_store (.agg [(encO (.at 8 []) (.of (mk_2 : List Int)))]) (rd_of rfl rfl) (rd_of rfl rfl) (by refine ⟨by decide, by decide, rfl, rfl, rfl, ?_⟩; first | rfl | simp [V.toks, V.tokss, Enc.toks_enc]) ?_
  refine g_end ?_
  refine e_end ?_
  refine renew [(1, (.ref (.bx 1) 0 [] (.agg [(.int .i64 g_1.1), (Enc.enc (g_1.2 : List (Int × Int)))]))), (2, (.ref (.bx 2) 0 [] (.agg [(.sl .nl (Enc.shp Int) 0 [])]))), (3, (.ref (.bx 3) 0 [] (.agg [(encO (.at 8 []) (.of (mk_2 : List Int)))])))] ⟨(keep_mut (keep_clear (s := s) (pk := [8, 3]) h1 rfl (map_bx rfl (map_agg (maps_cons rfl (maps_cons (Enc.map_enc _ (g_1.2 : List (Int × Int))) maps_nil))))) (mut_ref_ne rfl rfl (mut_agg (muts_cons rfl (muts_cons (Enc.mut_enc _ _ _ _ (g_1.2 : List (Int × Int))) rfl))))), (keep_mut (keep_clear (s := s) (pk := [8, 3]) h2 rfl (map_bx rfl (map_agg (maps_cons rfl maps_nil)))) (mut_ref_ne rfl rfl (mut_agg (muts_cons rfl rfl)))), (keep_mut rfl rfl)⟩ ?_
  rintro s ⟨h1, h2, h3⟩
  refine .nsq ?_
  refine .seq ?_
  refine .seq ?_
  refine run_reg ?_
  refine e_end ?_
  refine g_v1 (t := 1) (u := (.ref (.bx 1) 0 [] (.agg [(.int .i64 g_1.1), (Enc.enc (g_1.2 : List (Int × Int)))]))) (.ref (.bx 1) 0 [1] (Enc.enc (g_1.2 : List (Int × Int)))) h1 rfl rfl ?_
  refine g_v1 (t := 10) (u := (.ref (.bx 1) 0 [1] (Enc.enc (g_1.2 : List (Int × Int))))) (Enc.enc (g_1.2 : List (Int × Int))) rfl rfl rfl ?_
  refine g_v (.int .i64 (g_1.2.length : Int)) (ev_len (xs := g_1.2) rfl) ?_
  refine g_v0 (.int .i64 0) rfl rfl ?_
  refine g_end ?_
  refine e_end ?_
  refine renew [(2, (.ref (.bx 2) 0 [] (.agg [(.sl .nl (Enc.shp Int) 0 [])]))), (3, (.ref (.bx 3) 0 [] (.agg [(encO (.at 8 []) (.of (mk_2 : List Int)))]))), (11, (Enc.enc (g_1.2 : List (Int × Int)))), (12, (.int .i64 (g_1.2.length : Int))), (13, (.int .i64 0))] ⟨h2, h3, rfl, rfl, rfl⟩ ?_
  rintro s ⟨h2, h3, h11, h12, h13⟩
  refine .nsq ?_
  refine .block ?_
  refine .loop ?_
  exact t_f67_l1 H g_1 F mk_2 0 _ ⟨h2, h3, h11, h12, h13⟩ h
end
def e67 (F : Nat) : Ent := ⟨67, da (fun (x : ((Int × (List (Int × Int))) × Unit)) => i_netOf F x.1) (fun (r : (S1 (List Int))) => (Enc.enc (r : (S1 (List Int))))), 0, false, selF []⟩
theorem p67 {F : Nat} {x0 : (Int × (List (Int × Int)))} {r : (S1 (List Int))} (h : i_netOf F x0 = some r) : (e67 F).den [Enc.enc x0] = some (Enc.enc (r : (S1 (List Int)))) := da_put (f := fun (x : ((Int × (List (Int × Int))) × Unit)) => i_netOf F x.1) (t := fun (r : (S1 (List Int))) => (Enc.enc (r : (S1 (List Int))))) (x0, ()) h
theorem o67 {D : Den} {σ : Sig} {F : Nat} (hF : Fits2 Try.prog D σ) (H : H67 D σ F) : (e67 F).Ok Try.prog := by
  refine ⟨fun args r h => ?_, ⟨Try.f67, Try.func67, rfl, rfl⟩⟩
  obtain ⟨⟨x0, _⟩, y, rfl, hy, rfl⟩ := da_open h
  exact contract_run hF (by kernel_rfl) Try.func67 rfl c67 (show 1 ≤ Try.f67.ntmps by decide) (t67 H x0 _ rfl hy)
/- loop.example/g01109/impl.maskOf -/
def A93_4 : AC := (AC.reg [] [(I.mk (some 12) none false (X.v (A.mov (O.t 3)))), (I.mk (some 13) none false (X.v (A.mov (O.t 5)))), (I.mk (some 14) none false (X.v (A.bin BinOp.shl (O.k (V.int IntKind.i64 (Int.ofNat 1))) (O.t 13)))), (I.mk (some 15) none false (X.v (A.bin BinOp.or (O.t 12) (O.t 14)))), (I.mk (some 3) none false (X.v (A.mov (O.t 15))))] [])
def A93_5 : AC := (AC.reg [] [(I.mk (some 16) none false (X.v (A.bin BinOp.add (O.t 8) (O.k (V.int IntKind.i64 (Int.ofNat 1)))))), (I.mk (some 8) none false (X.v (A.mov (O.t 16))))] [])
def A93_3 : AC := (AC.seq (AC.block 1 (AC.seq (AC.reg [] [(I.mk (some 10) none false (X.v (A.idx (O.t 6) (O.t 8) 1))), (I.mk (some 11) none false (X.v (A.load Sh.s (O.t 10)))), (I.mk (some 5) none false (X.v (A.mov (O.t 11))))] []) A93_4)) A93_5)
def A93_2 : AC := (AC.seq (AC.cond (O.t 9) AC.skip (AC.exit 0)) A93_3)
def A93_1 : AC := (AC.seq (AC.reg [] [(I.mk (some 9) none false (X.v (A.bin BinOp.lss (O.t 8) (O.t 7))))] []) A93_2)
def A93_6 : AC := (AC.seq (AC.reg [] [(I.mk (some 17) none false (X.v (A.mov (O.t 3)))), (I.mk (some 2) none false (X.v (A.mov (O.t 17))))] []) AC.ret)
def A93_9 : AC := (AC.block 0 (AC.loop A93_1))
def A93_8 : AC := (AC.seq (AC.seq (AC.reg [] [(I.mk (some 6) none false (X.v (A.mov (O.t 0)))), (I.mk (some 7) none false (X.v (A.len (O.t 6)))), (I.mk (some 8) none false (X.v (A.mov (O.k (V.int IntKind.i64 (Int.ofNat 0))))))] []) A93_9) A93_6)
def A93_7 : AC := (AC.seq (AC.reg [] [(I.mk (some 3) none false (X.v (A.mov (O.k (V.int IntKind.i64 (Int.ofNat 0))))))] []) A93_8)
def A93 : AC := (AC.seq (AC.reg [] [(I.mk (some 2) none false (X.v (A.mov (O.k (V.int IntKind.i64 (Int.ofNat 0))))))] []) A93_7)
def an93 : List An := []
theorem c93 : cC Try.prog Try.f93.ntmps an93 (Try.f93.body.getD .skip) = some A93 := by kernel_rfl
structure H93 (D : Den) (σ : Sig) (F : Nat) : Prop where
  mk ::
abbrev R93 (r : Int) : (Nat → V) → Prop := RR Try.prog [.tmp 2] 0 false (Enc.enc (r : Int))
section
variable {D : Den} {σ : Sig} {F : Nat} {r : Int}
def i_maskOf_l1 (F : Nat) (list_1 : (List Int))  : Nat → Int → Int → Option Int
  | 0, _, _ => none
  | k + 1, set_4, t8_5 =>
    bif decide (t8_5 < (list_1.length : Int)) then
      (idx list_1 t8_5).bind fun e_8 =>
      (shlI .i64 1 e_8).bind fun q_9 =>
      (i_maskOf_l1 F list_1 k) (ior .i64 set_4 q_9) (w64 (t8_5 + 1))
    else
      some set_4
theorem t_f93_l1 (H : H93 D σ F) (list_1 : (List Int))  : ∀ (k : Nat) (set_4 : Int) (t8_5 : Int) (s : Nat → V), Facts [(2, (.int .i64 0)), (3, (.int .i64 set_4)), (6, (Enc.enc (list_1 : List Int))), (7, (.int .i64 (list_1.length : Int))), (8, (.int .i64 t8_5))] s → i_maskOf_l1 F list_1 k set_4 t8_5 = some r → Run D σ (R93 r) (.run A93_1 [.lp A93_1, .bk 0, .sq A93_6]) s := by
  intro k
  induction k with
  | zero => intro set_4 t8_5 s _ h; exact nomatch (h : (none : Option _) = some r)
  | succ k ih =>
    intro set_4 t8_5 s hs h
    rw [i_maskOf_l1] at h
    obtain ⟨h2, h3, h6, h7, h8⟩ := hs
    refine .seq ?_
    refine run_reg ?_
    refine e_end ?_
    refine g_v2 (t1 := 8) (t2 := 7) (u1 := (.int .i64 t8_5)) (u2 := (.int .i64 (list_1.length : Int))) (.bool (decide (t8_5 < (list_1.length : Int)))) h8 h7 rfl rfl ?_
    refine g_end ?_
    refine e_end ?_
    refine renew [(2, (.int .i64 0)), (3, (.int .i64 set_4)), (6, (Enc.enc (list_1 : List Int))), (7, (.int .i64 (list_1.length : Int))), (8, (.int .i64 t8_5)), (9, (.bool (decide (t8_5 < (list_1.length : Int)))))] ⟨h2, h3, h6, h7, h8, rfl⟩ ?_
    rintro s ⟨h2, h3, h6, h7, h8, h9⟩
    refine .nsq ?_
    refine .seq ?_
    refine run_cond (t := decide (t8_5 < (list_1.length : Int))) h9 h (fun h => ?_) (fun h => ?_)
    · refine .skip ?_
      refine .nsq ?_
      refine .seq ?_
      refine .block ?_
      refine .seq ?_
      refine run_reg ?_
      refine e_end ?_
      obtain ⟨e_8, E_e_8, h⟩ := bind_some h
      refine g_v (.ref .sh 0 [] (.int .i64 e_8)) (ev_idx (t := .sh) (lo := 0) (xs := list_1) h6 h8 E_e_8 rfl rfl) ?_
      refine g_v1 (t := 10) (u := (.ref .sh 0 [] (.int .i64 e_8))) (.int .i64 e_8) rfl rfl rfl ?_
      refine g_v1 (t := 11) (u := (.int .i64 e_8)) (.int .i64 e_8) rfl rfl rfl ?_
      refine g_end ?_
      refine e_end ?_
      refine renew [(2, (.int .i64 0)), (3, (.int .i64 set_4)), (5, (.int .i64 e_8)), (6, (Enc.enc (list_1 : List Int))), (7, (.int .i64 (list_1.length : Int))), (8, (.int .i64 t8_5))] ⟨h2, h3, rfl, h6, h7, h8⟩ ?_
      rintro s ⟨h2, h3, h5, h6, h7, h8⟩
      refine .nsq ?_
      refine run_reg ?_
      refine e_end ?_
      refine g_v1 (t := 3) (u := (.int .i64 set_4)) (.int .i64 set_4) h3 rfl rfl ?_
      refine g_v1 (t := 5) (u := (.int .i64 e_8)) (.int .i64 e_8) h5 rfl rfl ?_
      obtain ⟨q_9, E_q_9, h⟩ := bind_some h
      refine g_v (.int .i64 q_9) (ev_shl rfl rfl E_q_9) ?_
      refine g_v2 (t1 := 12) (t2 := 14) (u1 := (.int .i64 set_4)) (u2 := (.int .i64 q_9)) (.int .i64 (ior .i64 set_4 q_9)) rfl rfl rfl rfl ?_
      refine g_v1 (t := 15) (u := (.int .i64 (ior .i64 set_4 q_9))) (.int .i64 (ior .i64 set_4 q_9)) rfl rfl rfl ?_
      refine g_end ?_
      refine e_end ?_
      refine renew [(2, (.int .i64 0)), (3, (.int .i64 (ior .i64 set_4 q_9))), (6, (Enc.enc (list_1 : List Int))), (7, (.int .i64 (list_1.length : Int))), (8, (.int .i64 t8_5))] ⟨h2, rfl, h6, h7, h8⟩ ?_
      rintro s ⟨h2, h3, h6, h7, h8⟩
      refine .nbk ?_
      refine .nsq ?_
      refine run_reg ?_
      refine e_end ?_
      refine g_v1 (t := 8) (u := (.int .i64 t8_5)) (.int .i64 (w64 (t8_5 + 1))) h8 rfl rfl ?_
      refine g_v1 (t := 16) (u := (.int .i64 (w64 (t8_5 + 1)))) (.int .i64 (w64 (t8_5 + 1))) rfl rfl rfl ?_
      refine g_end ?_
      refine e_end ?_
      refine renew [(2, (.int .i64 0)), (3, (.int .i64 (ior .i64 set_4 q_9))), (6, (Enc.enc (list_1 : List Int))), (7, (.int .i64 (list_1.length : Int))), (8, (.int .i64 (w64 (t8_5 + 1))))] ⟨h2, h3, h6, h7, rfl⟩ ?_
      rintro s ⟨h2, h3, h6, h7, h8⟩
      refine .nlp ?_
      exact ih (ior .i64 set_4 q_9) (w64 (t8_5 + 1)) _ ⟨h2, h3, h6, h7, h8⟩ h
    · refine .exit ?_
      refine .esq ?_
      refine .elp ?_
      refine .ebk ?_
      refine .nsq ?_
      refine .seq ?_
      refine run_reg ?_
      refine e_end ?_
      refine g_v1 (t := 3) (u := (.int .i64 set_4)) (.int .i64 set_4) h3 rfl rfl ?_
      refine g_v1 (t := 17) (u := (.int .i64 set_4)) (.int .i64 set_4) rfl rfl rfl ?_
      refine g_end ?_
      refine e_end ?_
      refine renew [(2, (.int .i64 set_4))] rfl ?_
      rintro s h2
      refine .nsq ?_
      refine .ret ?_
      have hr := Option.some.inj h
      subst hr
      exact rrA (res_tmp h2) rfl
def i_maskOf (F : Nat) (list_1 : (List Int)) : Option Int :=
  i_maskOf_l1 F list_1 F 0 0
theorem t93 (H : H93 D σ F) (list_1 : (List Int)) (s : Nat → V) (hs : Facts [(0, (Enc.enc (list_1 : List Int)))] s) (h : i_maskOf F list_1 = some r) : Run D σ (R93 r) (.run A93 []) s := by
  unfold i_maskOf at h
  have h0 := hs
  refine .seq ?_
  refine run_reg ?_
  refine e_end ?_
  refine g_v0 (.int .i64 0) rfl rfl ?_
  refine g_end ?_
  refine e_end ?_
  refine renew [(0, (Enc.enc (list_1 : List Int))), (2, (.int .i64 0))] ⟨h0, rfl⟩ ?_
  rintro s ⟨h0, h2⟩
  refine .nsq ?_
  refine .seq ?_
  refine run_reg ?_
  refine e_end ?_
  refine g_v0 (.int .i64 0) rfl rfl ?_
  refine g_end ?_
  refine e_end ?_
  refine renew [(0, (Enc.enc (list_1 : List Int))), (2, (.int .i64 0)), (3, (.int .i64 0))] ⟨h0, h2, rfl⟩ ?_
  rintro s ⟨h0, h2, h3⟩
  refine .nsq ?_
  refine .seq ?_
  refine .seq ?_
  refine run_reg ?_
  refine e_end ?_
  refine g_v1 (t := 0) (u := (Enc.enc (list_1 : List Int))) (Enc.enc (list_1 : List Int)) h0 rfl rfl ?_
  refine g_v (.int .i64 (list_1.length : Int)) (ev_len (xs := list_1) rfl) ?_
  refine g_v0 (.int .i64 0) rfl rfl ?_
  refine g_end ?_
  refine e_end ?_
  refine renew [(2, (.int .i64 0)), (3, (.int .i64 0)), (6, (Enc.enc (list_1 : List Int))), (7, (.int .i64 (list_1.length : Int))), (8, (.int .i64 0))] ⟨h2, h3, rfl, rfl, rfl⟩ ?_
  rintro s ⟨h2, h3, h6, h7, h8⟩
  refine .nsq ?_
  refine .block ?_
  refine .loop ?_
  exact t_f93_l1 H list_1 F 0 0 _ ⟨h2, h3, h6, h7, h8⟩ h
end
def e93 (F : Nat) : Ent := ⟨93, da (fun (x : ((List Int) × Unit)) => i_maskOf F x.1) (fun (r : Int) => (Enc.enc (r : Int))), 0, false, selF []⟩
theorem p93 {F : Nat} {x0 : (List Int)} {r : Int} (h : i_maskOf F x0 = some r) : (e93 F).den [Enc.enc x0] = some (Enc.enc (r : Int)) := da_put (f := fun (x : ((List Int) × Unit)) => i_maskOf F x.1) (t := fun (r : Int) => (Enc.enc (r : Int))) (x0, ()) h
theorem o93 {D : Den} {σ : Sig} {F : Nat} (hF : Fits2 Try.prog D σ) (H : H93 D σ F) : (e93 F).Ok Try.prog := by
  refine ⟨fun args r h => ?_, ⟨Try.f93, Try.func93, rfl, rfl⟩⟩
  obtain ⟨⟨x0, _⟩, y, rfl, hy, rfl⟩ := da_open h
  exact contract_run hF (by kernel_rfl) Try.func93 rfl c93 (show 1 ≤ Try.f93.ntmps by decide) (t93 H x0 _ rfl hy)
/- (loop.example/g01109/impl.net).around -/
def A123_5 : AC := (AC.cond (O.t 21) (AC.reg [] [(I.mk (some 22) none false (X.v (A.mov (O.t 5)))), (I.mk (some 23) none false (X.v (A.mov (O.t 7)))), (I.mk (some 24) none false (X.v (A.bin BinOp.or (O.t 22) (O.t 23)))), (I.mk (some 5) none false (X.v (A.mov (O.t 24))))] []) AC.skip)
def A123_4 : AC := (AC.seq (AC.reg [] [(I.mk (some 17) none false (X.v (A.mov (O.t 1)))), (I.mk (some 18) none false (X.v (A.mov (O.t 6)))), (I.mk (some 19) none false (X.v (A.bin BinOp.shr (O.t 17) (O.t 18)))), (I.mk (some 20) none false (X.v (A.bin BinOp.and (O.t 19) (O.k (V.int IntKind.i64 (Int.ofNat 1)))))), (I.mk (some 21) none false (X.v (A.bin BinOp.eql (O.t 20) (O.k (V.int IntKind.i64 (Int.ofNat 1))))))] []) A123_5)
def A123_6 : AC := (AC.reg [] [(I.mk (some 25) none false (X.v (A.bin BinOp.add (O.t 12) (O.k (V.int IntKind.i64 (Int.ofNat 1)))))), (I.mk (some 12) none false (X.v (A.mov (O.t 25))))] [])
def A123_3 : AC := (AC.seq (AC.block 1 (AC.seq (AC.reg [] [(I.mk (some 14) none false (X.v (A.mov (O.t 12)))), (I.mk (some 15) none false (X.v (A.idx (O.t 10) (O.t 12) 1))), (I.mk (some 16) none false (X.v (A.load Sh.s (O.t 15)))), (I.mk (some 6) none false (X.v (A.mov (O.t 14)))), (I.mk (some 7) none false (X.v (A.mov (O.t 16))))] []) A123_4)) A123_6)
def A123_2 : AC := (AC.seq (AC.cond (O.t 13) AC.skip (AC.exit 0)) A123_3)
def A123_1 : AC := (AC.seq (AC.reg [] [(I.mk (some 13) none false (X.v (A.bin BinOp.lss (O.t 12) (O.t 11))))] []) A123_2)
def A123_7 : AC := (AC.seq (AC.reg [] [(I.mk (some 26) none false (X.v (A.mov (O.t 5)))), (I.mk (some 4) none false (X.v (A.mov (O.t 26))))] []) AC.ret)
def A123_10 : AC := (AC.block 0 (AC.loop A123_1))
def A123_9 : AC := (AC.seq (AC.seq (AC.reg [] [(I.mk (some 9) none false (X.v (A.fld (O.t 2) 0 0))), (I.mk (some 10) none false (X.v (A.load Sh.p (O.t 9)))), (I.mk (some 11) none false (X.v (A.len (O.t 10)))), (I.mk (some 12) none false (X.v (A.mov (O.k (V.int IntKind.i64 (Int.ofNat 0))))))] []) A123_10) A123_7)
def A123_8 : AC := (AC.seq (AC.reg [] [(I.mk (some 8) none false (X.v (A.mov (O.t 1)))), (I.mk (some 5) none false (X.v (A.mov (O.t 8))))] []) A123_9)
def A123 : AC := (AC.seq (AC.reg [.clr [2]] [(I.mk (some 2) none false (X.box (O.t 0))), (I.mk (some 4) none false (X.v (A.mov (O.k (V.int IntKind.i64 (Int.ofNat 0))))))] []) A123_8)
def an123 : List An := [{ id := 0, pre := [.clr [2]], ep := [], lin := [], sp := [] }]
theorem c123 : cC Try.prog Try.f123.ntmps an123 (Try.f123.body.getD .skip) = some A123 := by kernel_rfl
structure H123 (D : Den) (σ : Sig) (F : Nat) : Prop where
  mk ::
abbrev R123 (r : Int) : (Nat → V) → Prop := RR Try.prog [.tmp 4] 0 false (Enc.enc (r : Int))
section
variable {D : Den} {σ : Sig} {F : Nat} {r : Int}
def i_net_around_j1 (F : Nat) (set_2 : Int) (w_1 : (S1 (List Int))) (t12_7 : Int) (c1 : Int → Int → Option Int) (out_13 : Int) : Option Int :=
  c1 out_13 (w64 (t12_7 + 1))
theorem t_f123_j1 (H : H123 D σ F) (set_2 : Int) (w_1 : (S1 (List Int))) (t12_7 : Int) (c1 : Int → Int → Option Int) (Hc1 : ∀ (out_6 : Int) (t12_7 : Int) (s : Nat → V), Facts [(1, (.int .i64 set_2)), (4, (.int .i64 0)), (5, (.int .i64 out_6)), (10, (Enc.enc (w_1.a : List Int))), (11, (.int .i64 (w_1.a.length : Int))), (12, (.int .i64 t12_7))] s → c1 out_6 t12_7 = some r → Run D σ (R123 r) (.run A123_1 [.lp A123_1, .bk 0, .sq A123_7]) s) (out_13 : Int) (s : Nat → V) (hs : Facts [(1, (.int .i64 set_2)), (4, (.int .i64 0)), (5, (.int .i64 out_13)), (10, (Enc.enc (w_1.a : List Int))), (11, (.int .i64 (w_1.a.length : Int))), (12, (.int .i64 t12_7))] s) (h : i_net_around_j1 F set_2 w_1 t12_7 c1 out_13 = some r) : Run D σ (R123 r) (.nrm [.bk 1, .sq A123_6, .lp A123_1, .bk 0, .sq A123_7]) s := by
  unfold i_net_around_j1 at h
  obtain ⟨h1, h4, h5, h10, h11, h12⟩ := hs
  refine .nbk ?_
  refine .nsq ?_
  refine run_reg ?_
  refine e_end ?_
  refine g_v1 (t := 12) (u := (.int .i64 t12_7)) (.int .i64 (w64 (t12_7 + 1))) h12 rfl rfl ?_
  refine g_v1 (t := 25) (u := (.int .i64 (w64 (t12_7 + 1)))) (.int .i64 (w64 (t12_7 + 1))) rfl rfl rfl ?_
  refine g_end ?_
  refine e_end ?_
  refine renew [(1, (.int .i64 set_2)), (4, (.int .i64 0)), (5, (.int .i64 out_13)), (10, (Enc.enc (w_1.a : List Int))), (11, (.int .i64 (w_1.a.length : Int))), (12, (.int .i64 (w64 (t12_7 + 1))))] ⟨h1, h4, h5, h10, h11, rfl⟩ ?_
  rintro s ⟨h1, h4, h5, h10, h11, h12⟩
  refine .nlp ?_
  exact Hc1 out_13 (w64 (t12_7 + 1)) _ ⟨h1, h4, h5, h10, h11, h12⟩ h
def i_net_around_l1 (F : Nat) (set_2 : Int) (w_1 : (S1 (List Int)))  : Nat → Int → Int → Option Int
  | 0, _, _ => none
  | k + 1, out_6, t12_7 =>
    bif decide (t12_7 < (w_1.a.length : Int)) then
      (idx w_1.a t12_7).bind fun e_11 =>
      (shrI .i64 set_2 t12_7).bind fun q_12 =>
      bif ((iand .i64 q_12 1) == 1) then
        i_net_around_j1 F set_2 w_1 t12_7 (i_net_around_l1 F set_2 w_1 k) (ior .i64 out_6 e_11)
      else
        i_net_around_j1 F set_2 w_1 t12_7 (i_net_around_l1 F set_2 w_1 k) out_6
    else
      some out_6
theorem t_f123_l1 (H : H123 D σ F) (set_2 : Int) (w_1 : (S1 (List Int)))  : ∀ (k : Nat) (out_6 : Int) (t12_7 : Int) (s : Nat → V), Facts [(1, (.int .i64 set_2)), (4, (.int .i64 0)), (5, (.int .i64 out_6)), (10, (Enc.enc (w_1.a : List Int))), (11, (.int .i64 (w_1.a.length : Int))), (12, (.int .i64 t12_7))] s → i_net_around_l1 F set_2 w_1 k out_6 t12_7 = some r → Run D σ (R123 r) (.run A123_1 [.lp A123_1, .bk 0, .sq A123_7]) s := by
  intro k
  induction k with
  | zero => intro out_6 t12_7 s _ h; exact nomatch (h : (none : Option _) = some r)
  | succ k ih =>
    intro out_6 t12_7 s hs h
    rw [i_net_around_l1] at h
    obtain ⟨h1, h4, h5, h10, h11, h12⟩ := hs
    refine .seq ?_
    refine run_reg ?_
    refine e_end ?_
    refine g_v2 (t1 := 12) (t2 := 11) (u1 := (.int .i64 t12_7)) (u2 := (.int .i64 (w_1.a.length : Int))) (.bool (decide (t12_7 < (w_1.a.length : Int)))) h12 h11 rfl rfl ?_
    refine g_end ?_
    refine e_end ?_
    refine renew [(1, (.int .i64 set_2)), (4, (.int .i64 0)), (5, (.int .i64 out_6)), (10, (Enc.enc (w_1.a : List Int))), (11, (.int .i64 (w_1.a.length : Int))), (12, (.int .i64 t12_7)), (13, (.bool (decide (t12_7 < (w_1.a.length : Int)))))] ⟨h1, h4, h5, h10, h11, h12, rfl⟩ ?_
    rintro s ⟨h1, h4, h5, h10, h11, h12, h13⟩
    refine .nsq ?_
    refine .seq ?_
    refine run_cond (t := decide (t12_7 < (w_1.a.length : Int))) h13 h (fun h => ?_) (fun h => ?_)
    · refine .skip ?_
      refine .nsq ?_
      refine .seq ?_
      refine .block ?_
      refine .seq ?_
      refine run_reg ?_
      refine e_end ?_
      refine g_v1 (t := 12) (u := (.int .i64 t12_7)) (.int .i64 t12_7) h12 rfl rfl ?_
      obtain ⟨e_11, E_e_11, h⟩ := bind_some h
      refine g_v (.ref .sh 0 [] (.int .i64 e_11)) (ev_idx (t := .sh) (lo := 0) (xs := w_1.a) h10 h12 E_e_11 rfl rfl) ?_
      refine g_v1 (t := 15) (u := (.ref .sh 0 [] (.int .i64 e_11))) (.int .i64 e_11) rfl rfl rfl ?_
      refine g_v1 (t := 14) (u := (.int .i64 t12_7)) (.int .i64 t12_7) rfl rfl rfl ?_
      refine g_v1 (t := 16) (u := (.int .i64 e_11)) (.int .i64 e_11) rfl rfl rfl ?_
      refine g_end ?_
      refine e_end ?_
      refine renew [(1, (.int .i64 set_2)), (4, (.int .i64 0)), (5, (.int .i64 out_6)), (6, (.int .i64 t12_7)), (7, (.int .i64 e_11)), (10, (Enc.enc (w_1.a : List Int))), (11, (.int .i64 (w_1.a.length : Int))), (12, (.int .i64 t12_7))] ⟨h1, h4, h5, rfl, rfl, h10, h11, h12⟩ ?_
      rintro s ⟨h1, h4, h5, h6, h7, h10, h11, h12⟩
      refine .nsq ?_
      refine .seq ?_
      refine run_reg ?_
      refine e_end ?_
      refine g_v1 (t := 1) (u := (.int .i64 set_2)) (.int .i64 set_2) h1 rfl rfl ?_
      refine g_v1 (t := 6) (u := (.int .i64 t12_7)) (.int .i64 t12_7) h6 rfl rfl ?_
      obtain ⟨q_12, E_q_12, h⟩ := bind_some h
      refine g_v (.int .i64 q_12) (ev_shr rfl rfl E_q_12) ?_
      refine g_v1 (t := 19) (u := (.int .i64 q_12)) (.int .i64 (iand .i64 q_12 1)) rfl rfl rfl ?_
      refine g_v1 (t := 20) (u := (.int .i64 (iand .i64 q_12 1))) (.bool ((iand .i64 q_12 1) == 1)) rfl rfl rfl ?_
      refine g_end ?_
      refine e_end ?_
      refine renew [(1, (.int .i64 set_2)), (4, (.int .i64 0)), (5, (.int .i64 out_6)), (7, (.int .i64 e_11)), (10, (Enc.enc (w_1.a : List Int))), (11, (.int .i64 (w_1.a.length : Int))), (12, (.int .i64 t12_7)), (21, (.bool ((iand .i64 q_12 1) == 1)))] ⟨h1, h4, h5, h7, h10, h11, h12, rfl⟩ ?_
      rintro s ⟨h1, h4, h5, h7, h10, h11, h12, h21⟩
      refine .nsq ?_
      refine run_cond (t := ((iand .i64 q_12 1) == 1)) h21 h (fun h => ?_) (fun h => ?_)
      · refine run_reg ?_
        refine e_end ?_
        refine g_v1 (t := 5) (u := (.int .i64 out_6)) (.int .i64 out_6) h5 rfl rfl ?_
        refine g_v1 (t := 7) (u := (.int .i64 e_11)) (.int .i64 e_11) h7 rfl rfl ?_
        refine g_v2 (t1 := 22) (t2 := 23) (u1 := (.int .i64 out_6)) (u2 := (.int .i64 e_11)) (.int .i64 (ior .i64 out_6 e_11)) rfl rfl rfl rfl ?_
        refine g_v1 (t := 24) (u := (.int .i64 (ior .i64 out_6 e_11))) (.int .i64 (ior .i64 out_6 e_11)) rfl rfl rfl ?_
        refine g_end ?_
        refine e_end ?_
        refine renew [(1, (.int .i64 set_2)), (4, (.int .i64 0)), (5, (.int .i64 (ior .i64 out_6 e_11))), (10, (Enc.enc (w_1.a : List Int))), (11, (.int .i64 (w_1.a.length : Int))), (12, (.int .i64 t12_7))] ⟨h1, h4, rfl, h10, h11, h12⟩ ?_
        rintro s ⟨h1, h4, h5, h10, h11, h12⟩
        exact t_f123_j1 H set_2 w_1 t12_7 (i_net_around_l1 F set_2 w_1 k) ih (ior .i64 out_6 e_11) _ ⟨h1, h4, h5, h10, h11, h12⟩ h
      · refine .skip ?_
        exact t_f123_j1 H set_2 w_1 t12_7 (i_net_around_l1 F set_2 w_1 k) ih out_6 _ ⟨h1, h4, h5, h10, h11, h12⟩ h
    · refine .exit ?_
      refine .esq ?_
      refine .elp ?_
      refine .ebk ?_
      refine .nsq ?_
      refine .seq ?_
      refine run_reg ?_
      refine e_end ?_
      refine g_v1 (t := 5) (u := (.int .i64 out_6)) (.int .i64 out_6) h5 rfl rfl ?_
      refine g_v1 (t := 26) (u := (.int .i64 out_6)) (.int .i64 out_6) rfl rfl rfl ?_
      refine g_end ?_
      refine e_end ?_
      refine renew [(4, (.int .i64 out_6))] rfl ?_
      rintro s h4
      refine .nsq ?_
      refine .ret ?_
      have hr := Option.some.inj h
      subst hr
      exact rrA (res_tmp h4) rfl
def i_net_around (F : Nat) (w_1 : (S1 (List Int))) (set_2 : Int) : Option Int :=
  i_net_around_l1 F set_2 w_1 F set_2 0
theorem t123 (H : H123 D σ F) (w_1 : (S1 (List Int))) (set_2 : Int) (s : Nat → V) (hs : Facts [(0, (.agg [(Enc.enc (w_1.a : List Int))])), (1, (.int .i64 set_2))] s) (h : i_net_around F w_1 set_2 = some r) : Run D σ (R123 r) (.run A123 []) s := by
  unfold i_net_around at h
  obtain ⟨h0, h1⟩ := hs
  refine .seq ?_
  refine run_reg ?_
  refine e_clr ?_
  refine e_end ?_
  refine g_box (.agg [(Enc.enc (w_1.a : List Int))]) (rd_of (keep_clear (s := s) (pk := [2]) h0 rfl (map_agg (maps_cons (Enc.map_enc _ (w_1.a : List Int)) maps_nil))) rfl) (gone_clear (s := s) (pk := [2]) (t := 2) rfl) rfl ?_
  refine g_v0 (.int .i64 0) rfl rfl ?_
  refine g_end ?_
  refine e_end ?_
  refine renew [(1, (.int .i64 set_2)), (2, (.ref (.bx 2) 0 [] (.agg [(Enc.enc (w_1.a : List Int))]))), (4, (.int .i64 0))] ⟨(keep_clear (s := s) (pk := [2]) h1 rfl rfl), rfl, rfl⟩ ?_
  rintro s ⟨h1, h2, h4⟩
  refine .nsq ?_
  refine .seq ?_
  refine run_reg ?_
  refine e_end ?_
  refine g_v1 (t := 1) (u := (.int .i64 set_2)) (.int .i64 set_2) h1 rfl rfl ?_
  refine g_v1 (t := 8) (u := (.int .i64 set_2)) (.int .i64 set_2) rfl rfl rfl ?_
  refine g_end ?_
  refine e_end ?_
  refine renew [(1, (.int .i64 set_2)), (2, (.ref (.bx 2) 0 [] (.agg [(Enc.enc (w_1.a : List Int))]))), (4, (.int .i64 0)), (5, (.int .i64 set_2))] ⟨h1, h2, h4, rfl⟩ ?_
  rintro s ⟨h1, h2, h4, h5⟩
  refine .nsq ?_
  refine .seq ?_
  refine .seq ?_
  refine run_reg ?_
  refine e_end ?_
  refine g_v1 (t := 2) (u := (.ref (.bx 2) 0 [] (.agg [(Enc.enc (w_1.a : List Int))]))) (.ref (.bx 2) 0 [0] (Enc.enc (w_1.a : List Int))) h2 rfl rfl ?_
  refine g_v1 (t := 9) (u := (.ref (.bx 2) 0 [0] (Enc.enc (w_1.a : List Int)))) (Enc.enc (w_1.a : List Int)) rfl rfl rfl ?_
  refine g_v (.int .i64 (w_1.a.length : Int)) (ev_len (xs := w_1.a) rfl) ?_
  refine g_v0 (.int .i64 0) rfl rfl ?_
  refine g_end ?_
  refine e_end ?_
  refine renew [(1, (.int .i64 set_2)), (4, (.int .i64 0)), (5, (.int .i64 set_2)), (10, (Enc.enc (w_1.a : List Int))), (11, (.int .i64 (w_1.a.length : Int))), (12, (.int .i64 0))] ⟨h1, h4, h5, rfl, rfl, rfl⟩ ?_
  rintro s ⟨h1, h4, h5, h10, h11, h12⟩
  refine .nsq ?_
  refine .block ?_
  refine .loop ?_
  exact t_f123_l1 H set_2 w_1 F set_2 0 _ ⟨h1, h4, h5, h10, h11, h12⟩ h
end
def e123 (F : Nat) : Ent := ⟨123, da (fun (x : ((S1 (List Int)) × Int × Unit)) => i_net_around F x.1 x.2.1) (fun (r : Int) => (Enc.enc (r : Int))), 0, false, selF []⟩
theorem p123 {F : Nat} {x0 : (S1 (List Int))} {x1 : Int} {r : Int} (h : i_net_around F x0 x1 = some r) : (e123 F).den [Enc.enc x0, Enc.enc x1] = some (Enc.enc (r : Int)) := da_put (f := fun (x : ((S1 (List Int)) × Int × Unit)) => i_net_around F x.1 x.2.1) (t := fun (r : Int) => (Enc.enc (r : Int))) (x0, x1, ()) h
theorem o123 {D : Den} {σ : Sig} {F : Nat} (hF : Fits2 Try.prog D σ) (H : H123 D σ F) : (e123 F).Ok Try.prog := by
  refine ⟨fun args r h => ?_, ⟨Try.f123, Try.func123, rfl, rfl⟩⟩
  obtain ⟨⟨x0, x1, _⟩, y, rfl, hy, rfl⟩ := da_open h
  exact contract_run hF (by kernel_rfl) Try.func123 rfl c123 (show 2 ≤ Try.f123.ntmps by decide) (t123 H x0 x1 _ ⟨rfl, rfl⟩ hy)
/- (loop.example/g01109/impl.net).parts -/
def A92_2 : AC := (AC.cond (O.t 9) AC.skip (AC.exit 0))
def A92_7 : AC := (AC.cond (O.t 21) (AC.exit 2) AC.skip)
def A92_8 : AC := (AC.reg [] [(I.mk (some 22) none false (X.v (A.mov (O.t 7)))), (I.mk (some 6) none false (X.v (A.mov (O.t 22))))] [])
def A92_6 : AC := (AC.seq (AC.seq (AC.reg [] [(I.mk (some 19) none false (X.v (A.mov (O.t 7)))), (I.mk (some 20) none false (X.v (A.mov (O.t 6)))), (I.mk (some 21) none false (X.v (A.bin BinOp.eql (O.t 19) (O.t 20))))] []) A92_7) A92_8)
def A92_5 : AC := (AC.block 3 (AC.seq (AC.reg [] [(I.mk (some 14) none false (X.v (A.load (Sh.ag [Sh.p]) (O.t 2)))), (I.mk (some 15) none false (X.v (A.mov (O.t 6)))), (I.mk (some 16) none false (X.call (O.k (V.fn 123 [] [])) [(O.t 14), (O.t 15)])), (I.mk (some 17) none false (X.v (A.mov (O.t 1)))), (I.mk (some 18) none false (X.v (A.bin BinOp.and (O.t 16) (O.t 17)))), (I.mk (some 7) none false (X.v (A.mov (O.t 18))))] []) A92_6))
def A92_10 : AC := (AC.reg [] [(I.mk (some 27) none false (X.v (A.mov (O.t 1)))), (I.mk (some 28) none false (X.v (A.mov (O.t 6)))), (I.mk (some 29) none false (X.v (A.bin BinOp.andNot (O.t 27) (O.t 28)))), (I.mk (some 1) none false (X.v (A.mov (O.t 29))))] [])
def A92_9 : AC := (AC.seq (AC.reg [.clr [25, 26]] [(I.mk (some 23) none false (X.v (A.mov (O.t 5)))), (I.mk (some 24) none false (X.v (A.mov (O.t 6)))), (I.mk (some 25) none false (X.lit (V.int IntKind.i64 (Int.ofNat 0)) 1 [(0, 0, (O.t 24))])), (I.mk (some 26) none false (X.app Sh.s (O.t 23) (O.t 25))), (I.mk (some 5) none false (X.v (A.mov (O.t 26))))] [.home 26 5]) A92_10)
def A92_4 : AC := (AC.seq (AC.block 2 (AC.loop A92_5)) A92_9)
def A92_3 : AC := (AC.block 1 (AC.seq (AC.reg [] [(I.mk (some 10) none false (X.v (A.mov (O.t 1)))), (I.mk (some 11) none false (X.v (A.mov (O.t 1)))), (I.mk (some 12) none false (X.v (A.un UnOp.neg (O.t 11)))), (I.mk (some 13) none false (X.v (A.bin BinOp.and (O.t 10) (O.t 12)))), (I.mk (some 6) none false (X.v (A.mov (O.t 13))))] []) A92_4))
def A92_1 : AC := (AC.seq (AC.seq (AC.reg [] [(I.mk (some 8) none false (X.v (A.mov (O.t 1)))), (I.mk (some 9) none false (X.v (A.bin BinOp.neq (O.t 8) (O.k (V.int IntKind.i64 (Int.ofNat 0))))))] []) A92_2) A92_3)
def A92_11 : AC := (AC.seq (AC.reg [] [(I.mk (some 30) none false (X.v (A.mov (O.t 5)))), (I.mk (some 4) none false (X.v (A.mov (O.t 30))))] [.home 5 4]) AC.ret)
def A92_13 : AC := (AC.seq (AC.block 0 (AC.loop A92_1)) A92_11)
def A92_12 : AC := (AC.seq (AC.reg [] [(I.mk (some 5) none false (X.v (A.mov (O.k (V.sl Tok.nl Sh.s 0 [])))))] []) A92_13)
def A92 : AC := (AC.seq (AC.reg [.clr [2]] [(I.mk (some 2) none false (X.box (O.t 0))), (I.mk (some 4) none false (X.v (A.mov (O.k (V.sl Tok.nl Sh.s 0 [])))))] []) A92_12)
def an92 : List An := [{ id := 0, pre := [.clr [2]], ep := [], lin := [], sp := [] }, { id := 7, pre := [.clr [25, 26]], ep := [.home 26 5], lin := [], sp := [] }, { id := 9, pre := [], ep := [.home 5 4], lin := [], sp := [] }]
theorem c92 : cC Try.prog Try.f92.ntmps an92 (Try.f92.body.getD .skip) = some A92 := by kernel_rfl
structure H92 (D : Den) (σ : Sig) (F : Nat) : Prop where
  c123 : ∀ (x0 : (S1 (List Int))) (x1 : Int) r, i_net_around F x0 x1 = some r → D 123 [Enc.enc x0, Enc.enc x1] = some (Enc.enc (r : Int))
  g123 : σ 123 = some (0, false)
abbrev R92 (r : (List Int)) : (Nat → V) → Prop := RR Try.prog [.tmp 4] 0 false (Enc.enc (r : (List Int)))
section
variable {D : Den} {σ : Sig} {F : Nat} {r : (List Int)}
def i_net_parts_l1 (F : Nat) (set_8 : Int) (w_1 : (S1 (List Int))) (parts_9 : (NL Int)) (c1 : Int → (NL Int) → Option (List Int)) : Nat → Int → Option (List Int)
  | 0, _ => none
  | k + 1, part_16 =>
    (i_net_around F w_1 part_16).bind fun r_18 =>
    bif ((iand .i64 r_18 set_8) == part_16) then
      (appL parts_9.list [part_16]).bind fun ap_19 =>
      c1 (iandNot .i64 set_8 part_16) (.of ap_19)
    else
      (i_net_parts_l1 F set_8 w_1 parts_9 c1 k) (iand .i64 r_18 set_8)
theorem t_f92_l1 (H : H92 D σ F) (set_8 : Int) (w_1 : (S1 (List Int))) (parts_9 : (NL Int)) (c1 : Int → (NL Int) → Option (List Int)) (Hc1 : ∀ (set_8 : Int) (parts_9 : (NL Int)) (s : Nat → V), Facts [(1, (.int .i64 set_8)), (2, (.ref (.bx 2) 0 [] (.agg [(Enc.enc (w_1.a : List Int))]))), (4, (.sl .nl (Enc.shp Int) 0 [])), (5, (encO (.at 5 []) (parts_9 : NL Int)))] s → c1 set_8 parts_9 = some r → Run D σ (R92 r) (.run A92_1 [.lp A92_1, .bk 0, .sq A92_11]) s) : ∀ (k : Nat) (part_16 : Int) (s : Nat → V), Facts [(1, (.int .i64 set_8)), (2, (.ref (.bx 2) 0 [] (.agg [(Enc.enc (w_1.a : List Int))]))), (4, (.sl .nl (Enc.shp Int) 0 [])), (5, (encO (.at 5 []) (parts_9 : NL Int))), (6, (.int .i64 part_16))] s → i_net_parts_l1 F set_8 w_1 parts_9 c1 k part_16 = some r → Run D σ (R92 r) (.run A92_5 [.lp A92_5, .bk 2, .sq A92_9, .bk 1, .lp A92_1, .bk 0, .sq A92_11]) s := by
  intro k
  induction k with
  | zero => intro part_16 s _ h; exact nomatch (h : (none : Option _) = some r)
  | succ k ih =>
    intro part_16 s hs h
    rw [i_net_parts_l1] at h
    obtain ⟨h1, h2, h4, h5, h6⟩ := hs
    refine .block ?_
    refine .seq ?_
    refine run_reg ?_
    refine e_end ?_
    refine g_v1 (t := 2) (u := (.ref (.bx 2) 0 [] (.agg [(Enc.enc (w_1.a : List Int))]))) (.agg [(Enc.enc (w_1.a : List Int))]) h2 rfl rfl ?_
    refine g_v1 (t := 6) (u := (.int .i64 part_16)) (.int .i64 part_16) h6 rfl rfl ?_
    obtain ⟨r_18, E_r_18, h⟩ := bind_some h
    refine g_call (m := 0) (al := false) (r := (Enc.enc (r_18 : Int))) [Enc.enc (w_1 : (S1 (List Int))), Enc.enc (part_16 : Int)] (ta_cons (v := (.agg [(Enc.enc (w_1.a : List Int))])) rfl rfl (Enc.erase_enc (w_1 : (S1 (List Int)))) (ta_cons (v := (.int .i64 part_16)) rfl rfl rfl ta_nil)) (H.c123 _ _ _ E_r_18) H.g123 rfl rfl rfl rfl ?_
    refine g_v1 (t := 1) (u := (.int .i64 set_8)) (.int .i64 set_8) h1 rfl rfl ?_
    refine g_v2 (t1 := 16) (t2 := 17) (u1 := (.int .i64 r_18)) (u2 := (.int .i64 set_8)) (.int .i64 (iand .i64 r_18 set_8)) rfl rfl rfl rfl ?_
    refine g_v1 (t := 18) (u := (.int .i64 (iand .i64 r_18 set_8))) (.int .i64 (iand .i64 r_18 set_8)) rfl rfl rfl ?_
    refine g_end ?_
    refine e_end ?_
    refine renew [(1, (.int .i64 set_8)), (2, (.ref (.bx 2) 0 [] (.agg [(Enc.enc (w_1.a : List Int))]))), (4, (.sl .nl (Enc.shp Int) 0 [])), (5, (encO (.at 5 []) (parts_9 : NL Int))), (6, (.int .i64 part_16)), (7, (.int .i64 (iand .i64 r_18 set_8)))] ⟨h1, h2, h4, h5, h6, rfl⟩ ?_
    rintro s ⟨h1, h2, h4, h5, h6, h7⟩
    refine .nsq ?_
    refine .seq ?_
    refine .seq ?_
    refine run_reg ?_
    refine e_end ?_
    refine g_v1 (t := 7) (u := (.int .i64 (iand .i64 r_18 set_8))) (.int .i64 (iand .i64 r_18 set_8)) h7 rfl rfl ?_
    refine g_v1 (t := 6) (u := (.int .i64 part_16)) (.int .i64 part_16) h6 rfl rfl ?_
    refine g_v2 (t1 := 19) (t2 := 20) (u1 := (.int .i64 (iand .i64 r_18 set_8))) (u2 := (.int .i64 part_16)) (.bool ((iand .i64 r_18 set_8) == part_16)) rfl rfl rfl rfl ?_
    refine g_end ?_
    refine e_end ?_
    refine renew [(1, (.int .i64 set_8)), (2, (.ref (.bx 2) 0 [] (.agg [(Enc.enc (w_1.a : List Int))]))), (4, (.sl .nl (Enc.shp Int) 0 [])), (5, (encO (.at 5 []) (parts_9 : NL Int))), (6, (.int .i64 part_16)), (7, (.int .i64 (iand .i64 r_18 set_8))), (21, (.bool ((iand .i64 r_18 set_8) == part_16)))] ⟨h1, h2, h4, h5, h6, h7, rfl⟩ ?_
    rintro s ⟨h1, h2, h4, h5, h6, h7, h21⟩
    refine .nsq ?_
    refine run_cond (t := ((iand .i64 r_18 set_8) == part_16)) h21 h (fun h => ?_) (fun h => ?_)
    · refine .exit ?_
      refine .esq ?_
      refine .ebn (by decide) ?_
      refine .elp ?_
      refine .ebk ?_
      refine .nsq ?_
      refine .seq ?_
      refine run_reg ?_
      refine e_clr ?_
      refine e_end ?_
      refine g_v (encO (.at 5 []) (parts_9 : NL Int)) (ev_mov (keep_clear (s := s) (pk := [25, 26]) h5 rfl (map_encO (r := 5) (p := []) rfl rfl)) ok_encO) ?_
      refine g_v1 (t := 6) (u := (.int .i64 part_16)) (.int .i64 part_16) (keep_clear (s := s) (pk := [25, 26]) h6 rfl rfl) rfl rfl ?_
      refine g_litL [(24, (.int .i64 part_16))] [Enc.enc (part_16 : Int)] rfl rfl rfl (gone_clear (s := s) (pk := [25, 26]) (t := 25) rfl) ?_
      obtain ⟨ap_19, E_ap_19, h⟩ := bind_some h
      refine g_app (q := 5) (p := []) (o := (parts_9 : NL Int)) (ys := ([part_16] : List Int)) (t2 := (.at 25 [])) (lo2 := 0) rfl rfl rfl (gone_clear (s := s) (pk := [25, 26]) (t := 26) rfl) (appN_L (o := (parts_9 : NL Int)) E_ap_19 (by split <;> simp)) (fun s_9 ha_9 => ?_)
      refine g_v1 (t := 26) (u := (encO (.at 26 []) (.of (ap_19 : List Int)))) (encO (.at 26 []) (.of (ap_19 : List Int))) rfl rfl rfl ?_
      refine g_end ?_
      refine e_home (r := 26) (x := 5) (v := (encO (.at 26 []) (.of (ap_19 : List Int)))) (by exact rfl) rfl (fun s_10 hg_10 => ?_)
      refine e_end ?_
      refine renew [(1, (.int .i64 set_8)), (2, (.ref (.bx 2) 0 [] (.agg [(Enc.enc (w_1.a : List Int))]))), (4, (.sl .nl (Enc.shp Int) 0 [])), (5, (encO (.at 5 []) (.of (ap_19 : List Int)))), (6, (.int .i64 part_16))] ⟨(hg_10 1 (.int .i64 set_8) (.int .i64 set_8) (show s_9 1 = (.int .i64 set_8) from keep_app ha_9 (keep_clear (s := s) (pk := [25, 26]) h1 rfl rfl) rfl) rfl), (hg_10 2 (.ref (.bx 2) 0 [] (.agg [(Enc.enc (w_1.a : List Int))])) (.ref (.bx 2) 0 [] (.agg [(Enc.enc (w_1.a : List Int))])) (show s_9 2 = (.ref (.bx 2) 0 [] (.agg [(Enc.enc (w_1.a : List Int))])) from keep_app ha_9 (keep_clear (s := s) (pk := [25, 26]) h2 rfl (map_bx rfl (map_agg (maps_cons (Enc.map_enc _ (w_1.a : List Int)) maps_nil)))) (map_bx rfl (map_agg (maps_cons (Enc.map_enc _ (w_1.a : List Int)) maps_nil)))) (map_bx rfl (map_agg (maps_cons (Enc.map_enc _ (w_1.a : List Int)) maps_nil)))), (hg_10 4 (.sl .nl (Enc.shp Int) 0 []) (.sl .nl (Enc.shp Int) 0 []) (show s_9 4 = (.sl .nl (Enc.shp Int) 0 []) from keep_app ha_9 (keep_clear (s := s) (pk := [25, 26]) h4 rfl rfl) rfl) rfl), (hg_10 5 (encO (.at 26 []) (.of (ap_19 : List Int))) (encO (.at 5 []) (.of (ap_19 : List Int))) rfl (map_encO (r := 26) (p := []) rfl rfl)), (hg_10 6 (.int .i64 part_16) (.int .i64 part_16) (show s_9 6 = (.int .i64 part_16) from keep_app ha_9 (keep_clear (s := s) (pk := [25, 26]) h6 rfl rfl) rfl) rfl)⟩ ?_
      rintro s ⟨h1, h2, h4, h5, h6⟩
      refine .nsq ?_
      refine run_reg ?_
      refine e_end ?_
      refine g_v1 (t := 1) (u := (.int .i64 set_8)) (.int .i64 set_8) h1 rfl rfl ?_
      refine g_v1 (t := 6) (u := (.int .i64 part_16)) (.int .i64 part_16) h6 rfl rfl ?_
      refine g_v2 (t1 := 27) (t2 := 28) (u1 := (.int .i64 set_8)) (u2 := (.int .i64 part_16)) (.int .i64 (iandNot .i64 set_8 part_16)) rfl rfl rfl rfl ?_
      refine g_v1 (t := 29) (u := (.int .i64 (iandNot .i64 set_8 part_16))) (.int .i64 (iandNot .i64 set_8 part_16)) rfl rfl rfl ?_
      refine g_end ?_
      refine e_end ?_
      refine renew [(1, (.int .i64 (iandNot .i64 set_8 part_16))), (2, (.ref (.bx 2) 0 [] (.agg [(Enc.enc (w_1.a : List Int))]))), (4, (.sl .nl (Enc.shp Int) 0 [])), (5, (encO (.at 5 []) (.of (ap_19 : List Int))))] ⟨rfl, h2, h4, h5⟩ ?_
      rintro s ⟨h1, h2, h4, h5⟩
      refine .nbk ?_
      refine .nlp ?_
      exact Hc1 (iandNot .i64 set_8 part_16) (.of ap_19) _ ⟨h1, h2, h4, h5⟩ h
    · refine .skip ?_
      refine .nsq ?_
      refine run_reg ?_
      refine e_end ?_
      refine g_v1 (t := 7) (u := (.int .i64 (iand .i64 r_18 set_8))) (.int .i64 (iand .i64 r_18 set_8)) h7 rfl rfl ?_
      refine g_v1 (t := 22) (u := (.int .i64 (iand .i64 r_18 set_8))) (.int .i64 (iand .i64 r_18 set_8)) rfl rfl rfl ?_
      refine g_end ?_
      refine e_end ?_
      refine renew [(1, (.int .i64 set_8)), (2, (.ref (.bx 2) 0 [] (.agg [(Enc.enc (w_1.a : List Int))]))), (4, (.sl .nl (Enc.shp Int) 0 [])), (5, (encO (.at 5 []) (parts_9 : NL Int))), (6, (.int .i64 (iand .i64 r_18 set_8)))] ⟨h1, h2, h4, h5, rfl⟩ ?_
      rintro s ⟨h1, h2, h4, h5, h6⟩
      refine .nbk ?_
      refine .nlp ?_
      exact ih (iand .i64 r_18 set_8) _ ⟨h1, h2, h4, h5, h6⟩ h
def i_net_parts_l2 (F : Nat) (w_1 : (S1 (List Int)))  : Nat → Int → (NL Int) → Option (List Int)
  | 0, _, _ => none
  | k + 1, set_8, parts_9 =>
    bif (set_8 != 0) then
      i_net_parts_l1 F set_8 w_1 parts_9 (i_net_parts_l2 F w_1 k) F (iand .i64 set_8 (w64 (0 - set_8)))
    else
      some parts_9.list
theorem t_f92_l2 (H : H92 D σ F) (w_1 : (S1 (List Int)))  : ∀ (k : Nat) (set_8 : Int) (parts_9 : (NL Int)) (s : Nat → V), Facts [(1, (.int .i64 set_8)), (2, (.ref (.bx 2) 0 [] (.agg [(Enc.enc (w_1.a : List Int))]))), (4, (.sl .nl (Enc.shp Int) 0 [])), (5, (encO (.at 5 []) (parts_9 : NL Int)))] s → i_net_parts_l2 F w_1 k set_8 parts_9 = some r → Run D σ (R92 r) (.run A92_1 [.lp A92_1, .bk 0, .sq A92_11]) s := by
  intro k
  induction k with
  | zero => intro set_8 parts_9 s _ h; exact nomatch (h : (none : Option _) = some r)
  | succ k ih =>
    intro set_8 parts_9 s hs h
    rw [i_net_parts_l2] at h
    obtain ⟨h1, h2, h4, h5⟩ := hs
    refine .seq ?_
    refine .seq ?_
    refine run_reg ?_
    refine e_end ?_
    refine g_v1 (t := 1) (u := (.int .i64 set_8)) (.int .i64 set_8) h1 rfl rfl ?_
    refine g_v1 (t := 8) (u := (.int .i64 set_8)) (.bool (set_8 != 0)) rfl rfl rfl ?_
    refine g_end ?_
    refine e_end ?_
    refine renew [(1, (.int .i64 set_8)), (2, (.ref (.bx 2) 0 [] (.agg [(Enc.enc (w_1.a : List Int))]))), (4, (.sl .nl (Enc.shp Int) 0 [])), (5, (encO (.at 5 []) (parts_9 : NL Int))), (9, (.bool (set_8 != 0)))] ⟨h1, h2, h4, h5, rfl⟩ ?_
    rintro s ⟨h1, h2, h4, h5, h9⟩
    refine .nsq ?_
    refine run_cond (t := (set_8 != 0)) h9 h (fun h => ?_) (fun h => ?_)
    · refine .skip ?_
      refine .nsq ?_
      refine .block ?_
      refine .seq ?_
      refine run_reg ?_
      refine e_end ?_
      refine g_v1 (t := 1) (u := (.int .i64 set_8)) (.int .i64 set_8) h1 rfl rfl ?_
      refine g_v1 (t := 1) (u := (.int .i64 set_8)) (.int .i64 set_8) h1 rfl rfl ?_
      refine g_v1 (t := 11) (u := (.int .i64 set_8)) (.int .i64 (w64 (0 - set_8))) rfl rfl rfl ?_
      refine g_v2 (t1 := 10) (t2 := 12) (u1 := (.int .i64 set_8)) (u2 := (.int .i64 (w64 (0 - set_8)))) (.int .i64 (iand .i64 set_8 (w64 (0 - set_8)))) rfl rfl rfl rfl ?_
      refine g_v1 (t := 13) (u := (.int .i64 (iand .i64 set_8 (w64 (0 - set_8))))) (.int .i64 (iand .i64 set_8 (w64 (0 - set_8)))) rfl rfl rfl ?_
      refine g_end ?_
      refine e_end ?_
      refine renew [(1, (.int .i64 set_8)), (2, (.ref (.bx 2) 0 [] (.agg [(Enc.enc (w_1.a : List Int))]))), (4, (.sl .nl (Enc.shp Int) 0 [])), (5, (encO (.at 5 []) (parts_9 : NL Int))), (6, (.int .i64 (iand .i64 set_8 (w64 (0 - set_8)))))] ⟨h1, h2, h4, h5, rfl⟩ ?_
      rintro s ⟨h1, h2, h4, h5, h6⟩
      refine .nsq ?_
      refine .seq ?_
      refine .block ?_
      refine .loop ?_
      exact t_f92_l1 H set_8 w_1 parts_9 (i_net_parts_l2 F w_1 k) ih F (iand .i64 set_8 (w64 (0 - set_8))) _ ⟨h1, h2, h4, h5, h6⟩ h
    · refine .exit ?_
      refine .esq ?_
      refine .elp ?_
      refine .ebk ?_
      refine .nsq ?_
      refine .seq ?_
      refine run_reg ?_
      refine e_end ?_
      refine g_v (encO (.at 5 []) (parts_9 : NL Int)) (ev_mov h5 ok_encO) ?_
      refine g_v (encO (.at 5 []) (parts_9 : NL Int)) (ev_mov rfl ok_encO) ?_
      refine g_end ?_
      refine e_home (r := 5) (x := 4) (v := (encO (.at 5 []) (parts_9 : NL Int))) (by exact rfl) ok_encO (fun s_11 hg_11 => ?_)
      refine e_end ?_
      refine renew [(4, (encO (.at 4 []) (parts_9 : NL Int)))] (hg_11 4 (encO (.at 5 []) (parts_9 : NL Int)) (encO (.at 4 []) (parts_9 : NL Int)) rfl (map_encO (r := 5) (p := []) rfl rfl)) ?_
      rintro s h4
      refine .nsq ?_
      refine .ret ?_
      have hr := Option.some.inj h
      subst hr
      exact rrA (res_tmp h4) (fin_retF (fin_own (o := parts_9)) (mine_own rfl))
def i_net_parts (F : Nat) (w_1 : (S1 (List Int))) (set_2 : Int) : Option (List Int) :=
  i_net_parts_l2 F w_1 F set_2 .nil
theorem t92 (H : H92 D σ F) (w_1 : (S1 (List Int))) (set_2 : Int) (s : Nat → V) (hs : Facts [(0, (.agg [(Enc.enc (w_1.a : List Int))])), (1, (.int .i64 set_2))] s) (h : i_net_parts F w_1 set_2 = some r) : Run D σ (R92 r) (.run A92 []) s := by
  unfold i_net_parts at h
  obtain ⟨h0, h1⟩ := hs
  refine .seq ?_
  refine run_reg ?_
  refine e_clr ?_
  refine e_end ?_
  refine g_box (.agg [(Enc.enc (w_1.a : List Int))]) (rd_of (keep_clear (s := s) (pk := [2]) h0 rfl (map_agg (maps_cons (Enc.map_enc _ (w_1.a : List Int)) maps_nil))) rfl) (gone_clear (s := s) (pk := [2]) (t := 2) rfl) rfl ?_
  refine g_v0 (.sl .nl (Enc.shp Int) 0 []) rfl rfl ?_
  refine g_end ?_
  refine e_end ?_
  refine renew [(1, (.int .i64 set_2)), (2, (.ref (.bx 2) 0 [] (.agg [(Enc.enc (w_1.a : List Int))]))), (4, (.sl .nl (Enc.shp Int) 0 []))] ⟨(keep_clear (s := s) (pk := [2]) h1 rfl rfl), rfl, rfl⟩ ?_
  rintro s ⟨h1, h2, h4⟩
  refine .nsq ?_
  refine .seq ?_
  refine run_reg ?_
  refine e_end ?_
  refine g_v0 (.sl .nl (Enc.shp Int) 0 []) rfl rfl ?_
  refine g_end ?_
  refine e_end ?_
  refine renew [(1, (.int .i64 set_2)), (2, (.ref (.bx 2) 0 [] (.agg [(Enc.enc (w_1.a : List Int))]))), (4, (.sl .nl (Enc.shp Int) 0 [])), (5, (.sl .nl (Enc.shp Int) 0 []))] ⟨h1, h2, h4, rfl⟩ ?_
  rintro s ⟨h1, h2, h4, h5⟩
  refine .nsq ?_
  refine .seq ?_
  refine .block ?_
  refine .loop ?_
  exact t_f92_l2 H w_1 F set_2 .nil _ ⟨h1, h2, h4, h5⟩ h
end
def e92 (F : Nat) : Ent := ⟨92, da (fun (x : ((S1 (List Int)) × Int × Unit)) => i_net_parts F x.1 x.2.1) (fun (r : (List Int)) => (Enc.enc (r : (List Int)))), 0, false, selF []⟩
theorem p92 {F : Nat} {x0 : (S1 (List Int))} {x1 : Int} {r : (List Int)} (h : i_net_parts F x0 x1 = some r) : (e92 F).den [Enc.enc x0, Enc.enc x1] = some (Enc.enc (r : (List Int))) := da_put (f := fun (x : ((S1 (List Int)) × Int × Unit)) => i_net_parts F x.1 x.2.1) (t := fun (r : (List Int)) => (Enc.enc (r : (List Int)))) (x0, x1, ()) h
theorem o92 {D : Den} {σ : Sig} {F : Nat} (hF : Fits2 Try.prog D σ) (H : H92 D σ F) : (e92 F).Ok Try.prog := by
  refine ⟨fun args r h => ?_, ⟨Try.f92, Try.func92, rfl, rfl⟩⟩
  obtain ⟨⟨x0, x1, _⟩, y, rfl, hy, rfl⟩ := da_open h
  exact contract_run hF (by kernel_rfl) Try.func92 rfl c92 (show 2 ≤ Try.f92.ntmps by decide) (t92 H x0 x1 _ ⟨rfl, rfl⟩ hy)
/- loop.example/g01109/impl.isDepthEntry -/
def A63_5 : AC := (AC.cond (O.t 104) (AC.seq (AC.reg [] [(I.mk (some 6) none false (X.v (A.mov (O.k (V.bool false)))))] []) AC.ret) AC.skip)
def A63_4 : AC := (AC.seq (AC.reg [] [(I.mk (some 56) none false (X.v (A.mov (O.t 9)))), (I.mk (some 57) none false (X.v (A.mov (O.t 2)))), (I.mk (some 58) none false (X.v (A.bin BinOp.add (O.t 57) (O.k (V.int IntKind.i64 (Int.ofNat 1)))))), (I.mk (some 59) none false (X.v (A.mov (O.t 1)))), (I.mk (some 60) none false (X.v (A.len (O.t 59)))), (I.mk (some 61) none false (X.v (A.bin BinOp.sub (O.t 60) (O.k (V.int IntKind.i64 (Int.ofNat 1)))))), (I.mk (some 62) none false (X.call (O.k (V.fn 62 [] [])) [(O.t 56), (O.t 58), (O.t 61)])), (I.mk (some 63) none false (X.v (A.un UnOp.not (O.t 62)))), (I.mk (some 64) none false (X.v (A.mov (O.t 63)))), (I.mk (some 65) (some (64, false)) false (X.v (A.mov (O.t 1)))), (I.mk (some 66) (some (64, false)) false (X.v (A.mov (O.t 9)))), (I.mk (some 67) (some (64, false)) false (X.v (A.idx (O.t 65) (O.t 66) 3))), (I.mk (some 68) (some (64, false)) false (X.v (A.fld (O.t 67) 1 1))), (I.mk (some 69) (some (64, false)) false (X.v (A.load Sh.s (O.t 68)))), (I.mk (some 70) (some (64, false)) false (X.v (A.fld (O.t 7) 1 1))), (I.mk (some 71) (some (64, false)) false (X.v (A.load Sh.s (O.t 70)))), (I.mk (some 72) (some (64, false)) false (X.v (A.bin BinOp.sub (O.t 71) (O.k (V.int IntKind.i64 (Int.ofNat 1)))))), (I.mk (some 73) (some (64, false)) false (X.v (A.bin BinOp.neq (O.t 69) (O.t 72)))), (I.mk (some 74) none false (X.v (A.pick (O.t 64) (O.k (V.bool true)) (O.t 73)))), (I.mk (some 75) none false (X.v (A.mov (O.t 74)))), (I.mk (some 76) (some (75, false)) false (X.v (A.load (Sh.ag [Sh.s, Sh.p]) (O.t 3)))), (I.mk (some 77) (some (75, false)) false (X.v (A.mov (O.t 1)))), (I.mk (some 78) (some (75, false)) false (X.v (A.mov (O.t 9)))), (I.mk (some 79) (some (75, false)) false (X.v (A.idx (O.t 77) (O.t 78) 3))), (I.mk (some 80) (some (75, false)) false (X.v (A.fld (O.t 79) 0 0))), (I.mk (some 81) (some (75, false)) false (X.v (A.load Sh.p (O.t 80)))), (I.mk (some 82) (some (75, false)) false (X.call (O.k (V.fn 84 [] [])) [(O.t 76), (O.t 81)])), (I.mk (some 83) (some (75, false)) false (X.v (A.un UnOp.not (O.t 82)))), (I.mk (some 84) none false (X.v (A.pick (O.t 75) (O.k (V.bool true)) (O.t 83)))), (I.mk (some 85) none false (X.v (A.mov (O.t 84)))), (I.mk (some 86) (some (85, false)) false (X.v (A.mov (O.t 1)))), (I.mk (some 87) (some (85, false)) false (X.v (A.mov (O.t 9)))), (I.mk (some 88) (some (85, false)) false (X.v (A.idx (O.t 86) (O.t 87) 3))), (I.mk (some 89) (some (85, false)) false (X.v (A.fld (O.t 88) 0 0))), (I.mk (some 90) (some (85, false)) false (X.v (A.load Sh.p (O.t 89)))), (I.mk (some 91) (some (85, false)) false (X.call (O.k (V.fn 93 [] [])) [(O.t 90)])), (I.mk (some 92) (some (85, false)) false (X.v (A.fld (O.t 7) 0 0))), (I.mk (some 93) (some (85, false)) false (X.v (A.load Sh.p (O.t 92)))), (I.mk (some 94) (some (85, false)) false (X.call (O.k (V.fn 93 [] [])) [(O.t 93)])), (I.mk (some 95) (some (85, false)) false (X.v (A.fld (O.t 7) 0 0))), (I.mk (some 96) (some (85, false)) false (X.v (A.load Sh.p (O.t 95)))), (I.mk (some 97) (some (85, false)) false (X.v (A.mov (O.t 8)))), (I.mk (some 98) (some (85, false)) false (X.v (A.idx (O.t 96) (O.t 97) 1))), (I.mk (some 99) (some (85, false)) false (X.v (A.load Sh.s (O.t 98)))), (I.mk (some 100) (some (85, false)) false (X.v (A.bin BinOp.shl (O.k (V.int IntKind.i64 (Int.ofNat 1))) (O.t 99)))), (I.mk (some 101) (some (85, false)) false (X.v (A.bin BinOp.andNot (O.t 94) (O.t 100)))), (I.mk (some 102) (some (85, false)) false (X.v (A.bin BinOp.andNot (O.t 91) (O.t 101)))), (I.mk (some 103) (some (85, false)) false (X.v (A.bin BinOp.neq (O.t 102) (O.k (V.int IntKind.i64 (Int.ofNat 0)))))), (I.mk (some 104) none false (X.v (A.pick (O.t 85) (O.k (V.bool true)) (O.t 103))))] []) A63_5)
def A63_6 : AC := (AC.reg [] [(I.mk (some 105) none false (X.v (A.bin BinOp.add (O.t 51) (O.k (V.int IntKind.i64 (Int.ofNat 1)))))), (I.mk (some 51) none false (X.v (A.mov (O.t 105))))] [])
def A63_3 : AC := (AC.seq (AC.block 1 (AC.seq (AC.reg [] [(I.mk (some 53) none false (X.v (A.mov (O.t 51)))), (I.mk (some 54) none false (X.v (A.idx (O.t 49) (O.t 51) 1))), (I.mk (some 55) none false (X.v (A.load Sh.s (O.t 54)))), (I.mk (some 8) none false (X.v (A.mov (O.t 53)))), (I.mk (some 9) none false (X.v (A.mov (O.t 55))))] []) A63_4)) A63_6)
def A63_2 : AC := (AC.seq (AC.cond (O.t 52) AC.skip (AC.exit 0)) A63_3)
def A63_1 : AC := (AC.seq (AC.reg [] [(I.mk (some 52) none false (X.v (A.bin BinOp.lss (O.t 51) (O.t 50))))] []) A63_2)
def A63_7 : AC := (AC.seq (AC.reg [] [(I.mk (some 6) none false (X.v (A.mov (O.k (V.bool true)))))] []) AC.ret)
def A63_8 : AC := (AC.cond (O.t 33) (AC.seq (AC.reg [] [(I.mk (some 6) none false (X.v (A.mov (O.k (V.bool false)))))] []) AC.ret) AC.skip)
def A63_10 : AC := (AC.cond (O.t 36) (AC.seq (AC.reg [] [(I.mk (some 37) none false (X.v (A.fld (O.t 7) 2 2))), (I.mk (some 38) none false (X.v (A.load Sh.p (O.t 37)))), (I.mk (some 39) none false (X.v (A.len (O.t 38)))), (I.mk (some 40) none false (X.v (A.bin BinOp.eql (O.t 39) (O.k (V.int IntKind.i64 (Int.ofNat 0)))))), (I.mk (some 6) none false (X.v (A.mov (O.t 40))))] []) AC.ret) AC.skip)
def A63_12 : AC := (AC.cond (O.t 47) (AC.seq (AC.reg [] [(I.mk (some 6) none false (X.v (A.mov (O.k (V.bool false)))))] []) AC.ret) AC.skip)
def A63_14 : AC := (AC.block 0 (AC.loop A63_1))
def A63_13 : AC := (AC.seq (AC.seq (AC.reg [] [(I.mk (some 48) none false (X.v (A.fld (O.t 7) 2 2))), (I.mk (some 49) none false (X.v (A.load Sh.p (O.t 48)))), (I.mk (some 50) none false (X.v (A.len (O.t 49)))), (I.mk (some 51) none false (X.v (A.mov (O.k (V.int IntKind.i64 (Int.ofNat 0))))))] []) A63_14) A63_7)
def A63_11 : AC := (AC.seq (AC.seq (AC.reg [] [(I.mk (some 41) none false (X.v (A.fld (O.t 7) 2 2))), (I.mk (some 42) none false (X.v (A.load Sh.p (O.t 41)))), (I.mk (some 43) none false (X.v (A.len (O.t 42)))), (I.mk (some 44) none false (X.v (A.fld (O.t 7) 0 0))), (I.mk (some 45) none false (X.v (A.load Sh.p (O.t 44)))), (I.mk (some 46) none false (X.v (A.len (O.t 45)))), (I.mk (some 47) none false (X.v (A.bin BinOp.neq (O.t 43) (O.t 46))))] []) A63_12) A63_13)
def A63_9 : AC := (AC.seq (AC.seq (AC.reg [] [(I.mk (some 34) none false (X.v (A.fld (O.t 7) 1 1))), (I.mk (some 35) none false (X.v (A.load Sh.s (O.t 34)))), (I.mk (some 36) none false (X.v (A.bin BinOp.eql (O.t 35) (O.k (V.int IntKind.i64 (Int.ofNat 1))))))] []) A63_10) A63_11)
def A63_16 : AC := (AC.seq (AC.seq (AC.reg [] [(I.mk (some 14) none false (X.v (A.load (Sh.ag [Sh.s, Sh.p]) (O.t 3)))), (I.mk (some 15) none false (X.v (A.fld (O.t 7) 0 0))), (I.mk (some 16) none false (X.v (A.load Sh.p (O.t 15)))), (I.mk (some 17) none false (X.call (O.k (V.fn 84 [] [])) [(O.t 14), (O.t 16)])), (I.mk (some 18) none false (X.v (A.un UnOp.not (O.t 17)))), (I.mk (some 19) none false (X.v (A.mov (O.t 18)))), (I.mk (some 20) (some (19, false)) false (X.v (A.load (Sh.ag [Sh.s, Sh.p]) (O.t 3)))), (I.mk (some 21) (some (19, false)) false (X.call (O.k (V.fn 67 [] [])) [(O.t 20)])), (I.mk (some 22) (some (19, false)) false (X.v (A.fld (O.t 7) 0 0))), (I.mk (some 23) (some (19, false)) false (X.v (A.load Sh.p (O.t 22)))), (I.mk (some 24) (some (19, false)) false (X.call (O.k (V.fn 93 [] [])) [(O.t 23)])), (I.mk (some 25) (some (19, false)) false (X.call (O.k (V.fn 92 [] [])) [(O.t 21), (O.t 24)])), (I.mk (some 26) (some (19, false)) false (X.v (A.len (O.t 25)))), (I.mk (some 27) (some (19, false)) false (X.v (A.bin BinOp.neq (O.t 26) (O.k (V.int IntKind.i64 (Int.ofNat 1)))))), (I.mk (some 28) none false (X.v (A.pick (O.t 19) (O.k (V.bool true)) (O.t 27)))), (I.mk (some 29) none false (X.v (A.mov (O.t 28)))), (I.mk (some 30) (some (29, false)) false (X.v (A.fld (O.t 7) 1 1))), (I.mk (some 31) (some (29, false)) false (X.v (A.load Sh.s (O.t 30)))), (I.mk (some 32) (some (29, false)) false (X.v (A.bin BinOp.lss (O.t 31) (O.k (V.int IntKind.i64 (Int.ofNat 1)))))), (I.mk (some 33) none false (X.v (A.pick (O.t 29) (O.k (V.bool true)) (O.t 32))))] []) A63_8) A63_9)
def A63_15 : AC := (AC.seq (AC.reg [.clr [7]] [(I.mk (some 10) none false (X.v (A.mov (O.t 1)))), (I.mk (some 11) none false (X.v (A.mov (O.t 2)))), (I.mk (some 12) none false (X.v (A.idx (O.t 10) (O.t 11) 3))), (I.mk (some 13) none false (X.v (A.load (Sh.ag [Sh.p, Sh.s, Sh.p]) (O.t 12)))), (I.mk (some 7) none false (X.alloc (V.agg [(V.sl Tok.nl Sh.s 0 []), (V.int IntKind.i64 (Int.ofNat 0)), (V.sl Tok.nl Sh.s 0 [])]))), (I.mk none none false (X.store (Sh.ag [Sh.p, Sh.s, Sh.p]) (O.t 7) (O.t 13)))] []) A63_16)
def A63 : AC := (AC.seq (AC.reg [.clr [3]] [(I.mk (some 3) none false (X.box (O.t 0))), (I.mk (some 6) none false (X.v (A.mov (O.k (V.bool false)))))] []) A63_15)
def an63 : List An := [{ id := 0, pre := [.clr [3]], ep := [], lin := [], sp := [] }, { id := 1, pre := [.clr [7]], ep := [], lin := [], sp := [] }]
theorem c63 : cC Try.prog Try.f63.ntmps an63 (Try.f63.body.getD .skip) = some A63 := by kernel_rfl
structure H63 (D : Den) (σ : Sig) (F : Nat) : Prop where
  c84 : ∀ (x0 : (Int × (List (Int × Int)))) (x1 : (List Int)) r, i_isSet F x0 x1 = some r → D 84 [Enc.enc x0, Enc.enc x1] = some (Enc.enc (r : Bool))
  g84 : σ 84 = some (0, false)
  c67 : ∀ (x0 : (Int × (List (Int × Int)))) r, i_netOf F x0 = some r → D 67 [Enc.enc x0] = some (Enc.enc (r : (S1 (List Int))))
  g67 : σ 67 = some (0, false)
  c93 : ∀ (x0 : (List Int)) r, i_maskOf F x0 = some r → D 93 [Enc.enc x0] = some (Enc.enc (r : Int))
  g93 : σ 93 = some (0, false)
  c92 : ∀ (x0 : (S1 (List Int))) (x1 : Int) r, i_net_parts F x0 x1 = some r → D 92 [Enc.enc x0, Enc.enc x1] = some (Enc.enc (r : (List Int)))
  g92 : σ 92 = some (0, false)
  c62 : ∀ (x0 : Int) (x1 : Int) (x2 : Int) r, i_within F x0 x1 x2 = some r → D 62 [Enc.enc x0, Enc.enc x1, Enc.enc x2] = some (Enc.enc (r : Bool))
  g62 : σ 62 = some (0, false)
abbrev R63 (r : Bool) : (Nat → V) → Prop := RR Try.prog [.tmp 6] 0 false (Enc.enc (r : Bool))
section
variable {D : Den} {σ : Sig} {F : Nat} {r : Bool}
def i_isDepthEntry_j1 (F : Nat) (proof_2 : (List (S3 (List Int) Int (List Int)))) (i_3 : Int) (g_1 : (Int × (List (Int × Int)))) (e_4 : (S3 (List Int) Int (List Int))) (t51_30 : Int) (c1 : Int → Option Bool) (t104_61 : Bool) : Option Bool :=
  bif t104_61 then
    some false
  else
    c1 (w64 (t51_30 + 1))
theorem t_f63_j1 (H : H63 D σ F) (proof_2 : (List (S3 (List Int) Int (List Int)))) (i_3 : Int) (g_1 : (Int × (List (Int × Int)))) (e_4 : (S3 (List Int) Int (List Int))) (t51_30 : Int) (c1 : Int → Option Bool) (Hc1 : ∀ (t51_30 : Int) (s : Nat → V), Facts [(1, (Enc.enc (proof_2 : List (S3 (List Int) Int (List Int))))), (2, (.int .i64 i_3)), (3, (.ref (.bx 3) 0 [] (.agg [(.int .i64 g_1.1), (Enc.enc (g_1.2 : List (Int × Int)))]))), (6, (.bool false)), (7, (.ref (.bx 7) 0 [] (.agg [(Enc.enc (e_4.a : List Int)), (.int .i64 e_4.b), (Enc.enc (e_4.c : List Int))]))), (49, (Enc.enc (e_4.c : List Int))), (50, (.int .i64 (e_4.c.length : Int))), (51, (.int .i64 t51_30))] s → c1 t51_30 = some r → Run D σ (R63 r) (.run A63_1 [.lp A63_1, .bk 0, .sq A63_7]) s) (t104_61 : Bool) (s : Nat → V) (hs : Facts [(1, (Enc.enc (proof_2 : List (S3 (List Int) Int (List Int))))), (2, (.int .i64 i_3)), (3, (.ref (.bx 3) 0 [] (.agg [(.int .i64 g_1.1), (Enc.enc (g_1.2 : List (Int × Int)))]))), (6, (.bool false)), (7, (.ref (.bx 7) 0 [] (.agg [(Enc.enc (e_4.a : List Int)), (.int .i64 e_4.b), (Enc.enc (e_4.c : List Int))]))), (49, (Enc.enc (e_4.c : List Int))), (50, (.int .i64 (e_4.c.length : Int))), (51, (.int .i64 t51_30)), (104, (.bool t104_61))] s) (h : i_isDepthEntry_j1 F proof_2 i_3 g_1 e_4 t51_30 c1 t104_61 = some r) : Run D σ (R63 r) (.nrm [.sq A63_5, .bk 1, .sq A63_6, .lp A63_1, .bk 0, .sq A63_7]) s := by
  unfold i_isDepthEntry_j1 at h
  obtain ⟨h1, h2, h3, h6, h7, h49, h50, h51, h104⟩ := hs
  refine .nsq ?_
  refine run_cond (t := t104_61) h104 h (fun h => ?_) (fun h => ?_)
  · refine .seq ?_
    refine run_reg ?_
    refine e_end ?_
    refine g_v0 (.bool false) rfl rfl ?_
    refine g_end ?_
    refine e_end ?_
    refine renew [(1, (Enc.enc (proof_2 : List (S3 (List Int) Int (List Int))))), (2, (.int .i64 i_3)), (3, (.ref (.bx 3) 0 [] (.agg [(.int .i64 g_1.1), (Enc.enc (g_1.2 : List (Int × Int)))]))), (6, (.bool false)), (7, (.ref (.bx 7) 0 [] (.agg [(Enc.enc (e_4.a : List Int)), (.int .i64 e_4.b), (Enc.enc (e_4.c : List Int))]))), (49, (Enc.enc (e_4.c : List Int))), (50, (.int .i64 (e_4.c.length : Int))), (51, (.int .i64 t51_30))] ⟨h1, h2, h3, rfl, h7, h49, h50, h51⟩ ?_
    rintro s ⟨h1, h2, h3, h6, h7, h49, h50, h51⟩
    refine .nsq ?_
    refine .ret ?_
    have hr := Option.some.inj h
    subst hr
    exact rrA (res_tmp h6) rfl
  · refine .skip ?_
    refine .nbk ?_
    refine .nsq ?_
    refine run_reg ?_
    refine e_end ?_
    refine g_v1 (t := 51) (u := (.int .i64 t51_30)) (.int .i64 (w64 (t51_30 + 1))) h51 rfl rfl ?_
    refine g_v1 (t := 105) (u := (.int .i64 (w64 (t51_30 + 1)))) (.int .i64 (w64 (t51_30 + 1))) rfl rfl rfl ?_
    refine g_end ?_
    refine e_end ?_
    refine renew [(1, (Enc.enc (proof_2 : List (S3 (List Int) Int (List Int))))), (2, (.int .i64 i_3)), (3, (.ref (.bx 3) 0 [] (.agg [(.int .i64 g_1.1), (Enc.enc (g_1.2 : List (Int × Int)))]))), (6, (.bool false)), (7, (.ref (.bx 7) 0 [] (.agg [(Enc.enc (e_4.a : List Int)), (.int .i64 e_4.b), (Enc.enc (e_4.c : List Int))]))), (49, (Enc.enc (e_4.c : List Int))), (50, (.int .i64 (e_4.c.length : Int))), (51, (.int .i64 (w64 (t51_30 + 1))))] ⟨h1, h2, h3, h6, h7, h49, h50, rfl⟩ ?_
    rintro s ⟨h1, h2, h3, h6, h7, h49, h50, h51⟩
    refine .nlp ?_
    exact Hc1 (w64 (t51_30 + 1)) _ ⟨h1, h2, h3, h6, h7, h49, h50, h51⟩ h
def i_isDepthEntry_l1 (F : Nat) (proof_2 : (List (S3 (List Int) Int (List Int)))) (i_3 : Int) (g_1 : (Int × (List (Int × Int)))) (e_4 : (S3 (List Int) Int (List Int)))  : Nat → Int → Option Bool
  | 0, _ => none
  | k + 1, t51_30 =>
    bif decide (t51_30 < (e_4.c.length : Int)) then
      (idx e_4.c t51_30).bind fun e_51 =>
      (i_within F e_51 (w64 (i_3 + 1)) (w64 ((proof_2.length : Int) - 1))).bind fun r_62 =>
      bif (!r_62) then
        i_isDepthEntry_j1 F proof_2 i_3 g_1 e_4 t51_30 (i_isDepthEntry_l1 F proof_2 i_3 g_1 e_4 k) true
      else
        (idx proof_2 e_51).bind fun e_63 =>
        bif (e_63.b != (w64 (e_4.b - 1))) then
          i_isDepthEntry_j1 F proof_2 i_3 g_1 e_4 t51_30 (i_isDepthEntry_l1 F proof_2 i_3 g_1 e_4 k) true
        else
          (idx proof_2 e_51).bind fun e_64 =>
          (i_isSet F g_1 e_64.a).bind fun r_65 =>
          bif (!r_65) then
            i_isDepthEntry_j1 F proof_2 i_3 g_1 e_4 t51_30 (i_isDepthEntry_l1 F proof_2 i_3 g_1 e_4 k) true
          else
            (idx proof_2 e_51).bind fun e_66 =>
            (i_maskOf F e_66.a).bind fun r_67 =>
            (i_maskOf F e_4.a).bind fun r_68 =>
            (idx e_4.a t51_30).bind fun e_69 =>
            (shlI .i64 1 e_69).bind fun q_70 =>
            i_isDepthEntry_j1 F proof_2 i_3 g_1 e_4 t51_30 (i_isDepthEntry_l1 F proof_2 i_3 g_1 e_4 k) ((iandNot .i64 r_67 (iandNot .i64 r_68 q_70)) != 0)
    else
      some true
theorem t_f63_l1 (H : H63 D σ F) (proof_2 : (List (S3 (List Int) Int (List Int)))) (i_3 : Int) (g_1 : (Int × (List (Int × Int)))) (e_4 : (S3 (List Int) Int (List Int)))  : ∀ (k : Nat) (t51_30 : Int) (s : Nat → V), Facts [(1, (Enc.enc (proof_2 : List (S3 (List Int) Int (List Int))))), (2, (.int .i64 i_3)), (3, (.ref (.bx 3) 0 [] (.agg [(.int .i64 g_1.1), (Enc.enc (g_1.2 : List (Int × Int)))]))), (6, (.bool false)), (7, (.ref (.bx 7) 0 [] (.agg [(Enc.enc (e_4.a : List Int)), (.int .i64 e_4.b), (Enc.enc (e_4.c : List Int))]))), (49, (Enc.enc (e_4.c : List Int))), (50, (.int .i64 (e_4.c.length : Int))), (51, (.int .i64 t51_30))] s → i_isDepthEntry_l1 F proof_2 i_3 g_1 e_4 k t51_30 = some r → Run D σ (R63 r) (.run A63_1 [.lp A63_1, .bk 0, .sq A63_7]) s := by
  intro k
  induction k with
  | zero => intro t51_30 s _ h; exact nomatch (h : (none : Option _) = some r)
  | succ k ih =>
    intro t51_30 s hs h
    rw [i_isDepthEntry_l1] at h
    obtain ⟨h1, h2, h3, h6, h7, h49, h50, h51⟩ := hs
    refine .seq ?_
    refine run_reg ?_
    refine e_end ?_
    refine g_v2 (t1 := 51) (t2 := 50) (u1 := (.int .i64 t51_30)) (u2 := (.int .i64 (e_4.c.length : Int))) (.bool (decide (t51_30 < (e_4.c.length : Int)))) h51 h50 rfl rfl ?_
    refine g_end ?_
    refine e_end ?_
    refine renew [(1, (Enc.enc (proof_2 : List (S3 (List Int) Int (List Int))))), (2, (.int .i64 i_3)), (3, (.ref (.bx 3) 0 [] (.agg [(.int .i64 g_1.1), (Enc.enc (g_1.2 : List (Int × Int)))]))), (6, (.bool false)), (7, (.ref (.bx 7) 0 [] (.agg [(Enc.enc (e_4.a : List Int)), (.int .i64 e_4.b), (Enc.enc (e_4.c : List Int))]))), (49, (Enc.enc (e_4.c : List Int))), (50, (.int .i64 (e_4.c.length : Int))), (51, (.int .i64 t51_30)), (52, (.bool (decide (t51_30 < (e_4.c.length : Int)))))] ⟨h1, h2, h3, h6, h7, h49, h50, h51, rfl⟩ ?_
    rintro s ⟨h1, h2, h3, h6, h7, h49, h50, h51, h52⟩
    refine .nsq ?_
    refine .seq ?_
    refine run_cond (t := decide (t51_30 < (e_4.c.length : Int))) h52 h (fun h => ?_) (fun h => ?_)
    · refine .skip ?_
      refine .nsq ?_
      refine .seq ?_
      refine .block ?_
      refine .seq ?_
      refine run_reg ?_
      refine e_end ?_
      refine g_v1 (t := 51) (u := (.int .i64 t51_30)) (.int .i64 t51_30) h51 rfl rfl ?_
      obtain ⟨e_51, E_e_51, h⟩ := bind_some h
      refine g_v (.ref .sh 0 [] (.int .i64 e_51)) (ev_idx (t := .sh) (lo := 0) (xs := e_4.c) h49 h51 E_e_51 rfl rfl) ?_
      refine g_v1 (t := 54) (u := (.ref .sh 0 [] (.int .i64 e_51))) (.int .i64 e_51) rfl rfl rfl ?_
      refine g_v1 (t := 53) (u := (.int .i64 t51_30)) (.int .i64 t51_30) rfl rfl rfl ?_
      refine g_v1 (t := 55) (u := (.int .i64 e_51)) (.int .i64 e_51) rfl rfl rfl ?_
      refine g_end ?_
      refine e_end ?_
      refine renew [(1, (Enc.enc (proof_2 : List (S3 (List Int) Int (List Int))))), (2, (.int .i64 i_3)), (3, (.ref (.bx 3) 0 [] (.agg [(.int .i64 g_1.1), (Enc.enc (g_1.2 : List (Int × Int)))]))), (6, (.bool false)), (7, (.ref (.bx 7) 0 [] (.agg [(Enc.enc (e_4.a : List Int)), (.int .i64 e_4.b), (Enc.enc (e_4.c : List Int))]))), (8, (.int .i64 t51_30)), (9, (.int .i64 e_51)), (49, (Enc.enc (e_4.c : List Int))), (50, (.int .i64 (e_4.c.length : Int))), (51, (.int .i64 t51_30))] ⟨h1, h2, h3, h6, h7, rfl, rfl, h49, h50, h51⟩ ?_
      rintro s ⟨h1, h2, h3, h6, h7, h8, h9, h49, h50, h51⟩
      refine .nsq ?_
      refine .seq ?_
      refine run_reg ?_
      refine e_end ?_
      refine g_v1 (t := 9) (u := (.int .i64 e_51)) (.int .i64 e_51) h9 rfl rfl ?_
      refine g_v1 (t := 2) (u := (.int .i64 i_3)) (.int .i64 i_3) h2 rfl rfl ?_
      refine g_v1 (t := 57) (u := (.int .i64 i_3)) (.int .i64 (w64 (i_3 + 1))) rfl rfl rfl ?_
      refine g_v1 (t := 1) (u := (Enc.enc (proof_2 : List (S3 (List Int) Int (List Int))))) (Enc.enc (proof_2 : List (S3 (List Int) Int (List Int)))) h1 rfl rfl ?_
      refine g_v (.int .i64 (proof_2.length : Int)) (ev_len (xs := proof_2) rfl) ?_
      refine g_v1 (t := 60) (u := (.int .i64 (proof_2.length : Int))) (.int .i64 (w64 ((proof_2.length : Int) - 1))) rfl rfl rfl ?_
      obtain ⟨r_62, E_r_62, h⟩ := bind_some h
      refine g_call (m := 0) (al := false) (r := (Enc.enc (r_62 : Bool))) [Enc.enc (e_51 : Int), Enc.enc (w64 (i_3 + 1) : Int), Enc.enc (w64 ((proof_2.length : Int) - 1) : Int)] (ta_cons (v := (.int .i64 e_51)) rfl rfl rfl (ta_cons (v := (.int .i64 (w64 (i_3 + 1)))) rfl rfl rfl (ta_cons (v := (.int .i64 (w64 ((proof_2.length : Int) - 1)))) rfl rfl rfl ta_nil))) (H.c62 _ _ _ _ E_r_62) H.g62 rfl rfl rfl rfl ?_
      refine g_v1 (t := 62) (u := (.bool r_62)) (.bool (!r_62)) rfl rfl rfl ?_
      refine g_v1 (t := 63) (u := (.bool (!r_62))) (.bool (!r_62)) rfl rfl rfl ?_
      refine split_on (c := (!r_62)) h (fun hg9 h => ?_) (fun hg9 h => ?_)
      · refine g_no (Eq.trans (b := .bool (!r_62)) rfl (congrArg V.bool hg9)) ?_
        refine g_no (Eq.trans (b := .bool (!r_62)) rfl (congrArg V.bool hg9)) ?_
        refine g_no (Eq.trans (b := .bool (!r_62)) rfl (congrArg V.bool hg9)) ?_
        refine g_no (Eq.trans (b := .bool (!r_62)) rfl (congrArg V.bool hg9)) ?_
        refine g_no (Eq.trans (b := .bool (!r_62)) rfl (congrArg V.bool hg9)) ?_
        refine g_no (Eq.trans (b := .bool (!r_62)) rfl (congrArg V.bool hg9)) ?_
        refine g_no (Eq.trans (b := .bool (!r_62)) rfl (congrArg V.bool hg9)) ?_
        refine g_no (Eq.trans (b := .bool (!r_62)) rfl (congrArg V.bool hg9)) ?_
        refine g_no (Eq.trans (b := .bool (!r_62)) rfl (congrArg V.bool hg9)) ?_
        refine g_v2 (t1 := 64) (t2 := 73) (u1 := (.bool true)) (u2 := (.tup [])) (.bool true) (Eq.trans (b := .bool (!r_62)) rfl (congrArg V.bool hg9)) rfl rfl rfl ?_
        refine g_v1 (t := 74) (u := (.bool true)) (.bool true) rfl rfl rfl ?_
        refine g_no rfl ?_
        refine g_no rfl ?_
        refine g_no rfl ?_
        refine g_no rfl ?_
        refine g_no rfl ?_
        refine g_no rfl ?_
        refine g_no rfl ?_
        refine g_no rfl ?_
        refine g_v2 (t1 := 75) (t2 := 83) (u1 := (.bool true)) (u2 := (.tup [])) (.bool true) rfl rfl rfl rfl ?_
        refine g_v1 (t := 84) (u := (.bool true)) (.bool true) rfl rfl rfl ?_
        refine g_no rfl ?_
        refine g_no rfl ?_
        refine g_no rfl ?_
        refine g_no rfl ?_
        refine g_no rfl ?_
        refine g_no rfl ?_
        refine g_no rfl ?_
        refine g_no rfl ?_
        refine g_no rfl ?_
        refine g_no rfl ?_
        refine g_no rfl ?_
        refine g_no rfl ?_
        refine g_no rfl ?_
        refine g_no rfl ?_
        refine g_no rfl ?_
        refine g_no rfl ?_
        refine g_no rfl ?_
        refine g_no rfl ?_
        refine g_v2 (t1 := 85) (t2 := 103) (u1 := (.bool true)) (u2 := (.tup [])) (.bool true) rfl rfl rfl rfl ?_
        refine g_end ?_
        refine e_end ?_
        refine renew [(1, (Enc.enc (proof_2 : List (S3 (List Int) Int (List Int))))), (2, (.int .i64 i_3)), (3, (.ref (.bx 3) 0 [] (.agg [(.int .i64 g_1.1), (Enc.enc (g_1.2 : List (Int × Int)))]))), (6, (.bool false)), (7, (.ref (.bx 7) 0 [] (.agg [(Enc.enc (e_4.a : List Int)), (.int .i64 e_4.b), (Enc.enc (e_4.c : List Int))]))), (49, (Enc.enc (e_4.c : List Int))), (50, (.int .i64 (e_4.c.length : Int))), (51, (.int .i64 t51_30)), (104, (.bool true))] ⟨h1, h2, h3, h6, h7, h49, h50, h51, rfl⟩ ?_
        rintro s ⟨h1, h2, h3, h6, h7, h49, h50, h51, h104⟩
        exact t_f63_j1 H proof_2 i_3 g_1 e_4 t51_30 (i_isDepthEntry_l1 F proof_2 i_3 g_1 e_4 k) ih true _ ⟨h1, h2, h3, h6, h7, h49, h50, h51, h104⟩ h
      · refine g_yes (Eq.trans (b := .bool (!r_62)) rfl (congrArg V.bool hg9)) (g_v1 (t := 1) (u := (Enc.enc (proof_2 : List (S3 (List Int) Int (List Int))))) (Enc.enc (proof_2 : List (S3 (List Int) Int (List Int)))) h1 rfl rfl ?_)
        refine g_yes (Eq.trans (b := .bool (!r_62)) rfl (congrArg V.bool hg9)) (g_v1 (t := 9) (u := (.int .i64 e_51)) (.int .i64 e_51) h9 rfl rfl ?_)
        obtain ⟨e_63, E_e_63, h⟩ := bind_some h
        refine g_yes (Eq.trans (b := .bool (!r_62)) rfl (congrArg V.bool hg9)) (g_v (.ref .sh 0 [] (.agg [(Enc.enc (e_63.a : List Int)), (.int .i64 e_63.b), (Enc.enc (e_63.c : List Int))])) (ev_idx (t := .sh) (lo := 0) (xs := proof_2) rfl rfl E_e_63 rfl rfl) ?_)
        refine g_yes (Eq.trans (b := .bool (!r_62)) rfl (congrArg V.bool hg9)) (g_v1 (t := 67) (u := (.ref .sh 0 [] (.agg [(Enc.enc (e_63.a : List Int)), (.int .i64 e_63.b), (Enc.enc (e_63.c : List Int))]))) (.ref .sh 0 [1] (.int .i64 e_63.b)) rfl rfl rfl ?_)
        refine g_yes (Eq.trans (b := .bool (!r_62)) rfl (congrArg V.bool hg9)) (g_v1 (t := 68) (u := (.ref .sh 0 [1] (.int .i64 e_63.b))) (.int .i64 e_63.b) rfl rfl rfl ?_)
        refine g_yes (Eq.trans (b := .bool (!r_62)) rfl (congrArg V.bool hg9)) (g_v1 (t := 7) (u := (.ref (.bx 7) 0 [] (.agg [(Enc.enc (e_4.a : List Int)), (.int .i64 e_4.b), (Enc.enc (e_4.c : List Int))]))) (.ref (.bx 7) 0 [1] (.int .i64 e_4.b)) h7 rfl rfl ?_)
        refine g_yes (Eq.trans (b := .bool (!r_62)) rfl (congrArg V.bool hg9)) (g_v1 (t := 70) (u := (.ref (.bx 7) 0 [1] (.int .i64 e_4.b))) (.int .i64 e_4.b) rfl rfl rfl ?_)
        refine g_yes (Eq.trans (b := .bool (!r_62)) rfl (congrArg V.bool hg9)) (g_v1 (t := 71) (u := (.int .i64 e_4.b)) (.int .i64 (w64 (e_4.b - 1))) rfl rfl rfl ?_)
        refine g_yes (Eq.trans (b := .bool (!r_62)) rfl (congrArg V.bool hg9)) (g_v2 (t1 := 69) (t2 := 72) (u1 := (.int .i64 e_63.b)) (u2 := (.int .i64 (w64 (e_4.b - 1)))) (.bool (e_63.b != (w64 (e_4.b - 1)))) rfl rfl rfl rfl ?_)
        refine g_v2 (t1 := 64) (t2 := 73) (u1 := (.bool false)) (u2 := (.bool (e_63.b != (w64 (e_4.b - 1))))) (.bool (e_63.b != (w64 (e_4.b - 1)))) (Eq.trans (b := .bool (!r_62)) rfl (congrArg V.bool hg9)) rfl rfl rfl ?_
        refine g_v1 (t := 74) (u := (.bool (e_63.b != (w64 (e_4.b - 1))))) (.bool (e_63.b != (w64 (e_4.b - 1)))) rfl rfl rfl ?_
        refine split_on (c := (e_63.b != (w64 (e_4.b - 1)))) h (fun hg20 h => ?_) (fun hg20 h => ?_)
        · refine g_no (Eq.trans (b := .bool (e_63.b != (w64 (e_4.b - 1)))) rfl (congrArg V.bool hg20)) ?_
          refine g_no (Eq.trans (b := .bool (e_63.b != (w64 (e_4.b - 1)))) rfl (congrArg V.bool hg20)) ?_
          refine g_no (Eq.trans (b := .bool (e_63.b != (w64 (e_4.b - 1)))) rfl (congrArg V.bool hg20)) ?_
          refine g_no (Eq.trans (b := .bool (e_63.b != (w64 (e_4.b - 1)))) rfl (congrArg V.bool hg20)) ?_
          refine g_no (Eq.trans (b := .bool (e_63.b != (w64 (e_4.b - 1)))) rfl (congrArg V.bool hg20)) ?_
          refine g_no (Eq.trans (b := .bool (e_63.b != (w64 (e_4.b - 1)))) rfl (congrArg V.bool hg20)) ?_
          refine g_no (Eq.trans (b := .bool (e_63.b != (w64 (e_4.b - 1)))) rfl (congrArg V.bool hg20)) ?_
          refine g_no (Eq.trans (b := .bool (e_63.b != (w64 (e_4.b - 1)))) rfl (congrArg V.bool hg20)) ?_
          refine g_v2 (t1 := 75) (t2 := 83) (u1 := (.bool true)) (u2 := (.tup [])) (.bool true) (Eq.trans (b := .bool (e_63.b != (w64 (e_4.b - 1)))) rfl (congrArg V.bool hg20)) rfl rfl rfl ?_
          refine g_v1 (t := 84) (u := (.bool true)) (.bool true) rfl rfl rfl ?_
          refine g_no rfl ?_
          refine g_no rfl ?_
          refine g_no rfl ?_
          refine g_no rfl ?_
          refine g_no rfl ?_
          refine g_no rfl ?_
          refine g_no rfl ?_
          refine g_no rfl ?_
          refine g_no rfl ?_
          refine g_no rfl ?_
          refine g_no rfl ?_
          refine g_no rfl ?_
          refine g_no rfl ?_
          refine g_no rfl ?_
          refine g_no rfl ?_
          refine g_no rfl ?_
          refine g_no rfl ?_
          refine g_no rfl ?_
          refine g_v2 (t1 := 85) (t2 := 103) (u1 := (.bool true)) (u2 := (.tup [])) (.bool true) rfl rfl rfl rfl ?_
          refine g_end ?_
          refine e_end ?_
          refine renew [(1, (Enc.enc (proof_2 : List (S3 (List Int) Int (List Int))))), (2, (.int .i64 i_3)), (3, (.ref (.bx 3) 0 [] (.agg [(.int .i64 g_1.1), (Enc.enc (g_1.2 : List (Int × Int)))]))), (6, (.bool false)), (7, (.ref (.bx 7) 0 [] (.agg [(Enc.enc (e_4.a : List Int)), (.int .i64 e_4.b), (Enc.enc (e_4.c : List Int))]))), (49, (Enc.enc (e_4.c : List Int))), (50, (.int .i64 (e_4.c.length : Int))), (51, (.int .i64 t51_30)), (104, (.bool true))] ⟨h1, h2, h3, h6, h7, h49, h50, h51, rfl⟩ ?_
          rintro s ⟨h1, h2, h3, h6, h7, h49, h50, h51, h104⟩
          exact t_f63_j1 H proof_2 i_3 g_1 e_4 t51_30 (i_isDepthEntry_l1 F proof_2 i_3 g_1 e_4 k) ih true _ ⟨h1, h2, h3, h6, h7, h49, h50, h51, h104⟩ h
        · refine g_yes (Eq.trans (b := .bool (e_63.b != (w64 (e_4.b - 1)))) rfl (congrArg V.bool hg20)) (g_v1 (t := 3) (u := (.ref (.bx 3) 0 [] (.agg [(.int .i64 g_1.1), (Enc.enc (g_1.2 : List (Int × Int)))]))) (.agg [(.int .i64 g_1.1), (Enc.enc (g_1.2 : List (Int × Int)))]) h3 rfl rfl ?_)
          refine g_yes (Eq.trans (b := .bool (e_63.b != (w64 (e_4.b - 1)))) rfl (congrArg V.bool hg20)) (g_v1 (t := 1) (u := (Enc.enc (proof_2 : List (S3 (List Int) Int (List Int))))) (Enc.enc (proof_2 : List (S3 (List Int) Int (List Int)))) h1 rfl rfl ?_)
          refine g_yes (Eq.trans (b := .bool (e_63.b != (w64 (e_4.b - 1)))) rfl (congrArg V.bool hg20)) (g_v1 (t := 9) (u := (.int .i64 e_51)) (.int .i64 e_51) h9 rfl rfl ?_)
          obtain ⟨e_64, E_e_64, h⟩ := bind_some h
          refine g_yes (Eq.trans (b := .bool (e_63.b != (w64 (e_4.b - 1)))) rfl (congrArg V.bool hg20)) (g_v (.ref .sh 0 [] (.agg [(Enc.enc (e_64.a : List Int)), (.int .i64 e_64.b), (Enc.enc (e_64.c : List Int))])) (ev_idx (t := .sh) (lo := 0) (xs := proof_2) rfl rfl E_e_64 rfl rfl) ?_)
          refine g_yes (Eq.trans (b := .bool (e_63.b != (w64 (e_4.b - 1)))) rfl (congrArg V.bool hg20)) (g_v1 (t := 79) (u := (.ref .sh 0 [] (.agg [(Enc.enc (e_64.a : List Int)), (.int .i64 e_64.b), (Enc.enc (e_64.c : List Int))]))) (.ref .sh 0 [0] (Enc.enc (e_64.a : List Int))) rfl rfl rfl ?_)
          refine g_yes (Eq.trans (b := .bool (e_63.b != (w64 (e_4.b - 1)))) rfl (congrArg V.bool hg20)) (g_v1 (t := 80) (u := (.ref .sh 0 [0] (Enc.enc (e_64.a : List Int)))) (Enc.enc (e_64.a : List Int)) rfl rfl rfl ?_)
          obtain ⟨r_65, E_r_65, h⟩ := bind_some h
          refine g_yes (Eq.trans (b := .bool (e_63.b != (w64 (e_4.b - 1)))) rfl (congrArg V.bool hg20)) (g_call (m := 0) (al := false) (r := (Enc.enc (r_65 : Bool))) [Enc.enc (g_1 : (Int × (List (Int × Int)))), Enc.enc (e_64.a : (List Int))] (ta_cons (v := (.agg [(.int .i64 g_1.1), (Enc.enc (g_1.2 : List (Int × Int)))])) rfl rfl (Enc.erase_enc (g_1 : (Int × (List (Int × Int))))) (ta_cons (v := (Enc.enc (e_64.a : List Int))) rfl rfl (Enc.erase_enc (e_64.a : (List Int))) ta_nil)) (H.c84 _ _ _ E_r_65) H.g84 rfl rfl rfl rfl ?_)
          refine g_yes (Eq.trans (b := .bool (e_63.b != (w64 (e_4.b - 1)))) rfl (congrArg V.bool hg20)) (g_v1 (t := 82) (u := (.bool r_65)) (.bool (!r_65)) rfl rfl rfl ?_)
          refine g_v2 (t1 := 75) (t2 := 83) (u1 := (.bool false)) (u2 := (.bool (!r_65))) (.bool (!r_65)) (Eq.trans (b := .bool (e_63.b != (w64 (e_4.b - 1)))) rfl (congrArg V.bool hg20)) rfl rfl rfl ?_
          refine g_v1 (t := 84) (u := (.bool (!r_65))) (.bool (!r_65)) rfl rfl rfl ?_
          refine split_on (c := (!r_65)) h (fun hg30 h => ?_) (fun hg30 h => ?_)
          · refine g_no (Eq.trans (b := .bool (!r_65)) rfl (congrArg V.bool hg30)) ?_
            refine g_no (Eq.trans (b := .bool (!r_65)) rfl (congrArg V.bool hg30)) ?_
            refine g_no (Eq.trans (b := .bool (!r_65)) rfl (congrArg V.bool hg30)) ?_
            refine g_no (Eq.trans (b := .bool (!r_65)) rfl (congrArg V.bool hg30)) ?_
            refine g_no (Eq.trans (b := .bool (!r_65)) rfl (congrArg V.bool hg30)) ?_
            refine g_no (Eq.trans (b := .bool (!r_65)) rfl (congrArg V.bool hg30)) ?_
            refine g_no (Eq.trans (b := .bool (!r_65)) rfl (congrArg V.bool hg30)) ?_
            refine g_no (Eq.trans (b := .bool (!r_65)) rfl (congrArg V.bool hg30)) ?_
            refine g_no (Eq.trans (b := .bool (!r_65)) rfl (congrArg V.bool hg30)) ?_
            refine g_no (Eq.trans (b := .bool (!r_65)) rfl (congrArg V.bool hg30)) ?_
            refine g_no (Eq.trans (b := .bool (!r_65)) rfl (congrArg V.bool hg30)) ?_
            refine g_no (Eq.trans (b := .bool (!r_65)) rfl (congrArg V.bool hg30)) ?_
            refine g_no (Eq.trans (b := .bool (!r_65)) rfl (congrArg V.bool hg30)) ?_
            refine g_no (Eq.trans (b := .bool (!r_65)) rfl (congrArg V.bool hg30)) ?_
            refine g_no (Eq.trans (b := .bool (!r_65)) rfl (congrArg V.bool hg30)) ?_
            refine g_no (Eq.trans (b := .bool (!r_65)) rfl (congrArg V.bool hg30)) ?_
            refine g_no (Eq.trans (b := .bool (!r_65)) rfl (congrArg V.bool hg30)) ?_
            refine g_no (Eq.trans (b := .bool (!r_65)) rfl (congrArg V.bool hg30)) ?_
            refine g_v2 (t1 := 85) (t2 := 103) (u1 := (.bool true)) (u2 := (.tup [])) (.bool true) (Eq.trans (b := .bool (!r_65)) rfl (congrArg V.bool hg30)) rfl rfl rfl ?_
            refine g_end ?_
            refine e_end ?_
            refine renew [(1, (Enc.enc (proof_2 : List (S3 (List Int) Int (List Int))))), (2, (.int .i64 i_3)), (3, (.ref (.bx 3) 0 [] (.agg [(.int .i64 g_1.1), (Enc.enc (g_1.2 : List (Int × Int)))]))), (6, (.bool false)), (7, (.ref (.bx 7) 0 [] (.agg [(Enc.enc (e_4.a : List Int)), (.int .i64 e_4.b), (Enc.enc (e_4.c : List Int))]))), (49, (Enc.enc (e_4.c : List Int))), (50, (.int .i64 (e_4.c.length : Int))), (51, (.int .i64 t51_30)), (104, (.bool true))] ⟨h1, h2, h3, h6, h7, h49, h50, h51, rfl⟩ ?_
            rintro s ⟨h1, h2, h3, h6, h7, h49, h50, h51, h104⟩
            exact t_f63_j1 H proof_2 i_3 g_1 e_4 t51_30 (i_isDepthEntry_l1 F proof_2 i_3 g_1 e_4 k) ih true _ ⟨h1, h2, h3, h6, h7, h49, h50, h51, h104⟩ h
          · refine g_yes (Eq.trans (b := .bool (!r_65)) rfl (congrArg V.bool hg30)) (g_v1 (t := 1) (u := (Enc.enc (proof_2 : List (S3 (List Int) Int (List Int))))) (Enc.enc (proof_2 : List (S3 (List Int) Int (List Int)))) h1 rfl rfl ?_)
            refine g_yes (Eq.trans (b := .bool (!r_65)) rfl (congrArg V.bool hg30)) (g_v1 (t := 9) (u := (.int .i64 e_51)) (.int .i64 e_51) h9 rfl rfl ?_)
            obtain ⟨e_66, E_e_66, h⟩ := bind_some h
            refine g_yes (Eq.trans (b := .bool (!r_65)) rfl (congrArg V.bool hg30)) (g_v (.ref .sh 0 [] (.agg [(Enc.enc (e_66.a : List Int)), (.int .i64 e_66.b), (Enc.enc (e_66.c : List Int))])) (ev_idx (t := .sh) (lo := 0) (xs := proof_2) rfl rfl E_e_66 rfl rfl) ?_)
            refine g_yes (Eq.trans (b := .bool (!r_65)) rfl (congrArg V.bool hg30)) (g_v1 (t := 88) (u := (.ref .sh 0 [] (.agg [(Enc.enc (e_66.a : List Int)), (.int .i64 e_66.b), (Enc.enc (e_66.c : List Int))]))) (.ref .sh 0 [0] (Enc.enc (e_66.a : List Int))) rfl rfl rfl ?_)
            refine g_yes (Eq.trans (b := .bool (!r_65)) rfl (congrArg V.bool hg30)) (g_v1 (t := 89) (u := (.ref .sh 0 [0] (Enc.enc (e_66.a : List Int)))) (Enc.enc (e_66.a : List Int)) rfl rfl rfl ?_)
            obtain ⟨r_67, E_r_67, h⟩ := bind_some h
            refine g_yes (Eq.trans (b := .bool (!r_65)) rfl (congrArg V.bool hg30)) (g_call (m := 0) (al := false) (r := (Enc.enc (r_67 : Int))) [Enc.enc (e_66.a : (List Int))] (ta_cons (v := (Enc.enc (e_66.a : List Int))) rfl rfl (Enc.erase_enc (e_66.a : (List Int))) ta_nil) (H.c93 _ _ E_r_67) H.g93 rfl rfl rfl rfl ?_)
            refine g_yes (Eq.trans (b := .bool (!r_65)) rfl (congrArg V.bool hg30)) (g_v1 (t := 7) (u := (.ref (.bx 7) 0 [] (.agg [(Enc.enc (e_4.a : List Int)), (.int .i64 e_4.b), (Enc.enc (e_4.c : List Int))]))) (.ref (.bx 7) 0 [0] (Enc.enc (e_4.a : List Int))) h7 rfl rfl ?_)
            refine g_yes (Eq.trans (b := .bool (!r_65)) rfl (congrArg V.bool hg30)) (g_v1 (t := 92) (u := (.ref (.bx 7) 0 [0] (Enc.enc (e_4.a : List Int)))) (Enc.enc (e_4.a : List Int)) rfl rfl rfl ?_)
            obtain ⟨r_68, E_r_68, h⟩ := bind_some h
            refine g_yes (Eq.trans (b := .bool (!r_65)) rfl (congrArg V.bool hg30)) (g_call (m := 0) (al := false) (r := (Enc.enc (r_68 : Int))) [Enc.enc (e_4.a : (List Int))] (ta_cons (v := (Enc.enc (e_4.a : List Int))) rfl rfl (Enc.erase_enc (e_4.a : (List Int))) ta_nil) (H.c93 _ _ E_r_68) H.g93 rfl rfl rfl rfl ?_)
            refine g_yes (Eq.trans (b := .bool (!r_65)) rfl (congrArg V.bool hg30)) (g_v1 (t := 7) (u := (.ref (.bx 7) 0 [] (.agg [(Enc.enc (e_4.a : List Int)), (.int .i64 e_4.b), (Enc.enc (e_4.c : List Int))]))) (.ref (.bx 7) 0 [0] (Enc.enc (e_4.a : List Int))) h7 rfl rfl ?_)
            refine g_yes (Eq.trans (b := .bool (!r_65)) rfl (congrArg V.bool hg30)) (g_v1 (t := 95) (u := (.ref (.bx 7) 0 [0] (Enc.enc (e_4.a : List Int)))) (Enc.enc (e_4.a : List Int)) rfl rfl rfl ?_)
            refine g_yes (Eq.trans (b := .bool (!r_65)) rfl (congrArg V.bool hg30)) (g_v1 (t := 8) (u := (.int .i64 t51_30)) (.int .i64 t51_30) h8 rfl rfl ?_)
            obtain ⟨e_69, E_e_69, h⟩ := bind_some h
            refine g_yes (Eq.trans (b := .bool (!r_65)) rfl (congrArg V.bool hg30)) (g_v (.ref .sh 0 [] (.int .i64 e_69)) (ev_idx (t := .sh) (lo := 0) (xs := e_4.a) rfl rfl E_e_69 rfl rfl) ?_)
            refine g_yes (Eq.trans (b := .bool (!r_65)) rfl (congrArg V.bool hg30)) (g_v1 (t := 98) (u := (.ref .sh 0 [] (.int .i64 e_69))) (.int .i64 e_69) rfl rfl rfl ?_)
            obtain ⟨q_70, E_q_70, h⟩ := bind_some h
            refine g_yes (Eq.trans (b := .bool (!r_65)) rfl (congrArg V.bool hg30)) (g_v (.int .i64 q_70) (ev_shl rfl rfl E_q_70) ?_)
            refine g_yes (Eq.trans (b := .bool (!r_65)) rfl (congrArg V.bool hg30)) (g_v2 (t1 := 94) (t2 := 100) (u1 := (.int .i64 r_68)) (u2 := (.int .i64 q_70)) (.int .i64 (iandNot .i64 r_68 q_70)) rfl rfl rfl rfl ?_)
            refine g_yes (Eq.trans (b := .bool (!r_65)) rfl (congrArg V.bool hg30)) (g_v2 (t1 := 91) (t2 := 101) (u1 := (.int .i64 r_67)) (u2 := (.int .i64 (iandNot .i64 r_68 q_70))) (.int .i64 (iandNot .i64 r_67 (iandNot .i64 r_68 q_70))) rfl rfl rfl rfl ?_)
            refine g_yes (Eq.trans (b := .bool (!r_65)) rfl (congrArg V.bool hg30)) (g_v1 (t := 102) (u := (.int .i64 (iandNot .i64 r_67 (iandNot .i64 r_68 q_70)))) (.bool ((iandNot .i64 r_67 (iandNot .i64 r_68 q_70)) != 0)) rfl rfl rfl ?_)
            refine g_v2 (t1 := 85) (t2 := 103) (u1 := (.bool false)) (u2 := (.bool ((iandNot .i64 r_67 (iandNot .i64 r_68 q_70)) != 0))) (.bool ((iandNot .i64 r_67 (iandNot .i64 r_68 q_70)) != 0)) (Eq.trans (b := .bool (!r_65)) rfl (congrArg V.bool hg30)) rfl rfl rfl ?_
            refine g_end ?_
            refine e_end ?_
            refine renew [(1, (Enc.enc (proof_2 : List (S3 (List Int) Int (List Int))))), (2, (.int .i64 i_3)), (3, (.ref (.bx 3) 0 [] (.agg [(.int .i64 g_1.1), (Enc.enc (g_1.2 : List (Int × Int)))]))), (6, (.bool false)), (7, (.ref (.bx 7) 0 [] (.agg [(Enc.enc (e_4.a : List Int)), (.int .i64 e_4.b), (Enc.enc (e_4.c : List Int))]))), (49, (Enc.enc (e_4.c : List Int))), (50, (.int .i64 (e_4.c.length : Int))), (51, (.int .i64 t51_30)), (104, (.bool ((iandNot .i64 r_67 (iandNot .i64 r_68 q_70)) != 0)))] ⟨h1, h2, h3, h6, h7, h49, h50, h51, rfl⟩ ?_
            rintro s ⟨h1, h2, h3, h6, h7, h49, h50, h51, h104⟩
            exact t_f63_j1 H proof_2 i_3 g_1 e_4 t51_30 (i_isDepthEntry_l1 F proof_2 i_3 g_1 e_4 k) ih ((iandNot .i64 r_67 (iandNot .i64 r_68 q_70)) != 0) _ ⟨h1, h2, h3, h6, h7, h49, h50, h51, h104⟩ h
    · refine .exit ?_
      refine .esq ?_
      refine .elp ?_
      refine .ebk ?_
      refine .nsq ?_
      refine .seq ?_
      refine run_reg ?_
      refine e_end ?_
      refine g_v0 (.bool true) rfl rfl ?_
      refine g_end ?_
      refine e_end ?_
      refine renew [(6, (.bool true))] rfl ?_
      rintro s h6
      refine .nsq ?_
      refine .ret ?_
      have hr := Option.some.inj h
      subst hr
      exact rrA (res_tmp h6) rfl
def i_isDepthEntry_j2 (F : Nat) (proof_2 : (List (S3 (List Int) Int (List Int)))) (i_3 : Int) (g_1 : (Int × (List (Int × Int)))) (e_4 : (S3 (List Int) Int (List Int)))  (t33_9 : Bool) : Option Bool :=
  bif t33_9 then
    some false
  else
    bif (e_4.b == 1) then
      some ((e_4.c.length : Int) == 0)
    else
      bif ((e_4.c.length : Int) != (e_4.a.length : Int)) then
        some false
      else
        i_isDepthEntry_l1 F proof_2 i_3 g_1 e_4 F 0
theorem t_f63_j2 (H : H63 D σ F) (proof_2 : (List (S3 (List Int) Int (List Int)))) (i_3 : Int) (g_1 : (Int × (List (Int × Int)))) (e_4 : (S3 (List Int) Int (List Int)))  (t33_9 : Bool) (s : Nat → V) (hs : Facts [(1, (Enc.enc (proof_2 : List (S3 (List Int) Int (List Int))))), (2, (.int .i64 i_3)), (3, (.ref (.bx 3) 0 [] (.agg [(.int .i64 g_1.1), (Enc.enc (g_1.2 : List (Int × Int)))]))), (6, (.bool false)), (7, (.ref (.bx 7) 0 [] (.agg [(Enc.enc (e_4.a : List Int)), (.int .i64 e_4.b), (Enc.enc (e_4.c : List Int))]))), (33, (.bool t33_9))] s) (h : i_isDepthEntry_j2 F proof_2 i_3 g_1 e_4  t33_9 = some r) : Run D σ (R63 r) (.nrm [.sq A63_8, .sq A63_9]) s := by
  unfold i_isDepthEntry_j2 at h
  obtain ⟨h1, h2, h3, h6, h7, h33⟩ := hs
  refine .nsq ?_
  refine run_cond (t := t33_9) h33 h (fun h => ?_) (fun h => ?_)
  · refine .seq ?_
    refine run_reg ?_
    refine e_end ?_
    refine g_v0 (.bool false) rfl rfl ?_
    refine g_end ?_
    refine e_end ?_
    refine renew [(1, (Enc.enc (proof_2 : List (S3 (List Int) Int (List Int))))), (2, (.int .i64 i_3)), (3, (.ref (.bx 3) 0 [] (.agg [(.int .i64 g_1.1), (Enc.enc (g_1.2 : List (Int × Int)))]))), (6, (.bool false)), (7, (.ref (.bx 7) 0 [] (.agg [(Enc.enc (e_4.a : List Int)), (.int .i64 e_4.b), (Enc.enc (e_4.c : List Int))])))] ⟨h1, h2, h3, rfl, h7⟩ ?_
    rintro s ⟨h1, h2, h3, h6, h7⟩
    refine .nsq ?_
    refine .ret ?_
    have hr := Option.some.inj h
    subst hr
    exact rrA (res_tmp h6) rfl
  · refine .skip ?_
    refine .nsq ?_
    refine .seq ?_
    refine .seq ?_
    refine run_reg ?_
    refine e_end ?_
    refine g_v1 (t := 7) (u := (.ref (.bx 7) 0 [] (.agg [(Enc.enc (e_4.a : List Int)), (.int .i64 e_4.b), (Enc.enc (e_4.c : List Int))]))) (.ref (.bx 7) 0 [1] (.int .i64 e_4.b)) h7 rfl rfl ?_
    refine g_v1 (t := 34) (u := (.ref (.bx 7) 0 [1] (.int .i64 e_4.b))) (.int .i64 e_4.b) rfl rfl rfl ?_
    refine g_v1 (t := 35) (u := (.int .i64 e_4.b)) (.bool (e_4.b == 1)) rfl rfl rfl ?_
    refine g_end ?_
    refine e_end ?_
    refine renew [(1, (Enc.enc (proof_2 : List (S3 (List Int) Int (List Int))))), (2, (.int .i64 i_3)), (3, (.ref (.bx 3) 0 [] (.agg [(.int .i64 g_1.1), (Enc.enc (g_1.2 : List (Int × Int)))]))), (6, (.bool false)), (7, (.ref (.bx 7) 0 [] (.agg [(Enc.enc (e_4.a : List Int)), (.int .i64 e_4.b), (Enc.enc (e_4.c : List Int))]))), (36, (.bool (e_4.b == 1)))] ⟨h1, h2, h3, h6, h7, rfl⟩ ?_
    rintro s ⟨h1, h2, h3, h6, h7, h36⟩
    refine .nsq ?_
    refine run_cond (t := (e_4.b == 1)) h36 h (fun h => ?_) (fun h => ?_)
    · refine .seq ?_
      refine run_reg ?_
      refine e_end ?_
      refine g_v1 (t := 7) (u := (.ref (.bx 7) 0 [] (.agg [(Enc.enc (e_4.a : List Int)), (.int .i64 e_4.b), (Enc.enc (e_4.c : List Int))]))) (.ref (.bx 7) 0 [2] (Enc.enc (e_4.c : List Int))) h7 rfl rfl ?_
      refine g_v1 (t := 37) (u := (.ref (.bx 7) 0 [2] (Enc.enc (e_4.c : List Int)))) (Enc.enc (e_4.c : List Int)) rfl rfl rfl ?_
      refine g_v (.int .i64 (e_4.c.length : Int)) (ev_len (xs := e_4.c) rfl) ?_
      refine g_v1 (t := 39) (u := (.int .i64 (e_4.c.length : Int))) (.bool ((e_4.c.length : Int) == 0)) rfl rfl rfl ?_
      refine g_v1 (t := 40) (u := (.bool ((e_4.c.length : Int) == 0))) (.bool ((e_4.c.length : Int) == 0)) rfl rfl rfl ?_
      refine g_end ?_
      refine e_end ?_
      refine renew [(1, (Enc.enc (proof_2 : List (S3 (List Int) Int (List Int))))), (2, (.int .i64 i_3)), (3, (.ref (.bx 3) 0 [] (.agg [(.int .i64 g_1.1), (Enc.enc (g_1.2 : List (Int × Int)))]))), (6, (.bool ((e_4.c.length : Int) == 0))), (7, (.ref (.bx 7) 0 [] (.agg [(Enc.enc (e_4.a : List Int)), (.int .i64 e_4.b), (Enc.enc (e_4.c : List Int))])))] ⟨h1, h2, h3, rfl, h7⟩ ?_
      rintro s ⟨h1, h2, h3, h6, h7⟩
      refine .nsq ?_
      refine .ret ?_
      have hr := Option.some.inj h
      subst hr
      exact rrA (res_tmp h6) rfl
    · refine .skip ?_
      refine .nsq ?_
      refine .seq ?_
      refine .seq ?_
      refine run_reg ?_
      refine e_end ?_
      refine g_v1 (t := 7) (u := (.ref (.bx 7) 0 [] (.agg [(Enc.enc (e_4.a : List Int)), (.int .i64 e_4.b), (Enc.enc (e_4.c : List Int))]))) (.ref (.bx 7) 0 [2] (Enc.enc (e_4.c : List Int))) h7 rfl rfl ?_
      refine g_v1 (t := 41) (u := (.ref (.bx 7) 0 [2] (Enc.enc (e_4.c : List Int)))) (Enc.enc (e_4.c : List Int)) rfl rfl rfl ?_
      refine g_v (.int .i64 (e_4.c.length : Int)) (ev_len (xs := e_4.c) rfl) ?_
      refine g_v1 (t := 7) (u := (.ref (.bx 7) 0 [] (.agg [(Enc.enc (e_4.a : List Int)), (.int .i64 e_4.b), (Enc.enc (e_4.c : List Int))]))) (.ref (.bx 7) 0 [0] (Enc.enc (e_4.a : List Int))) h7 rfl rfl ?_
      refine g_v1 (t := 44) (u := (.ref (.bx 7) 0 [0] (Enc.enc (e_4.a : List Int)))) (Enc.enc (e_4.a : List Int)) rfl rfl rfl ?_
      refine g_v (.int .i64 (e_4.a.length : Int)) (ev_len (xs := e_4.a) rfl) ?_
      refine g_v2 (t1 := 43) (t2 := 46) (u1 := (.int .i64 (e_4.c.length : Int))) (u2 := (.int .i64 (e_4.a.length : Int))) (.bool ((e_4.c.length : Int) != (e_4.a.length : Int))) rfl rfl rfl rfl ?_
      refine g_end ?_
      refine e_end ?_
      refine renew [(1, (Enc.enc (proof_2 : List (S3 (List Int) Int (List Int))))), (2, (.int .i64 i_3)), (3, (.ref (.bx 3) 0 [] (.agg [(.int .i64 g_1.1), (Enc.enc (g_1.2 : List (Int × Int)))]))), (6, (.bool false)), (7, (.ref (.bx 7) 0 [] (.agg [(Enc.enc (e_4.a : List Int)), (.int .i64 e_4.b), (Enc.enc (e_4.c : List Int))]))), (47, (.bool ((e_4.c.length : Int) != (e_4.a.length : Int))))] ⟨h1, h2, h3, h6, h7, rfl⟩ ?_
      rintro s ⟨h1, h2, h3, h6, h7, h47⟩
      refine .nsq ?_
      refine run_cond (t := ((e_4.c.length : Int) != (e_4.a.length : Int))) h47 h (fun h => ?_) (fun h => ?_)
      · refine .seq ?_
        refine run_reg ?_
        refine e_end ?_
        refine g_v0 (.bool false) rfl rfl ?_
        refine g_end ?_
        refine e_end ?_
        refine renew [(1, (Enc.enc (proof_2 : List (S3 (List Int) Int (List Int))))), (2, (.int .i64 i_3)), (3, (.ref (.bx 3) 0 [] (.agg [(.int .i64 g_1.1), (Enc.enc (g_1.2 : List (Int × Int)))]))), (6, (.bool false)), (7, (.ref (.bx 7) 0 [] (.agg [(Enc.enc (e_4.a : List Int)), (.int .i64 e_4.b), (Enc.enc (e_4.c : List Int))])))] ⟨h1, h2, h3, rfl, h7⟩ ?_
        rintro s ⟨h1, h2, h3, h6, h7⟩
        refine .nsq ?_
        refine .ret ?_
        have hr := Option.some.inj h
        subst hr
        exact rrA (res_tmp h6) rfl
      · refine .skip ?_
        refine .nsq ?_
        refine .seq ?_
        refine .seq ?_
        refine run_reg ?_
        refine e_end ?_
        refine g_v1 (t := 7) (u := (.ref (.bx 7) 0 [] (.agg [(Enc.enc (e_4.a : List Int)), (.int .i64 e_4.b), (Enc.enc (e_4.c : List Int))]))) (.ref (.bx 7) 0 [2] (Enc.enc (e_4.c : List Int))) h7 rfl rfl ?_
        refine g_v1 (t := 48) (u := (.ref (.bx 7) 0 [2] (Enc.enc (e_4.c : List Int)))) (Enc.enc (e_4.c : List Int)) rfl rfl rfl ?_
        refine g_v (.int .i64 (e_4.c.length : Int)) (ev_len (xs := e_4.c) rfl) ?_
        refine g_v0 (.int .i64 0) rfl rfl ?_
        refine g_end ?_
        refine e_end ?_
        refine renew [(1, (Enc.enc (proof_2 : List (S3 (List Int) Int (List Int))))), (2, (.int .i64 i_3)), (3, (.ref (.bx 3) 0 [] (.agg [(.int .i64 g_1.1), (Enc.enc (g_1.2 : List (Int × Int)))]))), (6, (.bool false)), (7, (.ref (.bx 7) 0 [] (.agg [(Enc.enc (e_4.a : List Int)), (.int .i64 e_4.b), (Enc.enc (e_4.c : List Int))]))), (49, (Enc.enc (e_4.c : List Int))), (50, (.int .i64 (e_4.c.length : Int))), (51, (.int .i64 0))] ⟨h1, h2, h3, h6, h7, rfl, rfl, rfl⟩ ?_
        rintro s ⟨h1, h2, h3, h6, h7, h49, h50, h51⟩
        refine .nsq ?_
        refine .block ?_
        refine .loop ?_
        exact t_f63_l1 H proof_2 i_3 g_1 e_4 F 0 _ ⟨h1, h2, h3, h6, h7, h49, h50, h51⟩ h
def i_isDepthEntry (F : Nat) (g_1 : (Int × (List (Int × Int)))) (proof_2 : (List (S3 (List Int) Int (List Int)))) (i_3 : Int) : Option Bool :=
  (idx proof_2 i_3).bind fun e_4 =>
  (i_isSet F g_1 e_4.a).bind fun r_71 =>
  bif (!r_71) then
    i_isDepthEntry_j2 F proof_2 i_3 g_1 e_4 true
  else
    (i_netOf F g_1).bind fun r_72 =>
    (i_maskOf F e_4.a).bind fun r_73 =>
    (i_net_parts F r_72 r_73).bind fun r_74 =>
    bif ((r_74.length : Int) != 1) then
      i_isDepthEntry_j2 F proof_2 i_3 g_1 e_4 true
    else
      i_isDepthEntry_j2 F proof_2 i_3 g_1 e_4 (decide (e_4.b < 1))
theorem t63 (H : H63 D σ F) (g_1 : (Int × (List (Int × Int)))) (proof_2 : (List (S3 (List Int) Int (List Int)))) (i_3 : Int) (s : Nat → V) (hs : Facts [(0, (.agg [(.int .i64 g_1.1), (Enc.enc (g_1.2 : List (Int × Int)))])), (1, (Enc.enc (proof_2 : List (S3 (List Int) Int (List Int))))), (2, (.int .i64 i_3))] s) (h : i_isDepthEntry F g_1 proof_2 i_3 = some r) : Run D σ (R63 r) (.run A63 []) s := by
  unfold i_isDepthEntry at h
  obtain ⟨h0, h1, h2⟩ := hs
  refine .seq ?_
  refine run_reg ?_
  refine e_clr ?_
  refine e_end ?_
  refine g_box (.agg [(.int .i64 g_1.1), (Enc.enc (g_1.2 : List (Int × Int)))]) (rd_of (keep_clear (s := s) (pk := [3]) h0 rfl (map_agg (maps_cons rfl (maps_cons (Enc.map_enc _ (g_1.2 : List (Int × Int))) maps_nil)))) rfl) (gone_clear (s := s) (pk := [3]) (t := 3) rfl) rfl ?_
  refine g_v0 (.bool false) rfl rfl ?_
  refine g_end ?_
  refine e_end ?_
  refine renew [(1, (Enc.enc (proof_2 : List (S3 (List Int) Int (List Int))))), (2, (.int .i64 i_3)), (3, (.ref (.bx 3) 0 [] (.agg [(.int .i64 g_1.1), (Enc.enc (g_1.2 : List (Int × Int)))]))), (6, (.bool false))] ⟨(keep_clear (s := s) (pk := [3]) h1 rfl (Enc.map_enc _ (proof_2 : List (S3 (List Int) Int (List Int))))), (keep_clear (s := s) (pk := [3]) h2 rfl rfl), rfl, rfl⟩ ?_
  rintro s ⟨h1, h2, h3, h6⟩
  refine .nsq ?_
  refine .seq ?_
  refine run_reg ?_
  refine e_clr ?_
  refine e_end ?_
  refine g_v1 (t := 1) (u := (Enc.enc (proof_2 : List (S3 (List Int) Int (List Int))))) (Enc.enc (proof_2 : List (S3 (List Int) Int (List Int)))) (keep_clear (s := s) (pk := [7]) h1 rfl (Enc.map_enc _ (proof_2 : List (S3 (List Int) Int (List Int))))) rfl rfl ?_
  refine g_v1 (t := 2) (u := (.int .i64 i_3)) (.int .i64 i_3) (keep_clear (s := s) (pk := [7]) h2 rfl rfl) rfl rfl ?_
  obtain ⟨e_4, E_e_4, h⟩ := bind_some h
  refine g_v (.ref .sh 0 [] (.agg [(Enc.enc (e_4.a : List Int)), (.int .i64 e_4.b), (Enc.enc (e_4.c : List Int))])) (ev_idx (t := .sh) (lo := 0) (xs := proof_2) rfl rfl E_e_4 rfl rfl) ?_
  refine g_v1 (t := 12) (u := (.ref .sh 0 [] (.agg [(Enc.enc (e_4.a : List Int)), (.int .i64 e_4.b), (Enc.enc (e_4.c : List Int))]))) (.agg [(Enc.enc (e_4.a : List Int)), (.int .i64 e_4.b), (Enc.enc (e_4.c : List Int))]) rfl rfl rfl ?_
  refine g_alloc (gone_clear (s := s) (pk := [7]) (t := 7) rfl) ?_
  refine g_store (.agg [(Enc.enc (e_4.a : List Int)), (.int .i64 e_4.b), (Enc.enc (e_4.c : List Int))]) (rd_of rfl rfl) (rd_of rfl rfl) (by refine ⟨by decide, by decide, rfl, rfl, rfl, ?_⟩; first | rfl | simp [V.toks, V.tokss, Enc.toks_enc]) ?_
  refine g_end ?_
  refine e_end ?_
  refine renew [(1, (Enc.enc (proof_2 : List (S3 (List Int) Int (List Int))))), (2, (.int .i64 i_3)), (3, (.ref (.bx 3) 0 [] (.agg [(.int .i64 g_1.1), (Enc.enc (g_1.2 : List (Int × Int)))]))), (6, (.bool false)), (7, (.ref (.bx 7) 0 [] (.agg [(Enc.enc (e_4.a : List Int)), (.int .i64 e_4.b), (Enc.enc (e_4.c : List Int))])))] ⟨(keep_mut (keep_clear (s := s) (pk := [7]) h1 rfl (Enc.map_enc _ (proof_2 : List (S3 (List Int) Int (List Int))))) (Enc.mut_enc _ _ _ _ (proof_2 : List (S3 (List Int) Int (List Int))))), (keep_mut (keep_clear (s := s) (pk := [7]) h2 rfl rfl) rfl), (keep_mut (keep_clear (s := s) (pk := [7]) h3 rfl (map_bx rfl (map_agg (maps_cons rfl (maps_cons (Enc.map_enc _ (g_1.2 : List (Int × Int))) maps_nil))))) (mut_ref_ne rfl rfl (mut_agg (muts_cons rfl (muts_cons (Enc.mut_enc _ _ _ _ (g_1.2 : List (Int × Int))) rfl))))), (keep_mut (keep_clear (s := s) (pk := [7]) h6 rfl rfl) rfl), (keep_mut rfl rfl)⟩ ?_
  rintro s ⟨h1, h2, h3, h6, h7⟩
  refine .nsq ?_
  refine .seq ?_
  refine .seq ?_
  refine run_reg ?_
  refine e_end ?_
  refine g_v1 (t := 3) (u := (.ref (.bx 3) 0 [] (.agg [(.int .i64 g_1.1), (Enc.enc (g_1.2 : List (Int × Int)))]))) (.agg [(.int .i64 g_1.1), (Enc.enc (g_1.2 : List (Int × Int)))]) h3 rfl rfl ?_
  refine g_v1 (t := 7) (u := (.ref (.bx 7) 0 [] (.agg [(Enc.enc (e_4.a : List Int)), (.int .i64 e_4.b), (Enc.enc (e_4.c : List Int))]))) (.ref (.bx 7) 0 [0] (Enc.enc (e_4.a : List Int))) h7 rfl rfl ?_
  refine g_v1 (t := 15) (u := (.ref (.bx 7) 0 [0] (Enc.enc (e_4.a : List Int)))) (Enc.enc (e_4.a : List Int)) rfl rfl rfl ?_
  obtain ⟨r_71, E_r_71, h⟩ := bind_some h
  refine g_call (m := 0) (al := false) (r := (Enc.enc (r_71 : Bool))) [Enc.enc (g_1 : (Int × (List (Int × Int)))), Enc.enc (e_4.a : (List Int))] (ta_cons (v := (.agg [(.int .i64 g_1.1), (Enc.enc (g_1.2 : List (Int × Int)))])) rfl rfl (Enc.erase_enc (g_1 : (Int × (List (Int × Int))))) (ta_cons (v := (Enc.enc (e_4.a : List Int))) rfl rfl (Enc.erase_enc (e_4.a : (List Int))) ta_nil)) (H.c84 _ _ _ E_r_71) H.g84 rfl rfl rfl rfl ?_
  refine g_v1 (t := 17) (u := (.bool r_71)) (.bool (!r_71)) rfl rfl rfl ?_
  refine g_v1 (t := 18) (u := (.bool (!r_71))) (.bool (!r_71)) rfl rfl rfl ?_
  refine split_on (c := (!r_71)) h (fun hg6 h => ?_) (fun hg6 h => ?_)
  · refine g_no (Eq.trans (b := .bool (!r_71)) rfl (congrArg V.bool hg6)) ?_
    refine g_no (Eq.trans (b := .bool (!r_71)) rfl (congrArg V.bool hg6)) ?_
    refine g_no (Eq.trans (b := .bool (!r_71)) rfl (congrArg V.bool hg6)) ?_
    refine g_no (Eq.trans (b := .bool (!r_71)) rfl (congrArg V.bool hg6)) ?_
    refine g_no (Eq.trans (b := .bool (!r_71)) rfl (congrArg V.bool hg6)) ?_
    refine g_no (Eq.trans (b := .bool (!r_71)) rfl (congrArg V.bool hg6)) ?_
    refine g_no (Eq.trans (b := .bool (!r_71)) rfl (congrArg V.bool hg6)) ?_
    refine g_no (Eq.trans (b := .bool (!r_71)) rfl (congrArg V.bool hg6)) ?_
    refine g_v2 (t1 := 19) (t2 := 27) (u1 := (.bool true)) (u2 := (.tup [])) (.bool true) (Eq.trans (b := .bool (!r_71)) rfl (congrArg V.bool hg6)) rfl rfl rfl ?_
    refine g_v1 (t := 28) (u := (.bool true)) (.bool true) rfl rfl rfl ?_
    refine g_no rfl ?_
    refine g_no rfl ?_
    refine g_no rfl ?_
    refine g_v2 (t1 := 29) (t2 := 32) (u1 := (.bool true)) (u2 := (.tup [])) (.bool true) rfl rfl rfl rfl ?_
    refine g_end ?_
    refine e_end ?_
    refine renew [(1, (Enc.enc (proof_2 : List (S3 (List Int) Int (List Int))))), (2, (.int .i64 i_3)), (3, (.ref (.bx 3) 0 [] (.agg [(.int .i64 g_1.1), (Enc.enc (g_1.2 : List (Int × Int)))]))), (6, (.bool false)), (7, (.ref (.bx 7) 0 [] (.agg [(Enc.enc (e_4.a : List Int)), (.int .i64 e_4.b), (Enc.enc (e_4.c : List Int))]))), (33, (.bool true))] ⟨h1, h2, h3, h6, h7, rfl⟩ ?_
    rintro s ⟨h1, h2, h3, h6, h7, h33⟩
    exact t_f63_j2 H proof_2 i_3 g_1 e_4 true _ ⟨h1, h2, h3, h6, h7, h33⟩ h
  · refine g_yes (Eq.trans (b := .bool (!r_71)) rfl (congrArg V.bool hg6)) (g_v1 (t := 3) (u := (.ref (.bx 3) 0 [] (.agg [(.int .i64 g_1.1), (Enc.enc (g_1.2 : List (Int × Int)))]))) (.agg [(.int .i64 g_1.1), (Enc.enc (g_1.2 : List (Int × Int)))]) h3 rfl rfl ?_)
    obtain ⟨r_72, E_r_72, h⟩ := bind_some h
    refine g_yes (Eq.trans (b := .bool (!r_71)) rfl (congrArg V.bool hg6)) (g_call (m := 0) (al := false) (r := (Enc.enc (r_72 : (S1 (List Int))))) [Enc.enc (g_1 : (Int × (List (Int × Int))))] (ta_cons (v := (.agg [(.int .i64 g_1.1), (Enc.enc (g_1.2 : List (Int × Int)))])) rfl rfl (Enc.erase_enc (g_1 : (Int × (List (Int × Int))))) ta_nil) (H.c67 _ _ E_r_72) H.g67 rfl rfl rfl rfl ?_)
    refine g_yes (Eq.trans (b := .bool (!r_71)) rfl (congrArg V.bool hg6)) (g_v1 (t := 7) (u := (.ref (.bx 7) 0 [] (.agg [(Enc.enc (e_4.a : List Int)), (.int .i64 e_4.b), (Enc.enc (e_4.c : List Int))]))) (.ref (.bx 7) 0 [0] (Enc.enc (e_4.a : List Int))) h7 rfl rfl ?_)
    refine g_yes (Eq.trans (b := .bool (!r_71)) rfl (congrArg V.bool hg6)) (g_v1 (t := 22) (u := (.ref (.bx 7) 0 [0] (Enc.enc (e_4.a : List Int)))) (Enc.enc (e_4.a : List Int)) rfl rfl rfl ?_)
    obtain ⟨r_73, E_r_73, h⟩ := bind_some h
    refine g_yes (Eq.trans (b := .bool (!r_71)) rfl (congrArg V.bool hg6)) (g_call (m := 0) (al := false) (r := (Enc.enc (r_73 : Int))) [Enc.enc (e_4.a : (List Int))] (ta_cons (v := (Enc.enc (e_4.a : List Int))) rfl rfl (Enc.erase_enc (e_4.a : (List Int))) ta_nil) (H.c93 _ _ E_r_73) H.g93 rfl rfl rfl rfl ?_)
    obtain ⟨r_74, E_r_74, h⟩ := bind_some h
    refine g_yes (Eq.trans (b := .bool (!r_71)) rfl (congrArg V.bool hg6)) (g_call (m := 0) (al := false) (r := (Enc.enc (r_74 : (List Int)))) [Enc.enc (r_72 : (S1 (List Int))), Enc.enc (r_73 : Int)] (ta_cons (v := (.agg [(Enc.enc (r_72.a : List Int))])) rfl rfl (Enc.erase_enc (r_72 : (S1 (List Int)))) (ta_cons (v := (.int .i64 r_73)) rfl rfl rfl ta_nil)) (H.c92 _ _ _ E_r_74) H.g92 rfl rfl rfl rfl ?_)
    refine g_yes (Eq.trans (b := .bool (!r_71)) rfl (congrArg V.bool hg6)) (g_v (.int .i64 (r_74.length : Int)) (ev_len (xs := r_74) rfl) ?_)
    refine g_yes (Eq.trans (b := .bool (!r_71)) rfl (congrArg V.bool hg6)) (g_v1 (t := 26) (u := (.int .i64 (r_74.length : Int))) (.bool ((r_74.length : Int) != 1)) rfl rfl rfl ?_)
    refine g_v2 (t1 := 19) (t2 := 27) (u1 := (.bool false)) (u2 := (.bool ((r_74.length : Int) != 1))) (.bool ((r_74.length : Int) != 1)) (Eq.trans (b := .bool (!r_71)) rfl (congrArg V.bool hg6)) rfl rfl rfl ?_
    refine g_v1 (t := 28) (u := (.bool ((r_74.length : Int) != 1))) (.bool ((r_74.length : Int) != 1)) rfl rfl rfl ?_
    refine split_on (c := ((r_74.length : Int) != 1)) h (fun hg16 h => ?_) (fun hg16 h => ?_)
    · refine g_no (Eq.trans (b := .bool ((r_74.length : Int) != 1)) rfl (congrArg V.bool hg16)) ?_
      refine g_no (Eq.trans (b := .bool ((r_74.length : Int) != 1)) rfl (congrArg V.bool hg16)) ?_
      refine g_no (Eq.trans (b := .bool ((r_74.length : Int) != 1)) rfl (congrArg V.bool hg16)) ?_
      refine g_v2 (t1 := 29) (t2 := 32) (u1 := (.bool true)) (u2 := (.tup [])) (.bool true) (Eq.trans (b := .bool ((r_74.length : Int) != 1)) rfl (congrArg V.bool hg16)) rfl rfl rfl ?_
      refine g_end ?_
      refine e_end ?_
      refine renew [(1, (Enc.enc (proof_2 : List (S3 (List Int) Int (List Int))))), (2, (.int .i64 i_3)), (3, (.ref (.bx 3) 0 [] (.agg [(.int .i64 g_1.1), (Enc.enc (g_1.2 : List (Int × Int)))]))), (6, (.bool false)), (7, (.ref (.bx 7) 0 [] (.agg [(Enc.enc (e_4.a : List Int)), (.int .i64 e_4.b), (Enc.enc (e_4.c : List Int))]))), (33, (.bool true))] ⟨h1, h2, h3, h6, h7, rfl⟩ ?_
      rintro s ⟨h1, h2, h3, h6, h7, h33⟩
      exact t_f63_j2 H proof_2 i_3 g_1 e_4 true _ ⟨h1, h2, h3, h6, h7, h33⟩ h
    · refine g_yes (Eq.trans (b := .bool ((r_74.length : Int) != 1)) rfl (congrArg V.bool hg16)) (g_v1 (t := 7) (u := (.ref (.bx 7) 0 [] (.agg [(Enc.enc (e_4.a : List Int)), (.int .i64 e_4.b), (Enc.enc (e_4.c : List Int))]))) (.ref (.bx 7) 0 [1] (.int .i64 e_4.b)) h7 rfl rfl ?_)
      refine g_yes (Eq.trans (b := .bool ((r_74.length : Int) != 1)) rfl (congrArg V.bool hg16)) (g_v1 (t := 30) (u := (.ref (.bx 7) 0 [1] (.int .i64 e_4.b))) (.int .i64 e_4.b) rfl rfl rfl ?_)
      refine g_yes (Eq.trans (b := .bool ((r_74.length : Int) != 1)) rfl (congrArg V.bool hg16)) (g_v1 (t := 31) (u := (.int .i64 e_4.b)) (.bool (decide (e_4.b < 1))) rfl rfl rfl ?_)
      refine g_v2 (t1 := 29) (t2 := 32) (u1 := (.bool false)) (u2 := (.bool (decide (e_4.b < 1)))) (.bool (decide (e_4.b < 1))) (Eq.trans (b := .bool ((r_74.length : Int) != 1)) rfl (congrArg V.bool hg16)) rfl rfl rfl ?_
      refine g_end ?_
      refine e_end ?_
      refine renew [(1, (Enc.enc (proof_2 : List (S3 (List Int) Int (List Int))))), (2, (.int .i64 i_3)), (3, (.ref (.bx 3) 0 [] (.agg [(.int .i64 g_1.1), (Enc.enc (g_1.2 : List (Int × Int)))]))), (6, (.bool false)), (7, (.ref (.bx 7) 0 [] (.agg [(Enc.enc (e_4.a : List Int)), (.int .i64 e_4.b), (Enc.enc (e_4.c : List Int))]))), (33, (.bool (decide (e_4.b < 1))))] ⟨h1, h2, h3, h6, h7, rfl⟩ ?_
      rintro s ⟨h1, h2, h3, h6, h7, h33⟩
      exact t_f63_j2 H proof_2 i_3 g_1 e_4 (decide (e_4.b < 1)) _ ⟨h1, h2, h3, h6, h7, h33⟩ h
end
def e63 (F : Nat) : Ent := ⟨63, da (fun (x : ((Int × (List (Int × Int))) × (List (S3 (List Int) Int (List Int))) × Int × Unit)) => i_isDepthEntry F x.1 x.2.1 x.2.2.1) (fun (r : Bool) => (Enc.enc (r : Bool))), 0, false, selF []⟩
theorem p63 {F : Nat} {x0 : (Int × (List (Int × Int)))} {x1 : (List (S3 (List Int) Int (List Int)))} {x2 : Int} {r : Bool} (h : i_isDepthEntry F x0 x1 x2 = some r) : (e63 F).den [Enc.enc x0, Enc.enc x1, Enc.enc x2] = some (Enc.enc (r : Bool)) := da_put (f := fun (x : ((Int × (List (Int × Int))) × (List (S3 (List Int) Int (List Int))) × Int × Unit)) => i_isDepthEntry F x.1 x.2.1 x.2.2.1) (t := fun (r : Bool) => (Enc.enc (r : Bool))) (x0, x1, x2, ()) h
theorem o63 {D : Den} {σ : Sig} {F : Nat} (hF : Fits2 Try.prog D σ) (H : H63 D σ F) : (e63 F).Ok Try.prog := by
  refine ⟨fun args r h => ?_, ⟨Try.f63, Try.func63, rfl, rfl⟩⟩
  obtain ⟨⟨x0, x1, x2, _⟩, y, rfl, hy, rfl⟩ := da_open h
  exact contract_run hF (by kernel_rfl) Try.func63 rfl c63 (show 3 ≤ Try.f63.ntmps by decide) (t63 H x0 x1 x2 _ ⟨rfl, rfl, rfl⟩ hy)
/- loop.example/g01109/impl.IsDepthProof -/
def A37_5 : AC := (AC.cond (O.t 23) (AC.seq (AC.reg [] [(I.mk (some 4) none false (X.v (A.mov (O.k (V.bool false))))), (I.mk (some 5) none false (X.v (A.mov (O.k (V.bool true)))))] []) AC.ret) AC.skip)
def A37_4 : AC := (AC.seq (AC.reg [] [(I.mk (some 19) none false (X.v (A.load (Sh.ag [Sh.s, Sh.p]) (O.t 2)))), (I.mk (some 20) none false (X.v (A.mov (O.t 1)))), (I.mk (some 21) none false (X.v (A.mov (O.t 6)))), (I.mk (some 22) none false (X.call (O.k (V.fn 63 [] [])) [(O.t 19), (O.t 20), (O.t 21)])), (I.mk (some 23) none false (X.v (A.un UnOp.not (O.t 22))))] []) A37_5)
def A37_6 : AC := (AC.reg [] [(I.mk (some 24) none false (X.v (A.bin BinOp.add (O.t 16) (O.k (V.int IntKind.i64 (Int.ofNat 1)))))), (I.mk (some 16) none false (X.v (A.mov (O.t 24))))] [])
def A37_3 : AC := (AC.seq (AC.block 1 (AC.seq (AC.reg [] [(I.mk (some 18) none false (X.v (A.mov (O.t 16)))), (I.mk (some 6) none false (X.v (A.mov (O.t 18))))] []) A37_4)) A37_6)
def A37_2 : AC := (AC.seq (AC.cond (O.t 17) AC.skip (AC.exit 0)) A37_3)
def A37_1 : AC := (AC.seq (AC.reg [] [(I.mk (some 17) none false (X.v (A.bin BinOp.lss (O.t 16) (O.t 15))))] []) A37_2)
def A37_7 : AC := (AC.seq (AC.reg [] [(I.mk (some 4) none false (X.v (A.mov (O.k (V.bool true))))), (I.mk (some 5) none false (X.v (A.mov (O.k (V.bool true)))))] []) AC.ret)
def A37_9 : AC := (AC.cond (O.t 9) (AC.seq (AC.reg [] [(I.mk (some 4) none false (X.v (A.mov (O.k (V.bool false))))), (I.mk (some 5) none false (X.v (A.mov (O.k (V.bool false)))))] []) AC.ret) AC.skip)
def A37_11 : AC := (AC.cond (O.t 13) (AC.seq (AC.reg [] [(I.mk (some 4) none false (X.v (A.mov (O.k (V.bool false))))), (I.mk (some 5) none false (X.v (A.mov (O.k (V.bool true)))))] []) AC.ret) AC.skip)
def A37_13 : AC := (AC.block 0 (AC.loop A37_1))
def A37_12 : AC := (AC.seq (AC.seq (AC.reg [] [(I.mk (some 14) none false (X.v (A.mov (O.t 1)))), (I.mk (some 15) none false (X.v (A.len (O.t 14)))), (I.mk (some 16) none false (X.v (A.mov (O.k (V.int IntKind.i64 (Int.ofNat 0))))))] []) A37_13) A37_7)
def A37_10 : AC := (AC.seq (AC.seq (AC.reg [] [(I.mk (some 10) none false (X.v (A.mov (O.t 1)))), (I.mk (some 11) none false (X.v (A.len (O.t 10)))), (I.mk (some 12) none false (X.call (O.k (V.fn 62 [] [])) [(O.t 11), (O.k (V.int IntKind.i64 (Int.ofNat 1))), (O.k (V.int IntKind.i64 (Int.ofNat 200)))])), (I.mk (some 13) none false (X.v (A.un UnOp.not (O.t 12))))] []) A37_11) A37_12)
def A37_8 : AC := (AC.seq (AC.seq (AC.reg [] [(I.mk (some 7) none false (X.v (A.load (Sh.ag [Sh.s, Sh.p]) (O.t 2)))), (I.mk (some 8) none false (X.call (O.k (V.fn 53 [] [])) [(O.t 7)])), (I.mk (some 9) none false (X.v (A.un UnOp.not (O.t 8))))] []) A37_9) A37_10)
def A37 : AC := (AC.seq (AC.reg [.clr [2]] [(I.mk (some 2) none false (X.box (O.t 0))), (I.mk (some 4) none false (X.v (A.mov (O.k (V.bool false))))), (I.mk (some 5) none false (X.v (A.mov (O.k (V.bool false)))))] []) A37_8)
def an37 : List An := [{ id := 0, pre := [.clr [2]], ep := [], lin := [], sp := [] }]
theorem c37 : cC Try.prog Try.f37.ntmps an37 (Try.f37.body.getD .skip) = some A37 := by kernel_rfl
structure H37 (D : Den) (σ : Sig) (F : Nat) : Prop where
  c53 : ∀ (x0 : (Int × (List (Int × Int)))) r, i_IsGraph F x0 = some r → D 53 [Enc.enc x0] = some (Enc.enc (r : Bool))
  g53 : σ 53 = some (0, false)
  c62 : ∀ (x0 : Int) (x1 : Int) (x2 : Int) r, i_within F x0 x1 x2 = some r → D 62 [Enc.enc x0, Enc.enc x1, Enc.enc x2] = some (Enc.enc (r : Bool))
  g62 : σ 62 = some (0, false)
  c63 : ∀ (x0 : (Int × (List (Int × Int)))) (x1 : (List (S3 (List Int) Int (List Int)))) (x2 : Int) r, i_isDepthEntry F x0 x1 x2 = some r → D 63 [Enc.enc x0, Enc.enc x1, Enc.enc x2] = some (Enc.enc (r : Bool))
  g63 : σ 63 = some (0, false)
abbrev R37 (r : (Bool × Bool)) : (Nat → V) → Prop := RR Try.prog [.tmp 4, .tmp 5] 0 false (.tup [Enc.enc (r.1 : Bool), Enc.enc (r.2 : Bool)])
section
variable {D : Den} {σ : Sig} {F : Nat} {r : (Bool × Bool)}
def i_IsDepthProof_l1 (F : Nat) (proof_2 : (List (S3 (List Int) Int (List Int)))) (g_1 : (Int × (List (Int × Int))))  : Nat → Int → Option (Bool × Bool)
  | 0, _ => none
  | k + 1, t16_6 =>
    bif decide (t16_6 < (proof_2.length : Int)) then
      (i_isDepthEntry F g_1 proof_2 t16_6).bind fun r_8 =>
      bif (!r_8) then
        some (false, true)
      else
        (i_IsDepthProof_l1 F proof_2 g_1 k) (w64 (t16_6 + 1))
    else
      some (true, true)
theorem t_f37_l1 (H : H37 D σ F) (proof_2 : (List (S3 (List Int) Int (List Int)))) (g_1 : (Int × (List (Int × Int))))  : ∀ (k : Nat) (t16_6 : Int) (s : Nat → V), Facts [(1, (Enc.enc (proof_2 : List (S3 (List Int) Int (List Int))))), (2, (.ref (.bx 2) 0 [] (.agg [(.int .i64 g_1.1), (Enc.enc (g_1.2 : List (Int × Int)))]))), (4, (.bool false)), (5, (.bool false)), (15, (.int .i64 (proof_2.length : Int))), (16, (.int .i64 t16_6))] s → i_IsDepthProof_l1 F proof_2 g_1 k t16_6 = some r → Run D σ (R37 r) (.run A37_1 [.lp A37_1, .bk 0, .sq A37_7]) s := by
  intro k
  induction k with
  | zero => intro t16_6 s _ h; exact nomatch (h : (none : Option _) = some r)
  | succ k ih =>
    intro t16_6 s hs h
    rw [i_IsDepthProof_l1] at h
    obtain ⟨h1, h2, h4, h5, h15, h16⟩ := hs
    refine .seq ?_
    refine run_reg ?_
    refine e_end ?_
    refine g_v2 (t1 := 16) (t2 := 15) (u1 := (.int .i64 t16_6)) (u2 := (.int .i64 (proof_2.length : Int))) (.bool (decide (t16_6 < (proof_2.length : Int)))) h16 h15 rfl rfl ?_
    refine g_end ?_
    refine e_end ?_
    refine renew [(1, (Enc.enc (proof_2 : List (S3 (List Int) Int (List Int))))), (2, (.ref (.bx 2) 0 [] (.agg [(.int .i64 g_1.1), (Enc.enc (g_1.2 : List (Int × Int)))]))), (4, (.bool false)), (5, (.bool false)), (15, (.int .i64 (proof_2.length : Int))), (16, (.int .i64 t16_6)), (17, (.bool (decide (t16_6 < (proof_2.length : Int)))))] ⟨h1, h2, h4, h5, h15, h16, rfl⟩ ?_
    rintro s ⟨h1, h2, h4, h5, h15, h16, h17⟩
    refine .nsq ?_
    refine .seq ?_
    refine run_cond (t := decide (t16_6 < (proof_2.length : Int))) h17 h (fun h => ?_) (fun h => ?_)
    · refine .skip ?_
      refine .nsq ?_
      refine .seq ?_
      refine .block ?_
      refine .seq ?_
      refine run_reg ?_
      refine e_end ?_
      refine g_v1 (t := 16) (u := (.int .i64 t16_6)) (.int .i64 t16_6) h16 rfl rfl ?_
      refine g_v1 (t := 18) (u := (.int .i64 t16_6)) (.int .i64 t16_6) rfl rfl rfl ?_
      refine g_end ?_
      refine e_end ?_
      refine renew [(1, (Enc.enc (proof_2 : List (S3 (List Int) Int (List Int))))), (2, (.ref (.bx 2) 0 [] (.agg [(.int .i64 g_1.1), (Enc.enc (g_1.2 : List (Int × Int)))]))), (4, (.bool false)), (5, (.bool false)), (6, (.int .i64 t16_6)), (15, (.int .i64 (proof_2.length : Int))), (16, (.int .i64 t16_6))] ⟨h1, h2, h4, h5, rfl, h15, h16⟩ ?_
      rintro s ⟨h1, h2, h4, h5, h6, h15, h16⟩
      refine .nsq ?_
      refine .seq ?_
      refine run_reg ?_
      refine e_end ?_
      refine g_v1 (t := 2) (u := (.ref (.bx 2) 0 [] (.agg [(.int .i64 g_1.1), (Enc.enc (g_1.2 : List (Int × Int)))]))) (.agg [(.int .i64 g_1.1), (Enc.enc (g_1.2 : List (Int × Int)))]) h2 rfl rfl ?_
      refine g_v1 (t := 1) (u := (Enc.enc (proof_2 : List (S3 (List Int) Int (List Int))))) (Enc.enc (proof_2 : List (S3 (List Int) Int (List Int)))) h1 rfl rfl ?_
      refine g_v1 (t := 6) (u := (.int .i64 t16_6)) (.int .i64 t16_6) h6 rfl rfl ?_
      obtain ⟨r_8, E_r_8, h⟩ := bind_some h
      refine g_call (m := 0) (al := false) (r := (Enc.enc (r_8 : Bool))) [Enc.enc (g_1 : (Int × (List (Int × Int)))), Enc.enc (proof_2 : (List (S3 (List Int) Int (List Int)))), Enc.enc (t16_6 : Int)] (ta_cons (v := (.agg [(.int .i64 g_1.1), (Enc.enc (g_1.2 : List (Int × Int)))])) rfl rfl (Enc.erase_enc (g_1 : (Int × (List (Int × Int))))) (ta_cons (v := (Enc.enc (proof_2 : List (S3 (List Int) Int (List Int))))) rfl rfl (Enc.erase_enc (proof_2 : (List (S3 (List Int) Int (List Int))))) (ta_cons (v := (.int .i64 t16_6)) rfl rfl rfl ta_nil))) (H.c63 _ _ _ _ E_r_8) H.g63 rfl rfl rfl rfl ?_
      refine g_v1 (t := 22) (u := (.bool r_8)) (.bool (!r_8)) rfl rfl rfl ?_
      refine g_end ?_
      refine e_end ?_
      refine renew [(1, (Enc.enc (proof_2 : List (S3 (List Int) Int (List Int))))), (2, (.ref (.bx 2) 0 [] (.agg [(.int .i64 g_1.1), (Enc.enc (g_1.2 : List (Int × Int)))]))), (4, (.bool false)), (5, (.bool false)), (15, (.int .i64 (proof_2.length : Int))), (16, (.int .i64 t16_6)), (23, (.bool (!r_8)))] ⟨h1, h2, h4, h5, h15, h16, rfl⟩ ?_
      rintro s ⟨h1, h2, h4, h5, h15, h16, h23⟩
      refine .nsq ?_
      refine run_cond (t := (!r_8)) h23 h (fun h => ?_) (fun h => ?_)
      · refine .seq ?_
        refine run_reg ?_
        refine e_end ?_
        refine g_v0 (.bool false) rfl rfl ?_
        refine g_v0 (.bool true) rfl rfl ?_
        refine g_end ?_
        refine e_end ?_
        refine renew [(1, (Enc.enc (proof_2 : List (S3 (List Int) Int (List Int))))), (2, (.ref (.bx 2) 0 [] (.agg [(.int .i64 g_1.1), (Enc.enc (g_1.2 : List (Int × Int)))]))), (4, (.bool false)), (5, (.bool true)), (15, (.int .i64 (proof_2.length : Int))), (16, (.int .i64 t16_6))] ⟨h1, h2, rfl, rfl, h15, h16⟩ ?_
        rintro s ⟨h1, h2, h4, h5, h15, h16⟩
        refine .nsq ?_
        refine .ret ?_
        have hr := Option.some.inj h
        subst hr
        exact rrB (res_tmp h4) (res_tmp h5) rfl
      · refine .skip ?_
        refine .nbk ?_
        refine .nsq ?_
        refine run_reg ?_
        refine e_end ?_
        refine g_v1 (t := 16) (u := (.int .i64 t16_6)) (.int .i64 (w64 (t16_6 + 1))) h16 rfl rfl ?_
        refine g_v1 (t := 24) (u := (.int .i64 (w64 (t16_6 + 1)))) (.int .i64 (w64 (t16_6 + 1))) rfl rfl rfl ?_
        refine g_end ?_
        refine e_end ?_
        refine renew [(1, (Enc.enc (proof_2 : List (S3 (List Int) Int (List Int))))), (2, (.ref (.bx 2) 0 [] (.agg [(.int .i64 g_1.1), (Enc.enc (g_1.2 : List (Int × Int)))]))), (4, (.bool false)), (5, (.bool false)), (15, (.int .i64 (proof_2.length : Int))), (16, (.int .i64 (w64 (t16_6 + 1))))] ⟨h1, h2, h4, h5, h15, rfl⟩ ?_
        rintro s ⟨h1, h2, h4, h5, h15, h16⟩
        refine .nlp ?_
        exact ih (w64 (t16_6 + 1)) _ ⟨h1, h2, h4, h5, h15, h16⟩ h
    · refine .exit ?_
      refine .esq ?_
      refine .elp ?_
      refine .ebk ?_
      refine .nsq ?_
      refine .seq ?_
      refine run_reg ?_
      refine e_end ?_
      refine g_v0 (.bool true) rfl rfl ?_
      refine g_v0 (.bool true) rfl rfl ?_
      refine g_end ?_
      refine e_end ?_
      refine renew [(4, (.bool true)), (5, (.bool true))] ⟨rfl, rfl⟩ ?_
      rintro s ⟨h4, h5⟩
      refine .nsq ?_
      refine .ret ?_
      have hr := Option.some.inj h
      subst hr
      exact rrB (res_tmp h4) (res_tmp h5) rfl
def i_IsDepthProof (F : Nat) (g_1 : (Int × (List (Int × Int)))) (proof_2 : (List (S3 (List Int) Int (List Int)))) : Option (Bool × Bool) :=
  (i_IsGraph F g_1).bind fun r_3 =>
  bif (!r_3) then
    some (false, false)
  else
    (i_within F (proof_2.length : Int) 1 200).bind fun r_4 =>
    bif (!r_4) then
      some (false, true)
    else
      i_IsDepthProof_l1 F proof_2 g_1 F 0
theorem t37 (H : H37 D σ F) (g_1 : (Int × (List (Int × Int)))) (proof_2 : (List (S3 (List Int) Int (List Int)))) (s : Nat → V) (hs : Facts [(0, (.agg [(.int .i64 g_1.1), (Enc.enc (g_1.2 : List (Int × Int)))])), (1, (Enc.enc (proof_2 : List (S3 (List Int) Int (List Int)))))] s) (h : i_IsDepthProof F g_1 proof_2 = some r) : Run D σ (R37 r) (.run A37 []) s := by
  unfold i_IsDepthProof at h
  obtain ⟨h0, h1⟩ := hs
  refine .seq ?_
  refine run_reg ?_
  refine e_clr ?_
  refine e_end ?_
  refine g_box (.agg [(.int .i64 g_1.1), (Enc.enc (g_1.2 : List (Int × Int)))]) (rd_of (keep_clear (s := s) (pk := [2]) h0 rfl (map_agg (maps_cons rfl (maps_cons (Enc.map_enc _ (g_1.2 : List (Int × Int))) maps_nil)))) rfl) (gone_clear (s := s) (pk := [2]) (t := 2) rfl) rfl ?_
  refine g_v0 (.bool false) rfl rfl ?_
  refine g_v0 (.bool false) rfl rfl ?_
  refine g_end ?_
  refine e_end ?_
  refine renew [(1, (Enc.enc (proof_2 : List (S3 (List Int) Int (List Int))))), (2, (.ref (.bx 2) 0 [] (.agg [(.int .i64 g_1.1), (Enc.enc (g_1.2 : List (Int × Int)))]))), (4, (.bool false)), (5, (.bool false))] ⟨(keep_clear (s := s) (pk := [2]) h1 rfl (Enc.map_enc _ (proof_2 : List (S3 (List Int) Int (List Int))))), rfl, rfl, rfl⟩ ?_
  rintro s ⟨h1, h2, h4, h5⟩
  refine .nsq ?_
  refine .seq ?_
  refine .seq ?_
  refine run_reg ?_
  refine e_end ?_
  refine g_v1 (t := 2) (u := (.ref (.bx 2) 0 [] (.agg [(.int .i64 g_1.1), (Enc.enc (g_1.2 : List (Int × Int)))]))) (.agg [(.int .i64 g_1.1), (Enc.enc (g_1.2 : List (Int × Int)))]) h2 rfl rfl ?_
  obtain ⟨r_3, E_r_3, h⟩ := bind_some h
  refine g_call (m := 0) (al := false) (r := (Enc.enc (r_3 : Bool))) [Enc.enc (g_1 : (Int × (List (Int × Int))))] (ta_cons (v := (.agg [(.int .i64 g_1.1), (Enc.enc (g_1.2 : List (Int × Int)))])) rfl rfl (Enc.erase_enc (g_1 : (Int × (List (Int × Int))))) ta_nil) (H.c53 _ _ E_r_3) H.g53 rfl rfl rfl rfl ?_
  refine g_v1 (t := 8) (u := (.bool r_3)) (.bool (!r_3)) rfl rfl rfl ?_
  refine g_end ?_
  refine e_end ?_
  refine renew [(1, (Enc.enc (proof_2 : List (S3 (List Int) Int (List Int))))), (2, (.ref (.bx 2) 0 [] (.agg [(.int .i64 g_1.1), (Enc.enc (g_1.2 : List (Int × Int)))]))), (4, (.bool false)), (5, (.bool false)), (9, (.bool (!r_3)))] ⟨h1, h2, h4, h5, rfl⟩ ?_
  rintro s ⟨h1, h2, h4, h5, h9⟩
  refine .nsq ?_
  refine run_cond (t := (!r_3)) h9 h (fun h => ?_) (fun h => ?_)
  · refine .seq ?_
    refine run_reg ?_
    refine e_end ?_
    refine g_v0 (.bool false) rfl rfl ?_
    refine g_v0 (.bool false) rfl rfl ?_
    refine g_end ?_
    refine e_end ?_
    refine renew [(1, (Enc.enc (proof_2 : List (S3 (List Int) Int (List Int))))), (2, (.ref (.bx 2) 0 [] (.agg [(.int .i64 g_1.1), (Enc.enc (g_1.2 : List (Int × Int)))]))), (4, (.bool false)), (5, (.bool false))] ⟨h1, h2, rfl, rfl⟩ ?_
    rintro s ⟨h1, h2, h4, h5⟩
    refine .nsq ?_
    refine .ret ?_
    have hr := Option.some.inj h
    subst hr
    exact rrB (res_tmp h4) (res_tmp h5) rfl
  · refine .skip ?_
    refine .nsq ?_
    refine .seq ?_
    refine .seq ?_
    refine run_reg ?_
    refine e_end ?_
    refine g_v1 (t := 1) (u := (Enc.enc (proof_2 : List (S3 (List Int) Int (List Int))))) (Enc.enc (proof_2 : List (S3 (List Int) Int (List Int)))) h1 rfl rfl ?_
    refine g_v (.int .i64 (proof_2.length : Int)) (ev_len (xs := proof_2) rfl) ?_
    obtain ⟨r_4, E_r_4, h⟩ := bind_some h
    refine g_call (m := 0) (al := false) (r := (Enc.enc (r_4 : Bool))) [Enc.enc ((proof_2.length : Int) : Int), Enc.enc (1 : Int), Enc.enc (200 : Int)] (ta_cons (v := (.int .i64 (proof_2.length : Int))) rfl rfl rfl (ta_cons (v := (.int .i64 1)) rfl rfl rfl (ta_cons (v := (.int .i64 200)) rfl rfl rfl ta_nil))) (H.c62 _ _ _ _ E_r_4) H.g62 rfl rfl rfl rfl ?_
    refine g_v1 (t := 12) (u := (.bool r_4)) (.bool (!r_4)) rfl rfl rfl ?_
    refine g_end ?_
    refine e_end ?_
    refine renew [(1, (Enc.enc (proof_2 : List (S3 (List Int) Int (List Int))))), (2, (.ref (.bx 2) 0 [] (.agg [(.int .i64 g_1.1), (Enc.enc (g_1.2 : List (Int × Int)))]))), (4, (.bool false)), (5, (.bool false)), (13, (.bool (!r_4)))] ⟨h1, h2, h4, h5, rfl⟩ ?_
    rintro s ⟨h1, h2, h4, h5, h13⟩
    refine .nsq ?_
    refine run_cond (t := (!r_4)) h13 h (fun h => ?_) (fun h => ?_)
    · refine .seq ?_
      refine run_reg ?_
      refine e_end ?_
      refine g_v0 (.bool false) rfl rfl ?_
      refine g_v0 (.bool true) rfl rfl ?_
      refine g_end ?_
      refine e_end ?_
      refine renew [(1, (Enc.enc (proof_2 : List (S3 (List Int) Int (List Int))))), (2, (.ref (.bx 2) 0 [] (.agg [(.int .i64 g_1.1), (Enc.enc (g_1.2 : List (Int × Int)))]))), (4, (.bool false)), (5, (.bool true))] ⟨h1, h2, rfl, rfl⟩ ?_
      rintro s ⟨h1, h2, h4, h5⟩
      refine .nsq ?_
      refine .ret ?_
      have hr := Option.some.inj h
      subst hr
      exact rrB (res_tmp h4) (res_tmp h5) rfl
    · refine .skip ?_
      refine .nsq ?_
      refine .seq ?_
      refine .seq ?_
      refine run_reg ?_
      refine e_end ?_
      refine g_v1 (t := 1) (u := (Enc.enc (proof_2 : List (S3 (List Int) Int (List Int))))) (Enc.enc (proof_2 : List (S3 (List Int) Int (List Int)))) h1 rfl rfl ?_
      refine g_v (.int .i64 (proof_2.length : Int)) (ev_len (xs := proof_2) rfl) ?_
      refine g_v0 (.int .i64 0) rfl rfl ?_
      refine g_end ?_
      refine e_end ?_
      refine renew [(1, (Enc.enc (proof_2 : List (S3 (List Int) Int (List Int))))), (2, (.ref (.bx 2) 0 [] (.agg [(.int .i64 g_1.1), (Enc.enc (g_1.2 : List (Int × Int)))]))), (4, (.bool false)), (5, (.bool false)), (15, (.int .i64 (proof_2.length : Int))), (16, (.int .i64 0))] ⟨h1, h2, h4, h5, rfl, rfl⟩ ?_
      rintro s ⟨h1, h2, h4, h5, h15, h16⟩
      refine .nsq ?_
      refine .block ?_
      refine .loop ?_
      exact t_f37_l1 H proof_2 g_1 F 0 _ ⟨h1, h2, h4, h5, h15, h16⟩ h
end
def e37 (F : Nat) : Ent := ⟨37, da (fun (x : ((Int × (List (Int × Int))) × (List (S3 (List Int) Int (List Int))) × Unit)) => i_IsDepthProof F x.1 x.2.1) (fun (r : (Bool × Bool)) => (.tup [Enc.enc (r.1 : Bool), Enc.enc (r.2 : Bool)])), 0, false, selF []⟩
theorem p37 {F : Nat} {x0 : (Int × (List (Int × Int)))} {x1 : (List (S3 (List Int) Int (List Int)))} {r : (Bool × Bool)} (h : i_IsDepthProof F x0 x1 = some r) : (e37 F).den [Enc.enc x0, Enc.enc x1] = some (.tup [Enc.enc (r.1 : Bool), Enc.enc (r.2 : Bool)]) := da_put (f := fun (x : ((Int × (List (Int × Int))) × (List (S3 (List Int) Int (List Int))) × Unit)) => i_IsDepthProof F x.1 x.2.1) (t := fun (r : (Bool × Bool)) => (.tup [Enc.enc (r.1 : Bool), Enc.enc (r.2 : Bool)])) (x0, x1, ()) h
theorem o37 {D : Den} {σ : Sig} {F : Nat} (hF : Fits2 Try.prog D σ) (H : H37 D σ F) : (e37 F).Ok Try.prog := by
  refine ⟨fun args r h => ?_, ⟨Try.f37, Try.func37, rfl, rfl⟩⟩
  obtain ⟨⟨x0, x1, _⟩, y, rfl, hy, rfl⟩ := da_open h
  exact contract_run hF (by kernel_rfl) Try.func37 rfl c37 (show 2 ≤ Try.f37.ntmps by decide) (t37 H x0 x1 _ ⟨rfl, rfl⟩ hy)
/- loop.example/g01109/laws.eqIntA2 -/
def A75_2 : AC := (AC.cond (O.t 7) AC.skip (AC.exit 0))
def A75_4 : AC := (AC.cond (O.t 16) (AC.seq (AC.reg [] [(I.mk (some 4) none false (X.v (A.mov (O.k (V.bool false)))))] []) AC.ret) AC.skip)
def A75_5 : AC := (AC.reg [] [(I.mk (some 8) none false (X.v (A.mov (O.t 5)))), (I.mk (some 9) none false (X.v (A.bin BinOp.add (O.t 8) (O.k (V.int IntKind.i64 (Int.ofNat 1)))))), (I.mk (some 5) none false (X.v (A.mov (O.t 9))))] [])
def A75_3 : AC := (AC.seq (AC.block 1 (AC.seq (AC.reg [] [(I.mk (some 10) none false (X.v (A.mov (O.t 5)))), (I.mk (some 11) none false (X.v (A.idxA (O.t 2) (O.t 10) 2 1))), (I.mk (some 12) none false (X.v (A.load Sh.s (O.t 11)))), (I.mk (some 13) none false (X.v (A.mov (O.t 5)))), (I.mk (some 14) none false (X.v (A.idxA (O.t 3) (O.t 13) 2 1))), (I.mk (some 15) none false (X.v (A.load Sh.s (O.t 14)))), (I.mk (some 16) none false (X.v (A.bin BinOp.neq (O.t 12) (O.t 15))))] []) A75_4)) A75_5)
def A75_1 : AC := (AC.seq (AC.seq (AC.reg [] [(I.mk (some 6) none false (X.v (A.mov (O.t 5)))), (I.mk (some 7) none false (X.v (A.bin BinOp.lss (O.t 6) (O.k (V.int IntKind.i64 (Int.ofNat 2))))))] []) A75_2) A75_3)
def A75_6 : AC := (AC.seq (AC.reg [] [(I.mk (some 4) none false (X.v (A.mov (O.k (V.bool true)))))] []) AC.ret)
def A75_8 : AC := (AC.block 0 (AC.loop A75_1))
def A75_7 : AC := (AC.seq (AC.seq (AC.reg [] [(I.mk (some 5) none false (X.v (A.mov (O.k (V.int IntKind.i64 (Int.ofNat 0))))))] []) A75_8) A75_6)
def A75 : AC := (AC.seq (AC.reg [.clr [2, 3]] [(I.mk (some 2) none false (X.box (O.t 0))), (I.mk (some 3) none false (X.box (O.t 1))), (I.mk (some 4) none false (X.v (A.mov (O.k (V.bool false)))))] []) A75_7)
def an75 : List An := [{ id := 0, pre := [.clr [2, 3]], ep := [], lin := [], sp := [] }]
theorem c75 : cC Try.prog Try.f75.ntmps an75 (Try.f75.body.getD .skip) = some A75 := by kernel_rfl
structure H75 (D : Den) (σ : Sig) (F : Nat) : Prop where
  mk ::
abbrev R75 (r : Bool) : (Nat → V) → Prop := RR Try.prog [.tmp 4] 0 false (Enc.enc (r : Bool))
section
variable {D : Den} {σ : Sig} {F : Nat} {r : Bool}
def w_eqIntA2_l1 (F : Nat) (a_1 : (Int × Int)) (b_2 : (Int × Int))  : Nat → Int → Option Bool
  | 0, _ => none
  | k + 1, i_3 =>
    bif decide (i_3 < 2) then
      (idx [a_1.1, a_1.2] i_3).bind fun e_6 =>
      (idx [b_2.1, b_2.2] i_3).bind fun e_7 =>
      bif (e_6 != e_7) then
        some false
      else
        (w_eqIntA2_l1 F a_1 b_2 k) (w64 (i_3 + 1))
    else
      some true
theorem t_f75_l1 (H : H75 D σ F) (a_1 : (Int × Int)) (b_2 : (Int × Int))  : ∀ (k : Nat) (i_3 : Int) (s : Nat → V), Facts [(2, (.ref (.bx 2) 0 [] (.agg [(.int .i64 a_1.1), (.int .i64 a_1.2)]))), (3, (.ref (.bx 3) 0 [] (.agg [(.int .i64 b_2.1), (.int .i64 b_2.2)]))), (4, (.bool false)), (5, (.int .i64 i_3))] s → w_eqIntA2_l1 F a_1 b_2 k i_3 = some r → Run D σ (R75 r) (.run A75_1 [.lp A75_1, .bk 0, .sq A75_6]) s := by
  intro k
  induction k with
  | zero => intro i_3 s _ h; exact nomatch (h : (none : Option _) = some r)
  | succ k ih =>
    intro i_3 s hs h
    rw [w_eqIntA2_l1] at h
    obtain ⟨h2, h3, h4, h5⟩ := hs
    refine .seq ?_
    refine .seq ?_
    refine run_reg ?_
    refine e_end ?_
    refine g_v1 (t := 5) (u := (.int .i64 i_3)) (.int .i64 i_3) h5 rfl rfl ?_
    refine g_v1 (t := 6) (u := (.int .i64 i_3)) (.bool (decide (i_3 < 2))) rfl rfl rfl ?_
    refine g_end ?_
    refine e_end ?_
    refine renew [(2, (.ref (.bx 2) 0 [] (.agg [(.int .i64 a_1.1), (.int .i64 a_1.2)]))), (3, (.ref (.bx 3) 0 [] (.agg [(.int .i64 b_2.1), (.int .i64 b_2.2)]))), (4, (.bool false)), (5, (.int .i64 i_3)), (7, (.bool (decide (i_3 < 2))))] ⟨h2, h3, h4, h5, rfl⟩ ?_
    rintro s ⟨h2, h3, h4, h5, h7⟩
    refine .nsq ?_
    refine run_cond (t := decide (i_3 < 2)) h7 h (fun h => ?_) (fun h => ?_)
    · refine .skip ?_
      refine .nsq ?_
      refine .seq ?_
      refine .block ?_
      refine .seq ?_
      refine run_reg ?_
      refine e_end ?_
      refine g_v1 (t := 5) (u := (.int .i64 i_3)) (.int .i64 i_3) h5 rfl rfl ?_
      obtain ⟨e_6, E_e_6, h⟩ := bind_some h
      refine g_v (.ref (.bx 2) 0 [i_3.toNat] (.int .i64 e_6)) (ev_idxA (xs := [a_1.1, a_1.2]) (a := e_6) (n := i_3) (q := []) h2 rfl E_e_6 rfl rfl rfl) ?_
      refine g_v1 (t := 11) (u := (.ref (.bx 2) 0 [i_3.toNat] (.int .i64 e_6))) (.int .i64 e_6) rfl rfl rfl ?_
      refine g_v1 (t := 5) (u := (.int .i64 i_3)) (.int .i64 i_3) h5 rfl rfl ?_
      obtain ⟨e_7, E_e_7, h⟩ := bind_some h
      refine g_v (.ref (.bx 3) 0 [i_3.toNat] (.int .i64 e_7)) (ev_idxA (xs := [b_2.1, b_2.2]) (a := e_7) (n := i_3) (q := []) h3 rfl E_e_7 rfl rfl rfl) ?_
      refine g_v1 (t := 14) (u := (.ref (.bx 3) 0 [i_3.toNat] (.int .i64 e_7))) (.int .i64 e_7) rfl rfl rfl ?_
      refine g_v2 (t1 := 12) (t2 := 15) (u1 := (.int .i64 e_6)) (u2 := (.int .i64 e_7)) (.bool (e_6 != e_7)) rfl rfl rfl rfl ?_
      refine g_end ?_
      refine e_end ?_
      refine renew [(2, (.ref (.bx 2) 0 [] (.agg [(.int .i64 a_1.1), (.int .i64 a_1.2)]))), (3, (.ref (.bx 3) 0 [] (.agg [(.int .i64 b_2.1), (.int .i64 b_2.2)]))), (4, (.bool false)), (5, (.int .i64 i_3)), (16, (.bool (e_6 != e_7)))] ⟨h2, h3, h4, h5, rfl⟩ ?_
      rintro s ⟨h2, h3, h4, h5, h16⟩
      refine .nsq ?_
      refine run_cond (t := (e_6 != e_7)) h16 h (fun h => ?_) (fun h => ?_)
      · refine .seq ?_
        refine run_reg ?_
        refine e_end ?_
        refine g_v0 (.bool false) rfl rfl ?_
        refine g_end ?_
        refine e_end ?_
        refine renew [(2, (.ref (.bx 2) 0 [] (.agg [(.int .i64 a_1.1), (.int .i64 a_1.2)]))), (3, (.ref (.bx 3) 0 [] (.agg [(.int .i64 b_2.1), (.int .i64 b_2.2)]))), (4, (.bool false)), (5, (.int .i64 i_3))] ⟨h2, h3, rfl, h5⟩ ?_
        rintro s ⟨h2, h3, h4, h5⟩
        refine .nsq ?_
        refine .ret ?_
        have hr := Option.some.inj h
        subst hr
        exact rrA (res_tmp h4) rfl
      · refine .skip ?_
        refine .nbk ?_
        refine .nsq ?_
        refine run_reg ?_
        refine e_end ?_
        refine g_v1 (t := 5) (u := (.int .i64 i_3)) (.int .i64 i_3) h5 rfl rfl ?_
        refine g_v1 (t := 8) (u := (.int .i64 i_3)) (.int .i64 (w64 (i_3 + 1))) rfl rfl rfl ?_
        refine g_v1 (t := 9) (u := (.int .i64 (w64 (i_3 + 1)))) (.int .i64 (w64 (i_3 + 1))) rfl rfl rfl ?_
        refine g_end ?_
        refine e_end ?_
        refine renew [(2, (.ref (.bx 2) 0 [] (.agg [(.int .i64 a_1.1), (.int .i64 a_1.2)]))), (3, (.ref (.bx 3) 0 [] (.agg [(.int .i64 b_2.1), (.int .i64 b_2.2)]))), (4, (.bool false)), (5, (.int .i64 (w64 (i_3 + 1))))] ⟨h2, h3, h4, rfl⟩ ?_
        rintro s ⟨h2, h3, h4, h5⟩
        refine .nlp ?_
        exact ih (w64 (i_3 + 1)) _ ⟨h2, h3, h4, h5⟩ h
    · refine .exit ?_
      refine .esq ?_
      refine .elp ?_
      refine .ebk ?_
      refine .nsq ?_
      refine .seq ?_
      refine run_reg ?_
      refine e_end ?_
      refine g_v0 (.bool true) rfl rfl ?_
      refine g_end ?_
      refine e_end ?_
      refine renew [(4, (.bool true))] rfl ?_
      rintro s h4
      refine .nsq ?_
      refine .ret ?_
      have hr := Option.some.inj h
      subst hr
      exact rrA (res_tmp h4) rfl
def w_eqIntA2 (F : Nat) (a_1 : (Int × Int)) (b_2 : (Int × Int)) : Option Bool :=
  w_eqIntA2_l1 F a_1 b_2 F 0
theorem t75 (H : H75 D σ F) (a_1 : (Int × Int)) (b_2 : (Int × Int)) (s : Nat → V) (hs : Facts [(0, (.agg [(.int .i64 a_1.1), (.int .i64 a_1.2)])), (1, (.agg [(.int .i64 b_2.1), (.int .i64 b_2.2)]))] s) (h : w_eqIntA2 F a_1 b_2 = some r) : Run D σ (R75 r) (.run A75 []) s := by
  unfold w_eqIntA2 at h
  obtain ⟨h0, h1⟩ := hs
  refine .seq ?_
  refine run_reg ?_
  refine e_clr ?_
  refine e_end ?_
  refine g_box (.agg [(.int .i64 a_1.1), (.int .i64 a_1.2)]) (rd_of (keep_clear (s := s) (pk := [2, 3]) h0 rfl (map_agg (maps_cons rfl (maps_cons rfl maps_nil)))) rfl) (gone_clear (s := s) (pk := [2, 3]) (t := 2) rfl) rfl ?_
  refine g_box (.agg [(.int .i64 b_2.1), (.int .i64 b_2.2)]) (rd_of (keep_clear (s := s) (pk := [2, 3]) h1 rfl (map_agg (maps_cons rfl (maps_cons rfl maps_nil)))) rfl) (gone_clear (s := s) (pk := [2, 3]) (t := 3) rfl) rfl ?_
  refine g_v0 (.bool false) rfl rfl ?_
  refine g_end ?_
  refine e_end ?_
  refine renew [(2, (.ref (.bx 2) 0 [] (.agg [(.int .i64 a_1.1), (.int .i64 a_1.2)]))), (3, (.ref (.bx 3) 0 [] (.agg [(.int .i64 b_2.1), (.int .i64 b_2.2)]))), (4, (.bool false))] ⟨rfl, rfl, rfl⟩ ?_
  rintro s ⟨h2, h3, h4⟩
  refine .nsq ?_
  refine .seq ?_
  refine .seq ?_
  refine run_reg ?_
  refine e_end ?_
  refine g_v0 (.int .i64 0) rfl rfl ?_
  refine g_end ?_
  refine e_end ?_
  refine renew [(2, (.ref (.bx 2) 0 [] (.agg [(.int .i64 a_1.1), (.int .i64 a_1.2)]))), (3, (.ref (.bx 3) 0 [] (.agg [(.int .i64 b_2.1), (.int .i64 b_2.2)]))), (4, (.bool false)), (5, (.int .i64 0))] ⟨h2, h3, h4, rfl⟩ ?_
  rintro s ⟨h2, h3, h4, h5⟩
  refine .nsq ?_
  refine .block ?_
  refine .loop ?_
  exact t_f75_l1 H a_1 b_2 F 0 _ ⟨h2, h3, h4, h5⟩ h
end
def e75 (F : Nat) : Ent := ⟨75, da (fun (x : ((Int × Int) × (Int × Int) × Unit)) => w_eqIntA2 F x.1 x.2.1) (fun (r : Bool) => (Enc.enc (r : Bool))), 0, false, selF []⟩
theorem p75 {F : Nat} {x0 : (Int × Int)} {x1 : (Int × Int)} {r : Bool} (h : w_eqIntA2 F x0 x1 = some r) : (e75 F).den [Enc.enc x0, Enc.enc x1] = some (Enc.enc (r : Bool)) := da_put (f := fun (x : ((Int × Int) × (Int × Int) × Unit)) => w_eqIntA2 F x.1 x.2.1) (t := fun (r : Bool) => (Enc.enc (r : Bool))) (x0, x1, ()) h
theorem o75 {D : Den} {σ : Sig} {F : Nat} (hF : Fits2 Try.prog D σ) (H : H75 D σ F) : (e75 F).Ok Try.prog := by
  refine ⟨fun args r h => ?_, ⟨Try.f75, Try.func75, rfl, rfl⟩⟩
  obtain ⟨⟨x0, x1, _⟩, y, rfl, hy, rfl⟩ := da_open h
  exact contract_run hF (by kernel_rfl) Try.func75 rfl c75 (show 2 ≤ Try.f75.ntmps by decide) (t75 H x0 x1 _ ⟨rfl, rfl⟩ hy)
/- loop.example/g01109/laws.eqIntA2S -/
def A48_2 : AC := (AC.cond (O.t 14) AC.skip (AC.exit 0))
def A48_4 : AC := (AC.cond (O.t 26) (AC.seq (AC.reg [] [(I.mk (some 4) none false (X.v (A.mov (O.k (V.bool false)))))] []) AC.ret) AC.skip)
def A48_5 : AC := (AC.reg [] [(I.mk (some 15) none false (X.v (A.mov (O.t 5)))), (I.mk (some 16) none false (X.v (A.bin BinOp.add (O.t 15) (O.k (V.int IntKind.i64 (Int.ofNat 1)))))), (I.mk (some 5) none false (X.v (A.mov (O.t 16))))] [])
def A48_3 : AC := (AC.seq (AC.block 1 (AC.seq (AC.reg [] [(I.mk (some 17) none false (X.v (A.mov (O.t 0)))), (I.mk (some 18) none false (X.v (A.mov (O.t 5)))), (I.mk (some 19) none false (X.v (A.idx (O.t 17) (O.t 18) 2))), (I.mk (some 20) none false (X.v (A.load (Sh.ag [Sh.s, Sh.s]) (O.t 19)))), (I.mk (some 21) none false (X.v (A.mov (O.t 1)))), (I.mk (some 22) none false (X.v (A.mov (O.t 5)))), (I.mk (some 23) none false (X.v (A.idx (O.t 21) (O.t 22) 2))), (I.mk (some 24) none false (X.v (A.load (Sh.ag [Sh.s, Sh.s]) (O.t 23)))), (I.mk (some 25) none false (X.call (O.k (V.fn 75 [] [])) [(O.t 20), (O.t 24)])), (I.mk (some 26) none false (X.v (A.un UnOp.not (O.t 25))))] []) A48_4)) A48_5)
def A48_1 : AC := (AC.seq (AC.seq (AC.reg [] [(I.mk (some 11) none false (X.v (A.mov (O.t 5)))), (I.mk (some 12) none false (X.v (A.mov (O.t 0)))), (I.mk (some 13) none false (X.v (A.len (O.t 12)))), (I.mk (some 14) none false (X.v (A.bin BinOp.lss (O.t 11) (O.t 13))))] []) A48_2) A48_3)
def A48_6 : AC := (AC.seq (AC.reg [] [(I.mk (some 4) none false (X.v (A.mov (O.k (V.bool true)))))] []) AC.ret)
def A48_8 : AC := (AC.cond (O.t 10) (AC.seq (AC.reg [] [(I.mk (some 4) none false (X.v (A.mov (O.k (V.bool false)))))] []) AC.ret) AC.skip)
def A48_10 : AC := (AC.block 0 (AC.loop A48_1))
def A48_9 : AC := (AC.seq (AC.seq (AC.reg [] [(I.mk (some 5) none false (X.v (A.mov (O.k (V.int IntKind.i64 (Int.ofNat 0))))))] []) A48_10) A48_6)
def A48_7 : AC := (AC.seq (AC.seq (AC.reg [] [(I.mk (some 6) none false (X.v (A.mov (O.t 0)))), (I.mk (some 7) none false (X.v (A.len (O.t 6)))), (I.mk (some 8) none false (X.v (A.mov (O.t 1)))), (I.mk (some 9) none false (X.v (A.len (O.t 8)))), (I.mk (some 10) none false (X.v (A.bin BinOp.neq (O.t 7) (O.t 9))))] []) A48_8) A48_9)
def A48 : AC := (AC.seq (AC.reg [] [(I.mk (some 4) none false (X.v (A.mov (O.k (V.bool false)))))] []) A48_7)
def an48 : List An := []
theorem c48 : cC Try.prog Try.f48.ntmps an48 (Try.f48.body.getD .skip) = some A48 := by kernel_rfl
structure H48 (D : Den) (σ : Sig) (F : Nat) : Prop where
  c75 : ∀ (x0 : (Int × Int)) (x1 : (Int × Int)) r, w_eqIntA2 F x0 x1 = some r → D 75 [Enc.enc x0, Enc.enc x1] = some (Enc.enc (r : Bool))
  g75 : σ 75 = some (0, false)
abbrev R48 (r : Bool) : (Nat → V) → Prop := RR Try.prog [.tmp 4] 0 false (Enc.enc (r : Bool))
section
variable {D : Den} {σ : Sig} {F : Nat} {r : Bool}
def w_eqIntA2S_l1 (F : Nat) (a_1 : (List (Int × Int))) (b_2 : (List (Int × Int)))  : Nat → Int → Option Bool
  | 0, _ => none
  | k + 1, i_6 =>
    bif decide (i_6 < (a_1.length : Int)) then
      (idx a_1 i_6).bind fun e_10 =>
      (idx b_2 i_6).bind fun e_11 =>
      (w_eqIntA2 F e_10 e_11).bind fun r_12 =>
      bif (!r_12) then
        some false
      else
        (w_eqIntA2S_l1 F a_1 b_2 k) (w64 (i_6 + 1))
    else
      some true
theorem t_f48_l1 (H : H48 D σ F) (a_1 : (List (Int × Int))) (b_2 : (List (Int × Int)))  : ∀ (k : Nat) (i_6 : Int) (s : Nat → V), Facts [(0, (Enc.enc (a_1 : List (Int × Int)))), (1, (Enc.enc (b_2 : List (Int × Int)))), (4, (.bool false)), (5, (.int .i64 i_6))] s → w_eqIntA2S_l1 F a_1 b_2 k i_6 = some r → Run D σ (R48 r) (.run A48_1 [.lp A48_1, .bk 0, .sq A48_6]) s := by
  intro k
  induction k with
  | zero => intro i_6 s _ h; exact nomatch (h : (none : Option _) = some r)
  | succ k ih =>
    intro i_6 s hs h
    rw [w_eqIntA2S_l1] at h
    obtain ⟨h0, h1, h4, h5⟩ := hs
    refine .seq ?_
    refine .seq ?_
    refine run_reg ?_
    refine e_end ?_
    refine g_v1 (t := 5) (u := (.int .i64 i_6)) (.int .i64 i_6) h5 rfl rfl ?_
    refine g_v1 (t := 0) (u := (Enc.enc (a_1 : List (Int × Int)))) (Enc.enc (a_1 : List (Int × Int))) h0 rfl rfl ?_
    refine g_v (.int .i64 (a_1.length : Int)) (ev_len (xs := a_1) rfl) ?_
    refine g_v2 (t1 := 11) (t2 := 13) (u1 := (.int .i64 i_6)) (u2 := (.int .i64 (a_1.length : Int))) (.bool (decide (i_6 < (a_1.length : Int)))) rfl rfl rfl rfl ?_
    refine g_end ?_
    refine e_end ?_
    refine renew [(0, (Enc.enc (a_1 : List (Int × Int)))), (1, (Enc.enc (b_2 : List (Int × Int)))), (4, (.bool false)), (5, (.int .i64 i_6)), (14, (.bool (decide (i_6 < (a_1.length : Int)))))] ⟨h0, h1, h4, h5, rfl⟩ ?_
    rintro s ⟨h0, h1, h4, h5, h14⟩
    refine .nsq ?_
    refine run_cond (t := decide (i_6 < (a_1.length : Int))) h14 h (fun h => ?_) (fun h => ?_)
    · refine .skip ?_
      refine .nsq ?_
      refine .seq ?_
      refine .block ?_
      refine .seq ?_
      refine run_reg ?_
      refine e_end ?_
      refine g_v1 (t := 0) (u := (Enc.enc (a_1 : List (Int × Int)))) (Enc.enc (a_1 : List (Int × Int))) h0 rfl rfl ?_
      refine g_v1 (t := 5) (u := (.int .i64 i_6)) (.int .i64 i_6) h5 rfl rfl ?_
      obtain ⟨e_10, E_e_10, h⟩ := bind_some h
      refine g_v (.ref .sh 0 [] (.agg [(.int .i64 e_10.1), (.int .i64 e_10.2)])) (ev_idx (t := .sh) (lo := 0) (xs := a_1) rfl rfl E_e_10 rfl rfl) ?_
      refine g_v1 (t := 19) (u := (.ref .sh 0 [] (.agg [(.int .i64 e_10.1), (.int .i64 e_10.2)]))) (.agg [(.int .i64 e_10.1), (.int .i64 e_10.2)]) rfl rfl rfl ?_
      refine g_v1 (t := 1) (u := (Enc.enc (b_2 : List (Int × Int)))) (Enc.enc (b_2 : List (Int × Int))) h1 rfl rfl ?_
      refine g_v1 (t := 5) (u := (.int .i64 i_6)) (.int .i64 i_6) h5 rfl rfl ?_
      obtain ⟨e_11, E_e_11, h⟩ := bind_some h
      refine g_v (.ref .sh 0 [] (.agg [(.int .i64 e_11.1), (.int .i64 e_11.2)])) (ev_idx (t := .sh) (lo := 0) (xs := b_2) rfl rfl E_e_11 rfl rfl) ?_
      refine g_v1 (t := 23) (u := (.ref .sh 0 [] (.agg [(.int .i64 e_11.1), (.int .i64 e_11.2)]))) (.agg [(.int .i64 e_11.1), (.int .i64 e_11.2)]) rfl rfl rfl ?_
      obtain ⟨r_12, E_r_12, h⟩ := bind_some h
      refine g_call (m := 0) (al := false) (r := (Enc.enc (r_12 : Bool))) [Enc.enc (e_10 : (Int × Int)), Enc.enc (e_11 : (Int × Int))] (ta_cons (v := (.agg [(.int .i64 e_10.1), (.int .i64 e_10.2)])) rfl rfl (Enc.erase_enc (e_10 : (Int × Int))) (ta_cons (v := (.agg [(.int .i64 e_11.1), (.int .i64 e_11.2)])) rfl rfl (Enc.erase_enc (e_11 : (Int × Int))) ta_nil)) (H.c75 _ _ _ E_r_12) H.g75 rfl rfl rfl rfl ?_
      refine g_v1 (t := 25) (u := (.bool r_12)) (.bool (!r_12)) rfl rfl rfl ?_
      refine g_end ?_
      refine e_end ?_
      refine renew [(0, (Enc.enc (a_1 : List (Int × Int)))), (1, (Enc.enc (b_2 : List (Int × Int)))), (4, (.bool false)), (5, (.int .i64 i_6)), (26, (.bool (!r_12)))] ⟨h0, h1, h4, h5, rfl⟩ ?_
      rintro s ⟨h0, h1, h4, h5, h26⟩
      refine .nsq ?_
      refine run_cond (t := (!r_12)) h26 h (fun h => ?_) (fun h => ?_)
      · refine .seq ?_
        refine run_reg ?_
        refine e_end ?_
        refine g_v0 (.bool false) rfl rfl ?_
        refine g_end ?_
        refine e_end ?_
        refine renew [(0, (Enc.enc (a_1 : List (Int × Int)))), (1, (Enc.enc (b_2 : List (Int × Int)))), (4, (.bool false)), (5, (.int .i64 i_6))] ⟨h0, h1, rfl, h5⟩ ?_
        rintro s ⟨h0, h1, h4, h5⟩
        refine .nsq ?_
        refine .ret ?_
        have hr := Option.some.inj h
        subst hr
        exact rrA (res_tmp h4) rfl
      · refine .skip ?_
        refine .nbk ?_
        refine .nsq ?_
        refine run_reg ?_
        refine e_end ?_
        refine g_v1 (t := 5) (u := (.int .i64 i_6)) (.int .i64 i_6) h5 rfl rfl ?_
        refine g_v1 (t := 15) (u := (.int .i64 i_6)) (.int .i64 (w64 (i_6 + 1))) rfl rfl rfl ?_
        refine g_v1 (t := 16) (u := (.int .i64 (w64 (i_6 + 1)))) (.int .i64 (w64 (i_6 + 1))) rfl rfl rfl ?_
        refine g_end ?_
        refine e_end ?_
        refine renew [(0, (Enc.enc (a_1 : List (Int × Int)))), (1, (Enc.enc (b_2 : List (Int × Int)))), (4, (.bool false)), (5, (.int .i64 (w64 (i_6 + 1))))] ⟨h0, h1, h4, rfl⟩ ?_
        rintro s ⟨h0, h1, h4, h5⟩
        refine .nlp ?_
        exact ih (w64 (i_6 + 1)) _ ⟨h0, h1, h4, h5⟩ h
    · refine .exit ?_
      refine .esq ?_
      refine .elp ?_
      refine .ebk ?_
      refine .nsq ?_
      refine .seq ?_
      refine run_reg ?_
      refine e_end ?_
      refine g_v0 (.bool true) rfl rfl ?_
      refine g_end ?_
      refine e_end ?_
      refine renew [(4, (.bool true))] rfl ?_
      rintro s h4
      refine .nsq ?_
      refine .ret ?_
      have hr := Option.some.inj h
      subst hr
      exact rrA (res_tmp h4) rfl
def w_eqIntA2S (F : Nat) (a_1 : (List (Int × Int))) (b_2 : (List (Int × Int))) : Option Bool :=
  bif ((a_1.length : Int) != (b_2.length : Int)) then
    some false
  else
    w_eqIntA2S_l1 F a_1 b_2 F 0
theorem t48 (H : H48 D σ F) (a_1 : (List (Int × Int))) (b_2 : (List (Int × Int))) (s : Nat → V) (hs : Facts [(0, (Enc.enc (a_1 : List (Int × Int)))), (1, (Enc.enc (b_2 : List (Int × Int))))] s) (h : w_eqIntA2S F a_1 b_2 = some r) : Run D σ (R48 r) (.run A48 []) s := by
  unfold w_eqIntA2S at h
  obtain ⟨h0, h1⟩ := hs
  refine .seq ?_
  refine run_reg ?_
  refine e_end ?_
  refine g_v0 (.bool false) rfl rfl ?_
  refine g_end ?_
  refine e_end ?_
  refine renew [(0, (Enc.enc (a_1 : List (Int × Int)))), (1, (Enc.enc (b_2 : List (Int × Int)))), (4, (.bool false))] ⟨h0, h1, rfl⟩ ?_
  rintro s ⟨h0, h1, h4⟩
  refine .nsq ?_
  refine .seq ?_
  refine .seq ?_
  refine run_reg ?_
  refine e_end ?_
  refine g_v1 (t := 0) (u := (Enc.enc (a_1 : List (Int × Int)))) (Enc.enc (a_1 : List (Int × Int))) h0 rfl rfl ?_
  refine g_v (.int .i64 (a_1.length : Int)) (ev_len (xs := a_1) rfl) ?_
  refine g_v1 (t := 1) (u := (Enc.enc (b_2 : List (Int × Int)))) (Enc.enc (b_2 : List (Int × Int))) h1 rfl rfl ?_
  refine g_v (.int .i64 (b_2.length : Int)) (ev_len (xs := b_2) rfl) ?_
  refine g_v2 (t1 := 7) (t2 := 9) (u1 := (.int .i64 (a_1.length : Int))) (u2 := (.int .i64 (b_2.length : Int))) (.bool ((a_1.length : Int) != (b_2.length : Int))) rfl rfl rfl rfl ?_
  refine g_end ?_
  refine e_end ?_
  refine renew [(0, (Enc.enc (a_1 : List (Int × Int)))), (1, (Enc.enc (b_2 : List (Int × Int)))), (4, (.bool false)), (10, (.bool ((a_1.length : Int) != (b_2.length : Int))))] ⟨h0, h1, h4, rfl⟩ ?_
  rintro s ⟨h0, h1, h4, h10⟩
  refine .nsq ?_
  refine run_cond (t := ((a_1.length : Int) != (b_2.length : Int))) h10 h (fun h => ?_) (fun h => ?_)
  · refine .seq ?_
    refine run_reg ?_
    refine e_end ?_
    refine g_v0 (.bool false) rfl rfl ?_
    refine g_end ?_
    refine e_end ?_
    refine renew [(0, (Enc.enc (a_1 : List (Int × Int)))), (1, (Enc.enc (b_2 : List (Int × Int)))), (4, (.bool false))] ⟨h0, h1, rfl⟩ ?_
    rintro s ⟨h0, h1, h4⟩
    refine .nsq ?_
    refine .ret ?_
    have hr := Option.some.inj h
    subst hr
    exact rrA (res_tmp h4) rfl
  · refine .skip ?_
    refine .nsq ?_
    refine .seq ?_
    refine .seq ?_
    refine run_reg ?_
    refine e_end ?_
    refine g_v0 (.int .i64 0) rfl rfl ?_
    refine g_end ?_
    refine e_end ?_
    refine renew [(0, (Enc.enc (a_1 : List (Int × Int)))), (1, (Enc.enc (b_2 : List (Int × Int)))), (4, (.bool false)), (5, (.int .i64 0))] ⟨h0, h1, h4, rfl⟩ ?_
    rintro s ⟨h0, h1, h4, h5⟩
    refine .nsq ?_
    refine .block ?_
    refine .loop ?_
    exact t_f48_l1 H a_1 b_2 F 0 _ ⟨h0, h1, h4, h5⟩ h
end
def e48 (F : Nat) : Ent := ⟨48, da (fun (x : ((List (Int × Int)) × (List (Int × Int)) × Unit)) => w_eqIntA2S F x.1 x.2.1) (fun (r : Bool) => (Enc.enc (r : Bool))), 0, false, selF []⟩
theorem p48 {F : Nat} {x0 : (List (Int × Int))} {x1 : (List (Int × Int))} {r : Bool} (h : w_eqIntA2S F x0 x1 = some r) : (e48 F).den [Enc.enc x0, Enc.enc x1] = some (Enc.enc (r : Bool)) := da_put (f := fun (x : ((List (Int × Int)) × (List (Int × Int)) × Unit)) => w_eqIntA2S F x.1 x.2.1) (t := fun (r : Bool) => (Enc.enc (r : Bool))) (x0, x1, ()) h
theorem o48 {D : Den} {σ : Sig} {F : Nat} (hF : Fits2 Try.prog D σ) (H : H48 D σ F) : (e48 F).Ok Try.prog := by
  refine ⟨fun args r h => ?_, ⟨Try.f48, Try.func48, rfl, rfl⟩⟩
  obtain ⟨⟨x0, x1, _⟩, y, rfl, hy, rfl⟩ := da_open h
  exact contract_run hF (by kernel_rfl) Try.func48 rfl c48 (show 2 ≤ Try.f48.ntmps by decide) (t48 H x0 x1 _ ⟨rfl, rfl⟩ hy)
end Go.Zq
