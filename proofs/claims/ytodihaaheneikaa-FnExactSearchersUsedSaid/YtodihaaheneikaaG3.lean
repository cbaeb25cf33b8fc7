/- Functions of the program as typed functions, and that the machine runs as they say (part 3). No further condition. -/
import Derived.Test.YtodihaaheneikaaK2
import Derived.Test.YtodihaaheneikaaProg
import Derived.Test.YtodihaaheneikaaChecked
import Derived.KernelRfl
import Derived.Test.YtodihaaheneikaaG2
set_option linter.unusedVariables false
set_option linter.unusedSimpArgs false
/- Functions of the program, as typed functions, and that the machine runs as they say. -/
namespace Go.Zq
open Go.Proofs
/- loop.example/g01109/impl.IsGraph -/
def A53_5 : AC := (AC.cond (O.t 48) (AC.seq (AC.reg [] [(I.mk (some 2) none false (X.v (A.mov (O.k (V.bool false)))))] []) AC.ret) AC.skip)
def A53_4 : AC := (AC.seq (AC.reg [] [(I.mk (some 17) none false (X.v (A.idxA (O.t 4) (O.k (V.int IntKind.i64 (Int.ofNat 0))) 2 1))), (I.mk (some 18) none false (X.v (A.load Sh.s (O.t 17)))), (I.mk (some 19) none false (X.v (A.bin BinOp.lss (O.t 18) (O.k (V.int IntKind.i64 (Int.ofNat 0)))))), (I.mk (some 20) none false (X.v (A.mov (O.t 19)))), (I.mk (some 21) (some (20, false)) false (X.v (A.idxA (O.t 4) (O.k (V.int IntKind.i64 (Int.ofNat 0))) 2 1))), (I.mk (some 22) (some (20, false)) false (X.v (A.load Sh.s (O.t 21)))), (I.mk (some 23) (some (20, false)) false (X.v (A.idxA (O.t 4) (O.k (V.int IntKind.i64 (Int.ofNat 1))) 2 1))), (I.mk (some 24) (some (20, false)) false (X.v (A.load Sh.s (O.t 23)))), (I.mk (some 25) (some (20, false)) false (X.v (A.bin BinOp.geq (O.t 22) (O.t 24)))), (I.mk (some 26) none false (X.v (A.pick (O.t 20) (O.k (V.bool true)) (O.t 25)))), (I.mk (some 27) none false (X.v (A.mov (O.t 26)))), (I.mk (some 28) (some (27, false)) false (X.v (A.idxA (O.t 4) (O.k (V.int IntKind.i64 (Int.ofNat 1))) 2 1))), (I.mk (some 29) (some (27, false)) false (X.v (A.load Sh.s (O.t 28)))), (I.mk (some 30) (some (27, false)) false (X.v (A.fld (O.t 1) 0 0))), (I.mk (some 31) (some (27, false)) false (X.v (A.load Sh.s (O.t 30)))), (I.mk (some 32) (some (27, false)) false (X.v (A.bin BinOp.geq (O.t 29) (O.t 31)))), (I.mk (some 33) none false (X.v (A.pick (O.t 27) (O.k (V.bool true)) (O.t 32)))), (I.mk (some 34) none false (X.v (A.mov (O.t 33)))), (I.mk (some 35) (some (34, false)) false (X.v (A.mov (O.t 3)))), (I.mk (some 36) (some (34, false)) false (X.v (A.bin BinOp.gtr (O.t 35) (O.k (V.int IntKind.i64 (Int.ofNat 0)))))), (I.mk (some 37) (some (34, false)) false (X.v (A.mov (O.t 36)))), (I.mk (some 38) (some (37, true)) false (X.v (A.fld (O.t 1) 1 1))), (I.mk (some 39) (some (37, true)) false (X.v (A.load Sh.p (O.t 38)))), (I.mk (some 40) (some (37, true)) false (X.v (A.mov (O.t 3)))), (I.mk (some 41) (some (37, true)) false (X.v (A.bin BinOp.sub (O.t 40) (O.k (V.int IntKind.i64 (Int.ofNat 1)))))), (I.mk (some 42) (some (37, true)) false (X.v (A.idx (O.t 39) (O.t 41) 2))), (I.mk (some 43) (some (37, true)) false (X.v (A.sliceA (O.t 42) 2 Sh.s))), (I.mk (some 44) (some (37, true)) false (X.v (A.sliceA (O.t 4) 2 Sh.s))), (I.mk (some 45) (some (37, true)) false (X.call (O.k (V.fn 81 [] [])) [(O.t 43), (O.t 44)])), (I.mk (some 46) (some (37, true)) false (X.v (A.bin BinOp.geq (O.t 45) (O.k (V.int IntKind.i64 (Int.ofNat 0)))))), (I.mk (some 47) (some (34, false)) false (X.v (A.pick (O.t 37) (O.t 46) (O.k (V.bool false))))), (I.mk (some 48) none false (X.v (A.pick (O.t 34) (O.k (V.bool true)) (O.t 47))))] []) A53_5)
def A53_6 : AC := (AC.reg [] [(I.mk (some 49) none false (X.v (A.bin BinOp.add (O.t 12) (O.k (V.int IntKind.i64 (Int.ofNat 1)))))), (I.mk (some 12) none false (X.v (A.mov (O.t 49))))] [])
def A53_3 : AC := (AC.seq (AC.block 1 (AC.seq (AC.reg [.clr [4]] [(I.mk (some 14) none false (X.v (A.mov (O.t 12)))), (I.mk (some 15) none false (X.v (A.idx (O.t 10) (O.t 12) 2))), (I.mk (some 16) none false (X.v (A.load (Sh.ag [Sh.s, Sh.s]) (O.t 15)))), (I.mk (some 4) none false (X.alloc (V.agg [(V.int IntKind.i64 (Int.ofNat 0)), (V.int IntKind.i64 (Int.ofNat 0))]))), (I.mk (some 3) none false (X.v (A.mov (O.t 14)))), (I.mk none none false (X.store (Sh.ag [Sh.s, Sh.s]) (O.t 4) (O.t 16)))] []) A53_4)) A53_6)
def A53_2 : AC := (AC.seq (AC.cond (O.t 13) AC.skip (AC.exit 0)) A53_3)
def A53_1 : AC := (AC.seq (AC.reg [] [(I.mk (some 13) none false (X.v (A.bin BinOp.lss (O.t 12) (O.t 11))))] []) A53_2)
def A53_7 : AC := (AC.seq (AC.reg [] [(I.mk (some 2) none false (X.v (A.mov (O.k (V.bool true)))))] []) AC.ret)
def A53_9 : AC := (AC.cond (O.t 8) (AC.seq (AC.reg [] [(I.mk (some 2) none false (X.v (A.mov (O.k (V.bool false)))))] []) AC.ret) AC.skip)
def A53_11 : AC := (AC.block 0 (AC.loop A53_1))
def A53_10 : AC := (AC.seq (AC.seq (AC.reg [] [(I.mk (some 9) none false (X.v (A.fld (O.t 1) 1 1))), (I.mk (some 10) none false (X.v (A.load Sh.p (O.t 9)))), (I.mk (some 11) none false (X.v (A.len (O.t 10)))), (I.mk (some 12) none false (X.v (A.mov (O.k (V.int IntKind.i64 (Int.ofNat 0))))))] []) A53_11) A53_7)
def A53_8 : AC := (AC.seq (AC.seq (AC.reg [] [(I.mk (some 5) none false (X.v (A.fld (O.t 1) 0 0))), (I.mk (some 6) none false (X.v (A.load Sh.s (O.t 5)))), (I.mk (some 7) none false (X.call (O.k (V.fn 62 [] [])) [(O.t 6), (O.k (V.int IntKind.i64 (Int.ofNat 0))), (O.k (V.int IntKind.i64 (Int.ofNat 8)))])), (I.mk (some 8) none false (X.v (A.un UnOp.not (O.t 7))))] []) A53_9) A53_10)
def A53 : AC := (AC.seq (AC.reg [.clr [1]] [(I.mk (some 1) none false (X.box (O.t 0))), (I.mk (some 2) none false (X.v (A.mov (O.k (V.bool false)))))] []) A53_8)
def an53 : List An := [{ id := 0, pre := [.clr [1]], ep := [], lin := [], sp := [] }, { id := 5, pre := [.clr [4]], ep := [], lin := [], sp := [] }]
theorem c53 : cC Try.prog Try.f53.ntmps an53 (Try.f53.body.getD .skip) = some A53 := by kernel_rfl
structure H53 (D : Den) (σ : Sig) (F : Nat) : Prop where
  c62 : ∀ (x0 : Int) (x1 : Int) (x2 : Int) r, i_within F x0 x1 x2 = some r → D 62 [Enc.enc x0, Enc.enc x1, Enc.enc x2] = some (Enc.enc (r : Bool))
  g62 : σ 62 = some (0, false)
  c81 : ∀ (x0 : (List Int)) (x1 : (List Int)) r, slices_Compare F x0 x1 = some r → D 81 [Enc.enc x0, Enc.enc x1] = some (Enc.enc (r : Int))
  g81 : σ 81 = some (0, false)
abbrev R53 (r : Bool) : (Nat → V) → Prop := RR Try.prog [.tmp 2] 0 false (Enc.enc (r : Bool))
section
variable {D : Den} {σ : Sig} {F : Nat} {r : Bool}
def i_IsGraph_j1 (F : Nat) (g_1 : (Int × (List (Int × Int)))) (t12_9 : Int) (c1 : Int → Option Bool) (t48_19 : Bool) : Option Bool :=
  bif t48_19 then
    some false
  else
    c1 (w64 (t12_9 + 1))
theorem t_f53_j1 (H : H53 D σ F) (g_1 : (Int × (List (Int × Int)))) (t12_9 : Int) (c1 : Int → Option Bool) (Hc1 : ∀ (t12_9 : Int) (s : Nat → V), Facts [(1, (.ref (.bx 1) 0 [] (.agg [(.int .i64 g_1.1), (Enc.enc (g_1.2 : List (Int × Int)))]))), (2, (.bool false)), (10, (Enc.enc (g_1.2 : List (Int × Int)))), (11, (.int .i64 (g_1.2.length : Int))), (12, (.int .i64 t12_9))] s → c1 t12_9 = some r → Run D σ (R53 r) (.run A53_1 [.lp A53_1, .bk 0, .sq A53_7]) s) (t48_19 : Bool) (s : Nat → V) (hs : Facts [(1, (.ref (.bx 1) 0 [] (.agg [(.int .i64 g_1.1), (Enc.enc (g_1.2 : List (Int × Int)))]))), (2, (.bool false)), (10, (Enc.enc (g_1.2 : List (Int × Int)))), (11, (.int .i64 (g_1.2.length : Int))), (12, (.int .i64 t12_9)), (48, (.bool t48_19))] s) (h : i_IsGraph_j1 F g_1 t12_9 c1 t48_19 = some r) : Run D σ (R53 r) (.nrm [.sq A53_5, .bk 1, .sq A53_6, .lp A53_1, .bk 0, .sq A53_7]) s := by
  unfold i_IsGraph_j1 at h
  obtain ⟨h1, h2, h10, h11, h12, h48⟩ := hs
  refine .nsq ?_
  refine run_cond (t := t48_19) h48 h (fun h => ?_) (fun h => ?_)
  · refine .seq ?_
    refine run_reg ?_
    refine e_end ?_
    refine g_v0 (.bool false) rfl rfl ?_
    refine g_end ?_
    refine e_end ?_
    refine renew [(1, (.ref (.bx 1) 0 [] (.agg [(.int .i64 g_1.1), (Enc.enc (g_1.2 : List (Int × Int)))]))), (2, (.bool false)), (10, (Enc.enc (g_1.2 : List (Int × Int)))), (11, (.int .i64 (g_1.2.length : Int))), (12, (.int .i64 t12_9))] ⟨h1, rfl, h10, h11, h12⟩ ?_
    rintro s ⟨h1, h2, h10, h11, h12⟩
    refine .nsq ?_
    refine .ret ?_
    have hr := Option.some.inj h
    subst hr
    exact rrA (res_tmp h2) rfl
  · refine .skip ?_
    refine .nbk ?_
    refine .nsq ?_
    refine run_reg ?_
    refine e_end ?_
    refine g_v1 (t := 12) (u := (.int .i64 t12_9)) (.int .i64 (w64 (t12_9 + 1))) h12 rfl rfl ?_
    refine g_v1 (t := 49) (u := (.int .i64 (w64 (t12_9 + 1)))) (.int .i64 (w64 (t12_9 + 1))) rfl rfl rfl ?_
    refine g_end ?_
    refine e_end ?_
    refine renew [(1, (.ref (.bx 1) 0 [] (.agg [(.int .i64 g_1.1), (Enc.enc (g_1.2 : List (Int × Int)))]))), (2, (.bool false)), (10, (Enc.enc (g_1.2 : List (Int × Int)))), (11, (.int .i64 (g_1.2.length : Int))), (12, (.int .i64 (w64 (t12_9 + 1))))] ⟨h1, h2, h10, h11, rfl⟩ ?_
    rintro s ⟨h1, h2, h10, h11, h12⟩
    refine .nlp ?_
    exact Hc1 (w64 (t12_9 + 1)) _ ⟨h1, h2, h10, h11, h12⟩ h
def i_IsGraph_l1 (F : Nat) (g_1 : (Int × (List (Int × Int))))  : Nat → Int → Option Bool
  | 0, _ => none
  | k + 1, t12_9 =>
    bif decide (t12_9 < (g_1.2.length : Int)) then
      (idx g_1.2 t12_9).bind fun e_16 =>
      bif decide (e_16.1 < 0) then
        i_IsGraph_j1 F g_1 t12_9 (i_IsGraph_l1 F g_1 k) true
      else
        bif decide (e_16.1 ≥ e_16.2) then
          i_IsGraph_j1 F g_1 t12_9 (i_IsGraph_l1 F g_1 k) true
        else
          bif decide (e_16.2 ≥ g_1.1) then
            i_IsGraph_j1 F g_1 t12_9 (i_IsGraph_l1 F g_1 k) true
          else
            bif decide (t12_9 > 0) then
              (idx g_1.2 (w64 (t12_9 - 1))).bind fun e_20 =>
              (slices_Compare F [e_20.1, e_20.2] [e_16.1, e_16.2]).bind fun r_21 =>
              i_IsGraph_j1 F g_1 t12_9 (i_IsGraph_l1 F g_1 k) (decide (r_21 ≥ 0))
            else
              i_IsGraph_j1 F g_1 t12_9 (i_IsGraph_l1 F g_1 k) false
    else
      some true
theorem t_f53_l1 (H : H53 D σ F) (g_1 : (Int × (List (Int × Int))))  : ∀ (k : Nat) (t12_9 : Int) (s : Nat → V), Facts [(1, (.ref (.bx 1) 0 [] (.agg [(.int .i64 g_1.1), (Enc.enc (g_1.2 : List (Int × Int)))]))), (2, (.bool false)), (10, (Enc.enc (g_1.2 : List (Int × Int)))), (11, (.int .i64 (g_1.2.length : Int))), (12, (.int .i64 t12_9))] s → i_IsGraph_l1 F g_1 k t12_9 = some r → Run D σ (R53 r) (.run A53_1 [.lp A53_1, .bk 0, .sq A53_7]) s := by
  intro k
  induction k with
  | zero => intro t12_9 s _ h; exact nomatch (h : (none : Option _) = some r)
  | succ k ih =>
    intro t12_9 s hs h
    rw [i_IsGraph_l1] at h
    obtain ⟨h1, h2, h10, h11, h12⟩ := hs
    refine .seq ?_
    refine run_reg ?_
    refine e_end ?_
    refine g_v2 (t1 := 12) (t2 := 11) (u1 := (.int .i64 t12_9)) (u2 := (.int .i64 (g_1.2.length : Int))) (.bool (decide (t12_9 < (g_1.2.length : Int)))) h12 h11 rfl rfl ?_
    refine g_end ?_
    refine e_end ?_
    refine renew [(1, (.ref (.bx 1) 0 [] (.agg [(.int .i64 g_1.1), (Enc.enc (g_1.2 : List (Int × Int)))]))), (2, (.bool false)), (10, (Enc.enc (g_1.2 : List (Int × Int)))), (11, (.int .i64 (g_1.2.length : Int))), (12, (.int .i64 t12_9)), (13, (.bool (decide (t12_9 < (g_1.2.length : Int)))))] ⟨h1, h2, h10, h11, h12, rfl⟩ ?_
    rintro s ⟨h1, h2, h10, h11, h12, h13⟩
    refine .nsq ?_
    refine .seq ?_
    refine run_cond (t := decide (t12_9 < (g_1.2.length : Int))) h13 h (fun h => ?_) (fun h => ?_)
    · refine .skip ?_
      refine .nsq ?_
      refine .seq ?_
      refine .block ?_
      refine .seq ?_
      refine run_reg ?_
      refine e_clr ?_
      refine e_end ?_
      refine g_v1 (t := 12) (u := (.int .i64 t12_9)) (.int .i64 t12_9) (keep_clear (s := s) (pk := [4]) h12 rfl rfl) rfl rfl ?_
      obtain ⟨e_16, E_e_16, h⟩ := bind_some h
      refine g_v (.ref .sh 0 [] (.agg [(.int .i64 e_16.1), (.int .i64 e_16.2)])) (ev_idx (t := .sh) (lo := 0) (xs := g_1.2) (keep_clear (s := s) (pk := [4]) h10 rfl (Enc.map_enc _ (g_1.2 : List (Int × Int)))) (keep_clear (s := s) (pk := [4]) h12 rfl rfl) E_e_16 rfl rfl) ?_
      refine g_v1 (t := 15) (u := (.ref .sh 0 [] (.agg [(.int .i64 e_16.1), (.int .i64 e_16.2)]))) (.agg [(.int .i64 e_16.1), (.int .i64 e_16.2)]) rfl rfl rfl ?_
      refine g_alloc (gone_clear (s := s) (pk := [4]) (t := 4) rfl) ?_
      refine g_v1 (t := 14) (u := (.int .i64 t12_9)) (.int .i64 t12_9) rfl rfl rfl ?_
      refine g_store (.agg [(.int .i64 e_16.1), (.int .i64 e_16.2)]) (rd_of rfl rfl) (rd_of rfl rfl) (by refine ⟨by decide, by decide, rfl, rfl, rfl, ?_⟩; first | rfl | simp [V.toks, V.tokss, Enc.toks_enc]) ?_
      refine g_end ?_
      refine e_end ?_
      refine renew [(1, (.ref (.bx 1) 0 [] (.agg [(.int .i64 g_1.1), (Enc.enc (g_1.2 : List (Int × Int)))]))), (2, (.bool false)), (3, (.int .i64 t12_9)), (4, (.ref (.bx 4) 0 [] (.agg [(.int .i64 e_16.1), (.int .i64 e_16.2)]))), (10, (Enc.enc (g_1.2 : List (Int × Int)))), (11, (.int .i64 (g_1.2.length : Int))), (12, (.int .i64 t12_9))] ⟨(keep_mut (keep_clear (s := s) (pk := [4]) h1 rfl (map_bx rfl (map_agg (maps_cons rfl (maps_cons (Enc.map_enc _ (g_1.2 : List (Int × Int))) maps_nil))))) (mut_ref_ne rfl rfl (mut_agg (muts_cons rfl (muts_cons (Enc.mut_enc _ _ _ _ (g_1.2 : List (Int × Int))) rfl))))), (keep_mut (keep_clear (s := s) (pk := [4]) h2 rfl rfl) rfl), (keep_mut rfl rfl), (keep_mut rfl rfl), (keep_mut (keep_clear (s := s) (pk := [4]) h10 rfl (Enc.map_enc _ (g_1.2 : List (Int × Int)))) (Enc.mut_enc _ _ _ _ (g_1.2 : List (Int × Int)))), (keep_mut (keep_clear (s := s) (pk := [4]) h11 rfl rfl) rfl), (keep_mut (keep_clear (s := s) (pk := [4]) h12 rfl rfl) rfl)⟩ ?_
      rintro s ⟨h1, h2, h3, h4, h10, h11, h12⟩
      refine .nsq ?_
      refine .seq ?_
      refine run_reg ?_
      refine e_end ?_
      refine g_v1 (t := 4) (u := (.ref (.bx 4) 0 [] (.agg [(.int .i64 e_16.1), (.int .i64 e_16.2)]))) (.ref (.bx 4) 0 [0] (.int .i64 e_16.1)) h4 rfl rfl ?_
      refine g_v1 (t := 17) (u := (.ref (.bx 4) 0 [0] (.int .i64 e_16.1))) (.int .i64 e_16.1) rfl rfl rfl ?_
      refine g_v1 (t := 18) (u := (.int .i64 e_16.1)) (.bool (decide (e_16.1 < 0))) rfl rfl rfl ?_
      refine g_v1 (t := 19) (u := (.bool (decide (e_16.1 < 0)))) (.bool (decide (e_16.1 < 0))) rfl rfl rfl ?_
      refine split_on (c := decide (e_16.1 < 0)) h (fun hg4 h => ?_) (fun hg4 h => ?_)
      · refine g_no (Eq.trans (b := .bool (decide (e_16.1 < 0))) rfl (congrArg V.bool hg4)) ?_
        refine g_no (Eq.trans (b := .bool (decide (e_16.1 < 0))) rfl (congrArg V.bool hg4)) ?_
        refine g_no (Eq.trans (b := .bool (decide (e_16.1 < 0))) rfl (congrArg V.bool hg4)) ?_
        refine g_no (Eq.trans (b := .bool (decide (e_16.1 < 0))) rfl (congrArg V.bool hg4)) ?_
        refine g_no (Eq.trans (b := .bool (decide (e_16.1 < 0))) rfl (congrArg V.bool hg4)) ?_
        refine g_v2 (t1 := 20) (t2 := 25) (u1 := (.bool true)) (u2 := (.tup [])) (.bool true) (Eq.trans (b := .bool (decide (e_16.1 < 0))) rfl (congrArg V.bool hg4)) rfl rfl rfl ?_
        refine g_v1 (t := 26) (u := (.bool true)) (.bool true) rfl rfl rfl ?_
        refine g_no rfl ?_
        refine g_no rfl ?_
        refine g_no rfl ?_
        refine g_no rfl ?_
        refine g_no rfl ?_
        refine g_v2 (t1 := 27) (t2 := 32) (u1 := (.bool true)) (u2 := (.tup [])) (.bool true) rfl rfl rfl rfl ?_
        refine g_v1 (t := 33) (u := (.bool true)) (.bool true) rfl rfl rfl ?_
        refine g_no rfl ?_
        refine g_no rfl ?_
        refine g_no rfl ?_
        refine g_skip rfl ?_
        refine g_skip rfl ?_
        refine g_skip rfl ?_
        refine g_skip rfl ?_
        refine g_skip rfl ?_
        refine g_skip rfl ?_
        refine g_skip rfl ?_
        refine g_skip rfl ?_
        refine g_skip rfl ?_
        refine g_no rfl ?_
        refine g_v2 (t1 := 34) (t2 := 47) (u1 := (.bool true)) (u2 := (.tup [])) (.bool true) rfl rfl rfl rfl ?_
        refine g_end ?_
        refine e_end ?_
        refine renew [(1, (.ref (.bx 1) 0 [] (.agg [(.int .i64 g_1.1), (Enc.enc (g_1.2 : List (Int × Int)))]))), (2, (.bool false)), (10, (Enc.enc (g_1.2 : List (Int × Int)))), (11, (.int .i64 (g_1.2.length : Int))), (12, (.int .i64 t12_9)), (48, (.bool true))] ⟨h1, h2, h10, h11, h12, rfl⟩ ?_
        rintro s ⟨h1, h2, h10, h11, h12, h48⟩
        exact t_f53_j1 H g_1 t12_9 (i_IsGraph_l1 F g_1 k) ih true _ ⟨h1, h2, h10, h11, h12, h48⟩ h
      · refine g_yes (Eq.trans (b := .bool (decide (e_16.1 < 0))) rfl (congrArg V.bool hg4)) (g_v1 (t := 4) (u := (.ref (.bx 4) 0 [] (.agg [(.int .i64 e_16.1), (.int .i64 e_16.2)]))) (.ref (.bx 4) 0 [0] (.int .i64 e_16.1)) h4 rfl rfl ?_)
        refine g_yes (Eq.trans (b := .bool (decide (e_16.1 < 0))) rfl (congrArg V.bool hg4)) (g_v1 (t := 21) (u := (.ref (.bx 4) 0 [0] (.int .i64 e_16.1))) (.int .i64 e_16.1) rfl rfl rfl ?_)
        refine g_yes (Eq.trans (b := .bool (decide (e_16.1 < 0))) rfl (congrArg V.bool hg4)) (g_v1 (t := 4) (u := (.ref (.bx 4) 0 [] (.agg [(.int .i64 e_16.1), (.int .i64 e_16.2)]))) (.ref (.bx 4) 0 [1] (.int .i64 e_16.2)) h4 rfl rfl ?_)
        refine g_yes (Eq.trans (b := .bool (decide (e_16.1 < 0))) rfl (congrArg V.bool hg4)) (g_v1 (t := 23) (u := (.ref (.bx 4) 0 [1] (.int .i64 e_16.2))) (.int .i64 e_16.2) rfl rfl rfl ?_)
        refine g_yes (Eq.trans (b := .bool (decide (e_16.1 < 0))) rfl (congrArg V.bool hg4)) (g_v2 (t1 := 22) (t2 := 24) (u1 := (.int .i64 e_16.1)) (u2 := (.int .i64 e_16.2)) (.bool (decide (e_16.1 ≥ e_16.2))) rfl rfl rfl rfl ?_)
        refine g_v2 (t1 := 20) (t2 := 25) (u1 := (.bool false)) (u2 := (.bool (decide (e_16.1 ≥ e_16.2)))) (.bool (decide (e_16.1 ≥ e_16.2))) (Eq.trans (b := .bool (decide (e_16.1 < 0))) rfl (congrArg V.bool hg4)) rfl rfl rfl ?_
        refine g_v1 (t := 26) (u := (.bool (decide (e_16.1 ≥ e_16.2)))) (.bool (decide (e_16.1 ≥ e_16.2))) rfl rfl rfl ?_
        refine split_on (c := decide (e_16.1 ≥ e_16.2)) h (fun hg11 h => ?_) (fun hg11 h => ?_)
        · refine g_no (Eq.trans (b := .bool (decide (e_16.1 ≥ e_16.2))) rfl (congrArg V.bool hg11)) ?_
          refine g_no (Eq.trans (b := .bool (decide (e_16.1 ≥ e_16.2))) rfl (congrArg V.bool hg11)) ?_
          refine g_no (Eq.trans (b := .bool (decide (e_16.1 ≥ e_16.2))) rfl (congrArg V.bool hg11)) ?_
          refine g_no (Eq.trans (b := .bool (decide (e_16.1 ≥ e_16.2))) rfl (congrArg V.bool hg11)) ?_
          refine g_no (Eq.trans (b := .bool (decide (e_16.1 ≥ e_16.2))) rfl (congrArg V.bool hg11)) ?_
          refine g_v2 (t1 := 27) (t2 := 32) (u1 := (.bool true)) (u2 := (.tup [])) (.bool true) (Eq.trans (b := .bool (decide (e_16.1 ≥ e_16.2))) rfl (congrArg V.bool hg11)) rfl rfl rfl ?_
          refine g_v1 (t := 33) (u := (.bool true)) (.bool true) rfl rfl rfl ?_
          refine g_no rfl ?_
          refine g_no rfl ?_
          refine g_no rfl ?_
          refine g_skip rfl ?_
          refine g_skip rfl ?_
          refine g_skip rfl ?_
          refine g_skip rfl ?_
          refine g_skip rfl ?_
          refine g_skip rfl ?_
          refine g_skip rfl ?_
          refine g_skip rfl ?_
          refine g_skip rfl ?_
          refine g_no rfl ?_
          refine g_v2 (t1 := 34) (t2 := 47) (u1 := (.bool true)) (u2 := (.tup [])) (.bool true) rfl rfl rfl rfl ?_
          refine g_end ?_
          refine e_end ?_
          refine renew [(1, (.ref (.bx 1) 0 [] (.agg [(.int .i64 g_1.1), (Enc.enc (g_1.2 : List (Int × Int)))]))), (2, (.bool false)), (10, (Enc.enc (g_1.2 : List (Int × Int)))), (11, (.int .i64 (g_1.2.length : Int))), (12, (.int .i64 t12_9)), (48, (.bool true))] ⟨h1, h2, h10, h11, h12, rfl⟩ ?_
          rintro s ⟨h1, h2, h10, h11, h12, h48⟩
          exact t_f53_j1 H g_1 t12_9 (i_IsGraph_l1 F g_1 k) ih true _ ⟨h1, h2, h10, h11, h12, h48⟩ h
        · refine g_yes (Eq.trans (b := .bool (decide (e_16.1 ≥ e_16.2))) rfl (congrArg V.bool hg11)) (g_v1 (t := 4) (u := (.ref (.bx 4) 0 [] (.agg [(.int .i64 e_16.1), (.int .i64 e_16.2)]))) (.ref (.bx 4) 0 [1] (.int .i64 e_16.2)) h4 rfl rfl ?_)
          refine g_yes (Eq.trans (b := .bool (decide (e_16.1 ≥ e_16.2))) rfl (congrArg V.bool hg11)) (g_v1 (t := 28) (u := (.ref (.bx 4) 0 [1] (.int .i64 e_16.2))) (.int .i64 e_16.2) rfl rfl rfl ?_)
          refine g_yes (Eq.trans (b := .bool (decide (e_16.1 ≥ e_16.2))) rfl (congrArg V.bool hg11)) (g_v1 (t := 1) (u := (.ref (.bx 1) 0 [] (.agg [(.int .i64 g_1.1), (Enc.enc (g_1.2 : List (Int × Int)))]))) (.ref (.bx 1) 0 [0] (.int .i64 g_1.1)) h1 rfl rfl ?_)
          refine g_yes (Eq.trans (b := .bool (decide (e_16.1 ≥ e_16.2))) rfl (congrArg V.bool hg11)) (g_v1 (t := 30) (u := (.ref (.bx 1) 0 [0] (.int .i64 g_1.1))) (.int .i64 g_1.1) rfl rfl rfl ?_)
          refine g_yes (Eq.trans (b := .bool (decide (e_16.1 ≥ e_16.2))) rfl (congrArg V.bool hg11)) (g_v2 (t1 := 29) (t2 := 31) (u1 := (.int .i64 e_16.2)) (u2 := (.int .i64 g_1.1)) (.bool (decide (e_16.2 ≥ g_1.1))) rfl rfl rfl rfl ?_)
          refine g_v2 (t1 := 27) (t2 := 32) (u1 := (.bool false)) (u2 := (.bool (decide (e_16.2 ≥ g_1.1)))) (.bool (decide (e_16.2 ≥ g_1.1))) (Eq.trans (b := .bool (decide (e_16.1 ≥ e_16.2))) rfl (congrArg V.bool hg11)) rfl rfl rfl ?_
          refine g_v1 (t := 33) (u := (.bool (decide (e_16.2 ≥ g_1.1)))) (.bool (decide (e_16.2 ≥ g_1.1))) rfl rfl rfl ?_
          refine split_on (c := decide (e_16.2 ≥ g_1.1)) h (fun hg18 h => ?_) (fun hg18 h => ?_)
          · refine g_no (Eq.trans (b := .bool (decide (e_16.2 ≥ g_1.1))) rfl (congrArg V.bool hg18)) ?_
            refine g_no (Eq.trans (b := .bool (decide (e_16.2 ≥ g_1.1))) rfl (congrArg V.bool hg18)) ?_
            refine g_no (Eq.trans (b := .bool (decide (e_16.2 ≥ g_1.1))) rfl (congrArg V.bool hg18)) ?_
            refine g_skip rfl ?_
            refine g_skip rfl ?_
            refine g_skip rfl ?_
            refine g_skip rfl ?_
            refine g_skip rfl ?_
            refine g_skip rfl ?_
            refine g_skip rfl ?_
            refine g_skip rfl ?_
            refine g_skip rfl ?_
            refine g_no (Eq.trans (b := .bool (decide (e_16.2 ≥ g_1.1))) rfl (congrArg V.bool hg18)) ?_
            refine g_v2 (t1 := 34) (t2 := 47) (u1 := (.bool true)) (u2 := (.tup [])) (.bool true) (Eq.trans (b := .bool (decide (e_16.2 ≥ g_1.1))) rfl (congrArg V.bool hg18)) rfl rfl rfl ?_
            refine g_end ?_
            refine e_end ?_
            refine renew [(1, (.ref (.bx 1) 0 [] (.agg [(.int .i64 g_1.1), (Enc.enc (g_1.2 : List (Int × Int)))]))), (2, (.bool false)), (10, (Enc.enc (g_1.2 : List (Int × Int)))), (11, (.int .i64 (g_1.2.length : Int))), (12, (.int .i64 t12_9)), (48, (.bool true))] ⟨h1, h2, h10, h11, h12, rfl⟩ ?_
            rintro s ⟨h1, h2, h10, h11, h12, h48⟩
            exact t_f53_j1 H g_1 t12_9 (i_IsGraph_l1 F g_1 k) ih true _ ⟨h1, h2, h10, h11, h12, h48⟩ h
          · refine g_yes (Eq.trans (b := .bool (decide (e_16.2 ≥ g_1.1))) rfl (congrArg V.bool hg18)) (g_v1 (t := 3) (u := (.int .i64 t12_9)) (.int .i64 t12_9) h3 rfl rfl ?_)
            refine g_yes (Eq.trans (b := .bool (decide (e_16.2 ≥ g_1.1))) rfl (congrArg V.bool hg18)) (g_v1 (t := 35) (u := (.int .i64 t12_9)) (.bool (decide (t12_9 > 0))) rfl rfl rfl ?_)
            refine g_yes (Eq.trans (b := .bool (decide (e_16.2 ≥ g_1.1))) rfl (congrArg V.bool hg18)) (g_v1 (t := 36) (u := (.bool (decide (t12_9 > 0)))) (.bool (decide (t12_9 > 0))) rfl rfl rfl ?_)
            refine split_on (c := decide (t12_9 > 0)) h (fun hg21 h => ?_) (fun hg21 h => ?_)
            · refine g_yes (Eq.trans (b := .bool (decide (t12_9 > 0))) rfl (congrArg V.bool hg21)) (g_v1 (t := 1) (u := (.ref (.bx 1) 0 [] (.agg [(.int .i64 g_1.1), (Enc.enc (g_1.2 : List (Int × Int)))]))) (.ref (.bx 1) 0 [1] (Enc.enc (g_1.2 : List (Int × Int)))) h1 rfl rfl ?_)
              refine g_yes (Eq.trans (b := .bool (decide (t12_9 > 0))) rfl (congrArg V.bool hg21)) (g_v1 (t := 38) (u := (.ref (.bx 1) 0 [1] (Enc.enc (g_1.2 : List (Int × Int))))) (Enc.enc (g_1.2 : List (Int × Int))) rfl rfl rfl ?_)
              refine g_yes (Eq.trans (b := .bool (decide (t12_9 > 0))) rfl (congrArg V.bool hg21)) (g_v1 (t := 3) (u := (.int .i64 t12_9)) (.int .i64 t12_9) h3 rfl rfl ?_)
              refine g_yes (Eq.trans (b := .bool (decide (t12_9 > 0))) rfl (congrArg V.bool hg21)) (g_v1 (t := 40) (u := (.int .i64 t12_9)) (.int .i64 (w64 (t12_9 - 1))) rfl rfl rfl ?_)
              obtain ⟨e_20, E_e_20, h⟩ := bind_some h
              refine g_yes (Eq.trans (b := .bool (decide (t12_9 > 0))) rfl (congrArg V.bool hg21)) (g_v (.ref .sh 0 [] (.agg [(.int .i64 e_20.1), (.int .i64 e_20.2)])) (ev_idx (t := .sh) (lo := 0) (xs := g_1.2) rfl rfl E_e_20 rfl rfl) ?_)
              refine g_yes (Eq.trans (b := .bool (decide (t12_9 > 0))) rfl (congrArg V.bool hg21)) (g_v1 (t := 42) (u := (.ref .sh 0 [] (.agg [(.int .i64 e_20.1), (.int .i64 e_20.2)]))) (Enc.enc ([e_20.1, e_20.2] : List Int)) rfl rfl rfl ?_)
              refine g_yes (Eq.trans (b := .bool (decide (t12_9 > 0))) rfl (congrArg V.bool hg21)) (g_v1 (t := 4) (u := (.ref (.bx 4) 0 [] (.agg [(.int .i64 e_16.1), (.int .i64 e_16.2)]))) (encO (.bx 4) (.of ([e_16.1, e_16.2] : List Int))) h4 rfl rfl ?_)
              obtain ⟨r_21, E_r_21, h⟩ := bind_some h
              refine g_yes (Eq.trans (b := .bool (decide (t12_9 > 0))) rfl (congrArg V.bool hg21)) (g_call (m := 0) (al := false) (r := (Enc.enc (r_21 : Int))) [Enc.enc ([e_20.1, e_20.2] : (List Int)), Enc.enc ([e_16.1, e_16.2] : (List Int))] (ta_cons (v := (Enc.enc ([e_20.1, e_20.2] : List Int))) rfl rfl (Enc.erase_enc ([e_20.1, e_20.2] : (List Int))) (ta_cons (v := (encO (.bx 4) (.of ([e_16.1, e_16.2] : List Int)))) rfl rfl (erase_encO (o := .of [e_16.1, e_16.2])) ta_nil)) (H.c81 _ _ _ E_r_21) H.g81 rfl rfl rfl rfl ?_)
              refine g_yes (Eq.trans (b := .bool (decide (t12_9 > 0))) rfl (congrArg V.bool hg21)) (g_v1 (t := 45) (u := (.int .i64 r_21)) (.bool (decide (r_21 ≥ 0))) rfl rfl rfl ?_)
              refine g_yes (Eq.trans (b := .bool (decide (e_16.2 ≥ g_1.1))) rfl (congrArg V.bool hg18)) (g_v2 (t1 := 37) (t2 := 46) (u1 := (.bool true)) (u2 := (.bool (decide (r_21 ≥ 0)))) (.bool (decide (r_21 ≥ 0))) (Eq.trans (b := .bool (decide (t12_9 > 0))) rfl (congrArg V.bool hg21)) rfl rfl rfl ?_)
              refine g_v2 (t1 := 34) (t2 := 47) (u1 := (.bool false)) (u2 := (.bool (decide (r_21 ≥ 0)))) (.bool (decide (r_21 ≥ 0))) (Eq.trans (b := .bool (decide (e_16.2 ≥ g_1.1))) rfl (congrArg V.bool hg18)) rfl rfl rfl ?_
              refine g_end ?_
              refine e_end ?_
              refine renew [(1, (.ref (.bx 1) 0 [] (.agg [(.int .i64 g_1.1), (Enc.enc (g_1.2 : List (Int × Int)))]))), (2, (.bool false)), (10, (Enc.enc (g_1.2 : List (Int × Int)))), (11, (.int .i64 (g_1.2.length : Int))), (12, (.int .i64 t12_9)), (48, (.bool (decide (r_21 ≥ 0))))] ⟨h1, h2, h10, h11, h12, rfl⟩ ?_
              rintro s ⟨h1, h2, h10, h11, h12, h48⟩
              exact t_f53_j1 H g_1 t12_9 (i_IsGraph_l1 F g_1 k) ih (decide (r_21 ≥ 0)) _ ⟨h1, h2, h10, h11, h12, h48⟩ h
            · refine g_no (Eq.trans (b := .bool (decide (t12_9 > 0))) rfl (congrArg V.bool hg21)) ?_
              refine g_no (Eq.trans (b := .bool (decide (t12_9 > 0))) rfl (congrArg V.bool hg21)) ?_
              refine g_no (Eq.trans (b := .bool (decide (t12_9 > 0))) rfl (congrArg V.bool hg21)) ?_
              refine g_no (Eq.trans (b := .bool (decide (t12_9 > 0))) rfl (congrArg V.bool hg21)) ?_
              refine g_no (Eq.trans (b := .bool (decide (t12_9 > 0))) rfl (congrArg V.bool hg21)) ?_
              refine g_no (Eq.trans (b := .bool (decide (t12_9 > 0))) rfl (congrArg V.bool hg21)) ?_
              refine g_no (Eq.trans (b := .bool (decide (t12_9 > 0))) rfl (congrArg V.bool hg21)) ?_
              refine g_no (Eq.trans (b := .bool (decide (t12_9 > 0))) rfl (congrArg V.bool hg21)) ?_
              refine g_no (Eq.trans (b := .bool (decide (t12_9 > 0))) rfl (congrArg V.bool hg21)) ?_
              refine g_yes (Eq.trans (b := .bool (decide (e_16.2 ≥ g_1.1))) rfl (congrArg V.bool hg18)) (g_v2 (t1 := 37) (t2 := 46) (u1 := (.bool false)) (u2 := (.tup [])) (.bool false) (Eq.trans (b := .bool (decide (t12_9 > 0))) rfl (congrArg V.bool hg21)) rfl rfl rfl ?_)
              refine g_v2 (t1 := 34) (t2 := 47) (u1 := (.bool false)) (u2 := (.bool false)) (.bool false) (Eq.trans (b := .bool (decide (e_16.2 ≥ g_1.1))) rfl (congrArg V.bool hg18)) rfl rfl rfl ?_
              refine g_end ?_
              refine e_end ?_
              refine renew [(1, (.ref (.bx 1) 0 [] (.agg [(.int .i64 g_1.1), (Enc.enc (g_1.2 : List (Int × Int)))]))), (2, (.bool false)), (10, (Enc.enc (g_1.2 : List (Int × Int)))), (11, (.int .i64 (g_1.2.length : Int))), (12, (.int .i64 t12_9)), (48, (.bool false))] ⟨h1, h2, h10, h11, h12, rfl⟩ ?_
              rintro s ⟨h1, h2, h10, h11, h12, h48⟩
              exact t_f53_j1 H g_1 t12_9 (i_IsGraph_l1 F g_1 k) ih false _ ⟨h1, h2, h10, h11, h12, h48⟩ h
    · refine .exit ?_
      refine .esq ?_
      refine .elp ?_
      refine .ebk ?_
      refine .nsq ?_
      refine .seq ?_
      refine run_reg ?_
      refine e_end ?_
      refine g_v0 (.bool true) rfl rfl ?_
      refine g_end ?_
      refine e_end ?_
      refine renew [(2, (.bool true))] rfl ?_
      rintro s h2
      refine .nsq ?_
      refine .ret ?_
      have hr := Option.some.inj h
      subst hr
      exact rrA (res_tmp h2) rfl
def i_IsGraph (F : Nat) (g_1 : (Int × (List (Int × Int)))) : Option Bool :=
  (i_within F g_1.1 0 8).bind fun r_2 =>
  bif (!r_2) then
    some false
  else
    i_IsGraph_l1 F g_1 F 0
theorem t53 (H : H53 D σ F) (g_1 : (Int × (List (Int × Int)))) (s : Nat → V) (hs : Facts [(0, (.agg [(.int .i64 g_1.1), (Enc.enc (g_1.2 : List (Int × Int)))]))] s) (h : i_IsGraph F g_1 = some r) : Run D σ (R53 r) (.run A53 []) s := by
  unfold i_IsGraph at h
  have h0 := hs
  refine .seq ?_
  refine run_reg ?_
  refine e_clr ?_
  refine e_end ?_
  refine g_box (.agg [(.int .i64 g_1.1), (Enc.enc (g_1.2 : List (Int × Int)))]) (rd_of (keep_clear (s := s) (pk := [1]) h0 rfl (map_agg (maps_cons rfl (maps_cons (Enc.map_enc _ (g_1.2 : List (Int × Int))) maps_nil)))) rfl) (gone_clear (s := s) (pk := [1]) (t := 1) rfl) rfl ?_
  refine g_v0 (.bool false) rfl rfl ?_
  refine g_end ?_
  refine e_end ?_
  refine renew [(1, (.ref (.bx 1) 0 [] (.agg [(.int .i64 g_1.1), (Enc.enc (g_1.2 : List (Int × Int)))]))), (2, (.bool false))] ⟨rfl, rfl⟩ ?_
  rintro s ⟨h1, h2⟩
  refine .nsq ?_
  refine .seq ?_
  refine .seq ?_
  refine run_reg ?_
  refine e_end ?_
  refine g_v1 (t := 1) (u := (.ref (.bx 1) 0 [] (.agg [(.int .i64 g_1.1), (Enc.enc (g_1.2 : List (Int × Int)))]))) (.ref (.bx 1) 0 [0] (.int .i64 g_1.1)) h1 rfl rfl ?_
  refine g_v1 (t := 5) (u := (.ref (.bx 1) 0 [0] (.int .i64 g_1.1))) (.int .i64 g_1.1) rfl rfl rfl ?_
  obtain ⟨r_2, E_r_2, h⟩ := bind_some h
  refine g_call (m := 0) (al := false) (r := (Enc.enc (r_2 : Bool))) [Enc.enc (g_1.1 : Int), Enc.enc (0 : Int), Enc.enc (8 : Int)] (ta_cons (v := (.int .i64 g_1.1)) rfl rfl rfl (ta_cons (v := (.int .i64 0)) rfl rfl rfl (ta_cons (v := (.int .i64 8)) rfl rfl rfl ta_nil))) (H.c62 _ _ _ _ E_r_2) H.g62 rfl rfl rfl rfl ?_
  refine g_v1 (t := 7) (u := (.bool r_2)) (.bool (!r_2)) rfl rfl rfl ?_
  refine g_end ?_
  refine e_end ?_
  refine renew [(1, (.ref (.bx 1) 0 [] (.agg [(.int .i64 g_1.1), (Enc.enc (g_1.2 : List (Int × Int)))]))), (2, (.bool false)), (8, (.bool (!r_2)))] ⟨h1, h2, rfl⟩ ?_
  rintro s ⟨h1, h2, h8⟩
  refine .nsq ?_
  refine run_cond (t := (!r_2)) h8 h (fun h => ?_) (fun h => ?_)
  · refine .seq ?_
    refine run_reg ?_
    refine e_end ?_
    refine g_v0 (.bool false) rfl rfl ?_
    refine g_end ?_
    refine e_end ?_
    refine renew [(1, (.ref (.bx 1) 0 [] (.agg [(.int .i64 g_1.1), (Enc.enc (g_1.2 : List (Int × Int)))]))), (2, (.bool false))] ⟨h1, rfl⟩ ?_
    rintro s ⟨h1, h2⟩
    refine .nsq ?_
    refine .ret ?_
    have hr := Option.some.inj h
    subst hr
    exact rrA (res_tmp h2) rfl
  · refine .skip ?_
    refine .nsq ?_
    refine .seq ?_
    refine .seq ?_
    refine run_reg ?_
    refine e_end ?_
    refine g_v1 (t := 1) (u := (.ref (.bx 1) 0 [] (.agg [(.int .i64 g_1.1), (Enc.enc (g_1.2 : List (Int × Int)))]))) (.ref (.bx 1) 0 [1] (Enc.enc (g_1.2 : List (Int × Int)))) h1 rfl rfl ?_
    refine g_v1 (t := 9) (u := (.ref (.bx 1) 0 [1] (Enc.enc (g_1.2 : List (Int × Int))))) (Enc.enc (g_1.2 : List (Int × Int))) rfl rfl rfl ?_
    refine g_v (.int .i64 (g_1.2.length : Int)) (ev_len (xs := g_1.2) rfl) ?_
    refine g_v0 (.int .i64 0) rfl rfl ?_
    refine g_end ?_
    refine e_end ?_
    refine renew [(1, (.ref (.bx 1) 0 [] (.agg [(.int .i64 g_1.1), (Enc.enc (g_1.2 : List (Int × Int)))]))), (2, (.bool false)), (10, (Enc.enc (g_1.2 : List (Int × Int)))), (11, (.int .i64 (g_1.2.length : Int))), (12, (.int .i64 0))] ⟨h1, h2, rfl, rfl, rfl⟩ ?_
    rintro s ⟨h1, h2, h10, h11, h12⟩
    refine .nsq ?_
    refine .block ?_
    refine .loop ?_
    exact t_f53_l1 H g_1 F 0 _ ⟨h1, h2, h10, h11, h12⟩ h
end
def e53 (F : Nat) : Ent := ⟨53, da (fun (x : ((Int × (List (Int × Int))) × Unit)) => i_IsGraph F x.1) (fun (r : Bool) => (Enc.enc (r : Bool))), 0, false, selF []⟩
theorem p53 {F : Nat} {x0 : (Int × (List (Int × Int)))} {r : Bool} (h : i_IsGraph F x0 = some r) : (e53 F).den [Enc.enc x0] = some (Enc.enc (r : Bool)) := da_put (f := fun (x : ((Int × (List (Int × Int))) × Unit)) => i_IsGraph F x.1) (t := fun (r : Bool) => (Enc.enc (r : Bool))) (x0, ()) h
theorem o53 {D : Den} {σ : Sig} {F : Nat} (hF : Fits2 Try.prog D σ) (H : H53 D σ F) : (e53 F).Ok Try.prog := by
  refine ⟨fun args r h => ?_, ⟨Try.f53, Try.func53, rfl, rfl⟩⟩
  obtain ⟨⟨x0, _⟩, y, rfl, hy, rfl⟩ := da_open h
  exact contract_run hF (by kernel_rfl) Try.func53 rfl c53 (show 1 ≤ Try.f53.ntmps by decide) (t53 H x0 _ rfl hy)
/- loop.example/g01109/impl.netOf -/
def A67_5 : AC := (AC.reg [] [(I.mk (some 28) none false (X.v (A.fld (O.t 3) 0 0))), (I.mk (some 29) none false (X.v (A.load Sh.p (O.t 28)))), (I.mk (some 30) none false (X.v (A.idxA (O.t 5) (O.k (V.int IntKind.i64 (Int.ofNat 1))) 2 1))), (I.mk (some 31) none false (X.v (A.load Sh.s (O.t 30)))), (I.mk (some 32) none false (X.v (A.idx (O.t 29) (O.t 31) 1))), (I.mk (some 33) none false (X.v (A.load Sh.s (O.t 32)))), (I.mk (some 34) none false (X.v (A.idxA (O.t 5) (O.k (V.int IntKind.i64 (Int.ofNat 0))) 2 1))), (I.mk (some 35) none false (X.v (A.load Sh.s (O.t 34)))), (I.mk (some 36) none false (X.v (A.bin BinOp.shl (O.k (V.int IntKind.i64 (Int.ofNat 1))) (O.t 35)))), (I.mk (some 37) none false (X.v (A.bin BinOp.or (O.t 33) (O.t 36)))), (I.mk (some 38) none false (X.v (A.idx (O.t 29) (O.t 31) 1))), (I.mk none none false (X.store Sh.s (O.t 38) (O.t 37)))] [])
def A67_4 : AC := (AC.seq (AC.reg [] [(I.mk (some 17) none false (X.v (A.fld (O.t 3) 0 0))), (I.mk (some 18) none false (X.v (A.load Sh.p (O.t 17)))), (I.mk (some 19) none false (X.v (A.idxA (O.t 5) (O.k (V.int IntKind.i64 (Int.ofNat 0))) 2 1))), (I.mk (some 20) none false (X.v (A.load Sh.s (O.t 19)))), (I.mk (some 21) none false (X.v (A.idx (O.t 18) (O.t 20) 1))), (I.mk (some 22) none false (X.v (A.load Sh.s (O.t 21)))), (I.mk (some 23) none false (X.v (A.idxA (O.t 5) (O.k (V.int IntKind.i64 (Int.ofNat 1))) 2 1))), (I.mk (some 24) none false (X.v (A.load Sh.s (O.t 23)))), (I.mk (some 25) none false (X.v (A.bin BinOp.shl (O.k (V.int IntKind.i64 (Int.ofNat 1))) (O.t 24)))), (I.mk (some 26) none false (X.v (A.bin BinOp.or (O.t 22) (O.t 25)))), (I.mk (some 27) none false (X.v (A.idx (O.t 18) (O.t 20) 1))), (I.mk none none false (X.store Sh.s (O.t 27) (O.t 26)))] []) A67_5)
def A67_6 : AC := (AC.reg [] [(I.mk (some 39) none false (X.v (A.bin BinOp.add (O.t 13) (O.k (V.int IntKind.i64 (Int.ofNat 1)))))), (I.mk (some 13) none false (X.v (A.mov (O.t 39))))] [])
def A67_3 : AC := (AC.seq (AC.block 1 (AC.seq (AC.reg [.clr [5]] [(I.mk (some 15) none false (X.v (A.idx (O.t 11) (O.t 13) 2))), (I.mk (some 16) none false (X.v (A.load (Sh.ag [Sh.s, Sh.s]) (O.t 15)))), (I.mk (some 5) none false (X.alloc (V.agg [(V.int IntKind.i64 (Int.ofNat 0)), (V.int IntKind.i64 (Int.ofNat 0))]))), (I.mk none none false (X.store (Sh.ag [Sh.s, Sh.s]) (O.t 5) (O.t 16)))] []) A67_4)) A67_6)
def A67_2 : AC := (AC.seq (AC.cond (O.t 14) AC.skip (AC.exit 0)) A67_3)
def A67_1 : AC := (AC.seq (AC.reg [] [(I.mk (some 14) none false (X.v (A.bin BinOp.lss (O.t 13) (O.t 12))))] []) A67_2)
def A67_7 : AC := (AC.seq (AC.reg [] [(I.mk (some 40) none false (X.v (A.load (Sh.ag [Sh.p]) (O.t 3)))), (I.mk none none false (X.store (Sh.ag [Sh.p]) (O.t 2) (O.t 40)))] []) AC.ret)
def A67_10 : AC := (AC.block 0 (AC.loop A67_1))
def A67_9 : AC := (AC.seq (AC.seq (AC.reg [] [(I.mk (some 10) none false (X.v (A.fld (O.t 1) 1 1))), (I.mk (some 11) none false (X.v (A.load Sh.p (O.t 10)))), (I.mk (some 12) none false (X.v (A.len (O.t 11)))), (I.mk (some 13) none false (X.v (A.mov (O.k (V.int IntKind.i64 (Int.ofNat 0))))))] []) A67_10) A67_7)
def A67_8 : AC := (AC.seq (AC.reg [.clr [8, 3]] [(I.mk (some 6) none false (X.v (A.fld (O.t 1) 0 0))), (I.mk (some 7) none false (X.v (A.load Sh.s (O.t 6)))), (I.mk (some 8) none false (X.mk (O.t 7) (V.int IntKind.i64 (Int.ofNat 0)))), (I.mk (some 9) none false (X.v (A.bld (V.agg [(V.sl Tok.nl Sh.s 0 [])]) [(0, 0, (O.t 8))]))), (I.mk (some 3) none false (X.alloc (V.agg [(V.sl Tok.nl Sh.s 0 [])]))), (I.mk none none false (X.store (Sh.ag [Sh.p]) (O.t 3) (O.t 9)))] []) A67_9)
def A67 : AC := (AC.seq (AC.reg [.clr [1, 2]] [(I.mk (some 1) none false (X.box (O.t 0))), (I.mk (some 2) none false (X.alloc (V.agg [(V.sl Tok.nl Sh.s 0 [])])))] []) A67_8)
def an67 : List An := [{ id := 0, pre := [.clr [1, 2]], ep := [], lin := [], sp := [] }, { id := 1, pre := [.clr [8, 3]], ep := [], lin := [], sp := [] }, { id := 4, pre := [.clr [5]], ep := [], lin := [], sp := [] }]
theorem c67 : cC Try.prog Try.f67.ntmps an67 (Try.f67.body.getD .skip) = some A67 := by kernel_rfl
structure H67 (D : Den) (σ : Sig) (F : Nat) : Prop where
  mk ::
abbrev R67 (r : (S1 (List Int))) : (Nat → V) → Prop := RR Try.prog [.cell 2 95] 0 false (Enc.enc (r : (S1 (List Int))))
section
variable {D : Den} {σ : Sig} {F : Nat} {r : (S1 (List Int))}
def i_netOf_l1 (F : Nat) (g_1 : (Int × (List (Int × Int))))  : Nat → (List Int) → Int → Option (S1 (List Int))
  | 0, _, _ => none
  | k + 1, w_10, t13_11 =>
    bif decide (t13_11 < (g_1.2.length : Int)) then
      (idx g_1.2 t13_11).bind fun e_19 =>
      (idx w_10 e_19.1).bind fun e_20 =>
      (shlI .i64 1 e_19.2).bind fun q_21 =>
      (idx w_10 e_19.1).bind fun e_22 =>
      (idx (w_10.set e_19.1.toNat (ior .i64 e_20 q_21)) e_19.2).bind fun e_23 =>
      (shlI .i64 1 e_19.1).bind fun q_24 =>
      (idx (w_10.set e_19.1.toNat (ior .i64 e_20 q_21)) e_19.2).bind fun e_25 =>
      (i_netOf_l1 F g_1 k) ((w_10.set e_19.1.toNat (ior .i64 e_20 q_21)).set e_19.2.toNat (ior .i64 e_23 q_24)) (w64 (t13_11 + 1))
    else
      some (S1.mk w_10)
theorem t_f67_l1 (H : H67 D σ F) (g_1 : (Int × (List (Int × Int))))  : ∀ (k : Nat) (w_10 : (List Int)) (t13_11 : Int) (s : Nat → V), Facts [(2, (.ref (.bx 2) 0 [] (.agg [(.sl .nl (Enc.shp Int) 0 [])]))), (3, (.ref (.bx 3) 0 [] (.agg [(encO (.at 8 []) (.of (w_10 : List Int)))]))), (11, (Enc.enc (g_1.2 : List (Int × Int)))), (12, (.int .i64 (g_1.2.length : Int))), (13, (.int .i64 t13_11))] s → i_netOf_l1 F g_1 k w_10 t13_11 = some r → Run D σ (R67 r) (.run A67_1 [.lp A67_1, .bk 0, .sq A67_7]) s := by
  intro k
  induction k with
  | zero => intro w_10 t13_11 s _ h; exact nomatch (h : (none : Option _) = some r)
  | succ k ih =>
    intro w_10 t13_11 s hs h
    rw [i_netOf_l1] at h
    obtain ⟨h2, h3, h11, h12, h13⟩ := hs
    refine .seq ?_
    refine run_reg ?_
    refine e_end ?_
    refine g_v2 (t1 := 13) (t2 := 12) (u1 := (.int .i64 t13_11)) (u2 := (.int .i64 (g_1.2.length : Int))) (.bool (decide (t13_11 < (g_1.2.length : Int)))) h13 h12 rfl rfl ?_
    refine g_end ?_
    refine e_end ?_
    refine renew [(2, (.ref (.bx 2) 0 [] (.agg [(.sl .nl (Enc.shp Int) 0 [])]))), (3, (.ref (.bx 3) 0 [] (.agg [(encO (.at 8 []) (.of (w_10 : List Int)))]))), (11, (Enc.enc (g_1.2 : List (Int × Int)))), (12, (.int .i64 (g_1.2.length : Int))), (13, (.int .i64 t13_11)), (14, (.bool (decide (t13_11 < (g_1.2.length : Int)))))] ⟨h2, h3, h11, h12, h13, rfl⟩ ?_
    rintro s ⟨h2, h3, h11, h12, h13, h14⟩
    refine .nsq ?_
    refine .seq ?_
    refine run_cond (t := decide (t13_11 < (g_1.2.length : Int))) h14 h (fun h => ?_) (fun h => ?_)
    · refine .skip ?_
      refine .nsq ?_
      refine .seq ?_
      refine .block ?_
      refine .seq ?_
      refine run_reg ?_
      refine e_clr ?_
      refine e_end ?_
      obtain ⟨e_19, E_e_19, h⟩ := bind_some h
      refine g_v (.ref .sh 0 [] (.agg [(.int .i64 e_19.1), (.int .i64 e_19.2)])) (ev_idx (t := .sh) (lo := 0) (xs := g_1.2) (keep_clear (s := s) (pk := [5]) h11 rfl (Enc.map_enc _ (g_1.2 : List (Int × Int)))) (keep_clear (s := s) (pk := [5]) h13 rfl rfl) E_e_19 rfl rfl) ?_
      refine g_v1 (t := 15) (u := (.ref .sh 0 [] (.agg [(.int .i64 e_19.1), (.int .i64 e_19.2)]))) (.agg [(.int .i64 e_19.1), (.int .i64 e_19.2)]) rfl rfl rfl ?_
      refine g_alloc (gone_clear (s := s) (pk := [5]) (t := 5) rfl) ?_
      refine g_store (.agg [(.int .i64 e_19.1), (.int .i64 e_19.2)]) (rd_of rfl rfl) (rd_of rfl rfl) (by refine ⟨by decide, by decide, rfl, rfl, rfl, ?_⟩; first | rfl | simp [V.toks, V.tokss, Enc.toks_enc]) ?_
      refine g_end ?_
      refine e_end ?_
      refine renew [(2, (.ref (.bx 2) 0 [] (.agg [(.sl .nl (Enc.shp Int) 0 [])]))), (3, (.ref (.bx 3) 0 [] (.agg [(encO (.at 8 []) (.of (w_10 : List Int)))]))), (5, (.ref (.bx 5) 0 [] (.agg [(.int .i64 e_19.1), (.int .i64 e_19.2)]))), (11, (Enc.enc (g_1.2 : List (Int × Int)))), (12, (.int .i64 (g_1.2.length : Int))), (13, (.int .i64 t13_11))] ⟨(keep_mut (keep_clear (s := s) (pk := [5]) h2 rfl (map_bx rfl (map_agg (maps_cons rfl maps_nil)))) (mut_ref_ne rfl rfl (mut_agg (muts_cons rfl rfl)))), (keep_mut (keep_clear (s := s) (pk := [5]) h3 rfl (map_bx rfl (map_agg (maps_cons (map_encO (r := 8) (p := []) rfl rfl) maps_nil)))) (mut_ref_ne rfl rfl (mut_agg (muts_cons (mut_own_ne rfl rfl) rfl)))), (keep_mut rfl rfl), (keep_mut (keep_clear (s := s) (pk := [5]) h11 rfl (Enc.map_enc _ (g_1.2 : List (Int × Int)))) (Enc.mut_enc _ _ _ _ (g_1.2 : List (Int × Int)))), (keep_mut (keep_clear (s := s) (pk := [5]) h12 rfl rfl) rfl), (keep_mut (keep_clear (s := s) (pk := [5]) h13 rfl rfl) rfl)⟩ ?_
      rintro s ⟨h2, h3, h5, h11, h12, h13⟩
      refine .nsq ?_
      refine .seq ?_
      refine run_reg ?_
      refine e_end ?_
      refine g_v1 (t := 3) (u := (.ref (.bx 3) 0 [] (.agg [(encO (.at 8 []) (.of (w_10 : List Int)))]))) (.ref (.bx 3) 0 [0] (encO (.at 8 []) (.of (w_10 : List Int)))) h3 rfl rfl ?_
      refine g_v1 (t := 17) (u := (.ref (.bx 3) 0 [0] (encO (.at 8 []) (.of (w_10 : List Int))))) (encO (.at 8 []) (.of (w_10 : List Int))) rfl rfl rfl ?_
      refine g_v1 (t := 5) (u := (.ref (.bx 5) 0 [] (.agg [(.int .i64 e_19.1), (.int .i64 e_19.2)]))) (.ref (.bx 5) 0 [0] (.int .i64 e_19.1)) h5 rfl rfl ?_
      refine g_v1 (t := 19) (u := (.ref (.bx 5) 0 [0] (.int .i64 e_19.1))) (.int .i64 e_19.1) rfl rfl rfl ?_
      obtain ⟨e_20, E_e_20, h⟩ := bind_some h
      refine g_v (.ref (.at 8 []) e_19.1.toNat [] (.int .i64 e_20)) (ev_idxO (o := (.of w_10)) rfl rfl E_e_20 rfl) ?_
      refine g_v1 (t := 21) (u := (.ref (.at 8 []) e_19.1.toNat [] (.int .i64 e_20))) (.int .i64 e_20) rfl rfl rfl ?_
      refine g_v1 (t := 5) (u := (.ref (.bx 5) 0 [] (.agg [(.int .i64 e_19.1), (.int .i64 e_19.2)]))) (.ref (.bx 5) 0 [1] (.int .i64 e_19.2)) h5 rfl rfl ?_
      refine g_v1 (t := 23) (u := (.ref (.bx 5) 0 [1] (.int .i64 e_19.2))) (.int .i64 e_19.2) rfl rfl rfl ?_
      obtain ⟨q_21, E_q_21, h⟩ := bind_some h
      refine g_v (.int .i64 q_21) (ev_shl rfl rfl E_q_21) ?_
      refine g_v2 (t1 := 22) (t2 := 25) (u1 := (.int .i64 e_20)) (u2 := (.int .i64 q_21)) (.int .i64 (ior .i64 e_20 q_21)) rfl rfl rfl rfl ?_
      obtain ⟨e_22, E_e_22, h⟩ := bind_some h
      refine g_v (.ref (.at 8 []) e_19.1.toNat [] (.int .i64 e_22)) (ev_idxO (o := (.of w_10)) rfl rfl E_e_22 rfl) ?_
      refine g_store (.int .i64 (ior .i64 e_20 q_21)) (rd_of rfl rfl) (rd_of rfl rfl) (by refine ⟨by decide, by decide, rfl, rfl, rfl, ?_⟩; first | rfl | simp [V.toks, V.tokss, Enc.toks_enc]) ?_
      refine g_end ?_
      refine e_end ?_
      refine renew [(2, (.ref (.bx 2) 0 [] (.agg [(.sl .nl (Enc.shp Int) 0 [])]))), (3, (.ref (.bx 3) 0 [] (.agg [(encO (.at 8 []) (.of (w_10.set e_19.1.toNat (ior .i64 e_20 q_21) : List Int)))]))), (5, (.ref (.bx 5) 0 [] (.agg [(.int .i64 e_19.1), (.int .i64 e_19.2)]))), (11, (Enc.enc (g_1.2 : List (Int × Int)))), (12, (.int .i64 (g_1.2.length : Int))), (13, (.int .i64 t13_11))] ⟨(keep_mut h2 (mut_ref_ne rfl rfl (mut_agg (muts_cons rfl rfl)))), (keep_mut h3 (mut_ref_ne rfl rfl (mut_agg (muts_cons mut_own rfl)))), (keep_mut h5 rfl), (keep_mut h11 (Enc.mut_enc _ _ _ _ (g_1.2 : List (Int × Int)))), (keep_mut h12 rfl), (keep_mut h13 rfl)⟩ ?_
      rintro s ⟨h2, h3, h5, h11, h12, h13⟩
      refine .nsq ?_
      refine run_reg ?_
      refine e_end ?_
      refine g_v1 (t := 3) (u := (.ref (.bx 3) 0 [] (.agg [(encO (.at 8 []) (.of (w_10.set e_19.1.toNat (ior .i64 e_20 q_21) : List Int)))]))) (.ref (.bx 3) 0 [0] (encO (.at 8 []) (.of (w_10.set e_19.1.toNat (ior .i64 e_20 q_21) : List Int)))) h3 rfl rfl ?_
      refine g_v1 (t := 28) (u := (.ref (.bx 3) 0 [0] (encO (.at 8 []) (.of (w_10.set e_19.1.toNat (ior .i64 e_20 q_21) : List Int))))) (encO (.at 8 []) (.of (w_10.set e_19.1.toNat (ior .i64 e_20 q_21) : List Int))) rfl rfl rfl ?_
      refine g_v1 (t := 5) (u := (.ref (.bx 5) 0 [] (.agg [(.int .i64 e_19.1), (.int .i64 e_19.2)]))) (.ref (.bx 5) 0 [1] (.int .i64 e_19.2)) h5 rfl rfl ?_
      refine g_v1 (t := 30) (u := (.ref (.bx 5) 0 [1] (.int .i64 e_19.2))) (.int .i64 e_19.2) rfl rfl rfl ?_
      obtain ⟨e_23, E_e_23, h⟩ := bind_some h
      refine g_v (.ref (.at 8 []) e_19.2.toNat [] (.int .i64 e_23)) (ev_idxO (o := (.of (w_10.set e_19.1.toNat (ior .i64 e_20 q_21)))) rfl rfl E_e_23 rfl) ?_
      refine g_v1 (t := 32) (u := (.ref (.at 8 []) e_19.2.toNat [] (.int .i64 e_23))) (.int .i64 e_23) rfl rfl rfl ?_
      refine g_v1 (t := 5) (u := (.ref (.bx 5) 0 [] (.agg [(.int .i64 e_19.1), (.int .i64 e_19.2)]))) (.ref (.bx 5) 0 [0] (.int .i64 e_19.1)) h5 rfl rfl ?_
      refine g_v1 (t := 34) (u := (.ref (.bx 5) 0 [0] (.int .i64 e_19.1))) (.int .i64 e_19.1) rfl rfl rfl ?_
      obtain ⟨q_24, E_q_24, h⟩ := bind_some h
      refine g_v (.int .i64 q_24) (ev_shl rfl rfl E_q_24) ?_
      refine g_v2 (t1 := 33) (t2 := 36) (u1 := (.int .i64 e_23)) (u2 := (.int .i64 q_24)) (.int .i64 (ior .i64 e_23 q_24)) rfl rfl rfl rfl ?_
      obtain ⟨e_25, E_e_25, h⟩ := bind_some h
      refine g_v (.ref (.at 8 []) e_19.2.toNat [] (.int .i64 e_25)) (ev_idxO (o := (.of (w_10.set e_19.1.toNat (ior .i64 e_20 q_21)))) rfl rfl E_e_25 rfl) ?_
      refine g_store (.int .i64 (ior .i64 e_23 q_24)) (rd_of rfl rfl) (rd_of rfl rfl) (by refine ⟨by decide, by decide, rfl, rfl, rfl, ?_⟩; first | rfl | simp [V.toks, V.tokss, Enc.toks_enc]) ?_
      refine g_end ?_
      refine e_end ?_
      refine renew [(2, (.ref (.bx 2) 0 [] (.agg [(.sl .nl (Enc.shp Int) 0 [])]))), (3, (.ref (.bx 3) 0 [] (.agg [(encO (.at 8 []) (.of ((w_10.set e_19.1.toNat (ior .i64 e_20 q_21)).set e_19.2.toNat (ior .i64 e_23 q_24) : List Int)))]))), (11, (Enc.enc (g_1.2 : List (Int × Int)))), (12, (.int .i64 (g_1.2.length : Int))), (13, (.int .i64 t13_11))] ⟨(keep_mut h2 (mut_ref_ne rfl rfl (mut_agg (muts_cons rfl rfl)))), (keep_mut h3 (mut_ref_ne rfl rfl (mut_agg (muts_cons mut_own rfl)))), (keep_mut h11 (Enc.mut_enc _ _ _ _ (g_1.2 : List (Int × Int)))), (keep_mut h12 rfl), (keep_mut h13 rfl)⟩ ?_
      rintro s ⟨h2, h3, h11, h12, h13⟩
      refine .nbk ?_
      refine .nsq ?_
      refine run_reg ?_
      refine e_end ?_
      refine g_v1 (t := 13) (u := (.int .i64 t13_11)) (.int .i64 (w64 (t13_11 + 1))) h13 rfl rfl ?_
      refine g_v1 (t := 39) (u := (.int .i64 (w64 (t13_11 + 1)))) (.int .i64 (w64 (t13_11 + 1))) rfl rfl rfl ?_
      refine g_end ?_
      refine e_end ?_
      refine renew [(2, (.ref (.bx 2) 0 [] (.agg [(.sl .nl (Enc.shp Int) 0 [])]))), (3, (.ref (.bx 3) 0 [] (.agg [(encO (.at 8 []) (.of ((w_10.set e_19.1.toNat (ior .i64 e_20 q_21)).set e_19.2.toNat (ior .i64 e_23 q_24) : List Int)))]))), (11, (Enc.enc (g_1.2 : List (Int × Int)))), (12, (.int .i64 (g_1.2.length : Int))), (13, (.int .i64 (w64 (t13_11 + 1))))] ⟨h2, h3, h11, h12, rfl⟩ ?_
      rintro s ⟨h2, h3, h11, h12, h13⟩
      refine .nlp ?_
      exact ih ((w_10.set e_19.1.toNat (ior .i64 e_20 q_21)).set e_19.2.toNat (ior .i64 e_23 q_24)) (w64 (t13_11 + 1)) _ ⟨h2, h3, h11, h12, h13⟩ h
    · refine .exit ?_
      refine .esq ?_
      refine .elp ?_
      refine .ebk ?_
      refine .nsq ?_
      refine .seq ?_
      refine run_reg ?_
      refine e_end ?_
      refine g_v1 (t := 3) (u := (.ref (.bx 3) 0 [] (.agg [(encO (.at 8 []) (.of (w_10 : List Int)))]))) (.agg [(encO (.at 8 []) (.of (w_10 : List Int)))]) h3 rfl rfl ?_
      refine g_store (.agg [(encO (.at 8 []) (.of (w_10 : List Int)))]) (rd_of h2 rfl) (rd_of rfl rfl) (by refine ⟨by decide, by decide, rfl, rfl, rfl, ?_⟩; first | rfl | simp [V.toks, V.tokss, Enc.toks_enc]) ?_
      refine g_end ?_
      refine e_end ?_
      refine renew [(2, (.ref (.bx 2) 0 [] (.agg [(encO (.at 8 []) (.of (w_10 : List Int)))])))] (keep_mut h2 rfl) ?_
      rintro s h2
      refine .nsq ?_
      refine .ret ?_
      have hr := Option.some.inj h
      subst hr
      exact rrA (res_cell h2 (by kernel_rfl)) (fin_retF (fin_agg (fins_cons (fin_own (o := .of w_10)) fins_nil)) (mine_agg (mines_cons (mine_own rfl) mines_nil)))
def i_netOf (F : Nat) (g_1 : (Int × (List (Int × Int)))) : Option (S1 (List Int)) :=
  (mkN g_1.1 0).bind fun mk_2 =>
  i_netOf_l1 F g_1 F mk_2 0
theorem t67 (H : H67 D σ F) (g_1 : (Int × (List (Int × Int)))) (s : Nat → V) (hs : Facts [(0, (.agg [(.int .i64 g_1.1), (Enc.enc (g_1.2 : List (Int × Int)))]))] s) (h : i_netOf F g_1 = some r) : Run D σ (R67 r) (.run A67 []) s := by
  unfold i_netOf at h
  have h0 := hs
  refine .seq ?_
  refine run_reg ?_
  refine e_clr ?_
  refine e_end ?_
  refine g_box (.agg [(.int .i64 g_1.1), (Enc.enc (g_1.2 : List (Int × Int)))]) (rd_of (keep_clear (s := s) (pk := [1, 2]) h0 rfl (map_agg (maps_cons rfl (maps_cons (Enc.map_enc _ (g_1.2 : List (Int × Int))) maps_nil)))) rfl) (gone_clear (s := s) (pk := [1, 2]) (t := 1) rfl) rfl ?_
  refine g_alloc (gone_clear (s := s) (pk := [1, 2]) (t := 2) rfl) ?_
  refine g_end ?_
  refine e_end ?_
  refine renew [(1, (.ref (.bx 1) 0 [] (.agg [(.int .i64 g_1.1), (Enc.enc (g_1.2 : List (Int × Int)))]))), (2, (.ref (.bx 2) 0 [] (.agg [(.sl .nl (Enc.shp Int) 0 [])])))] ⟨rfl, rfl⟩ ?_
  rintro s ⟨h1, h2⟩
  refine .nsq ?_
  refine .seq ?_
  refine run_reg ?_
  refine e_clr ?_
  refine e_end ?_
  refine g_v1 (t := 1) (u := (.ref (.bx 1) 0 [] (.agg [(.int .i64 g_1.1), (Enc.enc (g_1.2 : List (Int × Int)))]))) (.ref (.bx 1) 0 [0] (.int .i64 g_1.1)) (keep_clear (s := s) (pk := [8, 3]) h1 rfl (map_bx rfl (map_agg (maps_cons rfl (maps_cons (Enc.map_enc _ (g_1.2 : List (Int × Int))) maps_nil))))) rfl rfl ?_
  refine g_v1 (t := 6) (u := (.ref (.bx 1) 0 [0] (.int .i64 g_1.1))) (.int .i64 g_1.1) rfl rfl rfl ?_
  obtain ⟨mk_2, E_mk_2, h⟩ := bind_some h
  refine g_mk (0 : Int) rfl rfl (gone_clear (s := s) (pk := [8, 3]) (t := 8) rfl) E_mk_2 ?_
  refine g_v1 (t := 8) (u := (encO (.at 8 []) (.of (mk_2 : List Int)))) (.agg [(encO (.at 8 []) (.of (mk_2 : List Int)))]) rfl rfl rfl ?_
  refine g_alloc (gone_clear (s := s) (pk := [8, 3]) (t := 3) rfl) ?_
  refine g_store (.agg [(encO (.at 8 []) (.of (mk_2 : List Int)))]) (rd_of rfl rfl) (rd_of rfl rfl) (by refine ⟨by decide, by decide, rfl, rfl, rfl, ?_⟩; first | rfl | simp [V.toks, V.tokss, Enc.toks_enc]) ?_
  refine g_end ?_
  refine e_end ?_
  refine renew [(1, (.ref (.bx 1) 0 [] (.agg [(.int .i64 g_1.1), (Enc.enc (g_1.2 : List (Int × Int)))]))), (2, (.ref (.bx 2) 0 [] (.agg [(.sl .nl (Enc.shp Int) 0 [])]))), (3, (.ref (.bx 3) 0 [] (.agg [(encO (.at 8 []) (.of (mk_2 : List Int)))])))] ⟨(keep_mut (keep_clear (s := s) (pk := [8, 3]) h1 rfl (map_bx rfl (map_agg (maps_cons rfl (maps_cons (Enc.map_enc _ (g_1.2 : List (Int × Int))) maps_nil))))) (mut_ref_ne rfl rfl (mut_agg (muts_cons rfl (muts_cons (Enc.mut_enc _ _ _ _ (g_1.2 : List (Int × Int))) rfl))))), (keep_mut (keep_clear (s := s) (pk := [8, 3]) h2 rfl (map_bx rfl (map_agg (maps_cons rfl maps_nil)))) (mut_ref_ne rfl rfl (mut_agg (muts_cons rfl rfl)))), (keep_mut rfl rfl)⟩ ?_
  rintro s ⟨h1, h2, h3⟩
  refine .nsq ?_
  refine .seq ?_
  refine .seq ?_
  refine run_reg ?_
  refine e_end ?_
  refine g_v1 (t := 1) (u := (.ref (.bx 1) 0 [] (.agg [(.int .i64 g_1.1), (Enc.enc (g_1.2 : List (Int × Int)))]))) (.ref (.bx 1) 0 [1] (Enc.enc (g_1.2 : List (Int × Int)))) h1 rfl rfl ?_
  refine g_v1 (t := 10) (u := (.ref (.bx 1) 0 [1] (Enc.enc (g_1.2 : List (Int × Int))))) (Enc.enc (g_1.2 : List (Int × Int))) rfl rfl rfl ?_
  refine g_v (.int .i64 (g_1.2.length : Int)) (ev_len (xs := g_1.2) rfl) ?_
  refine g_v0 (.int .i64 0) rfl rfl ?_
  refine g_end ?_
  refine e_end ?_
  refine renew [(2, (.ref (.bx 2) 0 [] (.agg [(.sl .nl (Enc.shp Int) 0 [])]))), (3, (.ref (.bx 3) 0 [] (.agg [(encO (.at 8 []) (.of (mk_2 : List Int)))]))), (11, (Enc.enc (g_1.2 : List (Int × Int)))), (12, (.int .i64 (g_1.2.length : Int))), (13, (.int .i64 0))] ⟨h2, h3, rfl, rfl, rfl⟩ ?_
  rintro s ⟨h2, h3, h11, h12, h13⟩
  refine .nsq ?_
  refine .block ?_
  refine .loop ?_
  exact t_f67_l1 H g_1 F mk_2 0 _ ⟨h2, h3, h11, h12, h13⟩ h
end
def e67 (F : Nat) : Ent := ⟨67, da (fun (x : ((Int × (List (Int × Int))) × Unit)) => i_netOf F x.1) (fun (r : (S1 (List Int))) => (Enc.enc (r : (S1 (List Int))))), 0, false, selF []⟩
theorem p67 {F : Nat} {x0 : (Int × (List (Int × Int)))} {r : (S1 (List Int))} (h : i_netOf F x0 = some r) : (e67 F).den [Enc.enc x0] = some (Enc.enc (r : (S1 (List Int)))) := da_put (f := fun (x : ((Int × (List (Int × Int))) × Unit)) => i_netOf F x.1) (t := fun (r : (S1 (List Int))) => (Enc.enc (r : (S1 (List Int))))) (x0, ()) h
theorem o67 {D : Den} {σ : Sig} {F : Nat} (hF : Fits2 Try.prog D σ) (H : H67 D σ F) : (e67 F).Ok Try.prog := by
  refine ⟨fun args r h => ?_, ⟨Try.f67, Try.func67, rfl, rfl⟩⟩
  obtain ⟨⟨x0, _⟩, y, rfl, hy, rfl⟩ := da_open h
  exact contract_run hF (by kernel_rfl) Try.func67 rfl c67 (show 1 ≤ Try.f67.ntmps by decide) (t67 H x0 _ rfl hy)
/- (loop.example/g01109/impl.net).all -/
def A112_1 : AC := (AC.seq (AC.reg [] [(I.mk (some 3) none false (X.v (A.fld (O.t 1) 0 0))), (I.mk (some 4) none false (X.v (A.load Sh.p (O.t 3)))), (I.mk (some 5) none false (X.v (A.len (O.t 4)))), (I.mk (some 6) none false (X.v (A.bin BinOp.shl (O.k (V.int IntKind.i64 (Int.ofNat 1))) (O.t 5)))), (I.mk (some 7) none false (X.v (A.bin BinOp.sub (O.t 6) (O.k (V.int IntKind.i64 (Int.ofNat 1)))))), (I.mk (some 2) none false (X.v (A.mov (O.t 7))))] []) AC.ret)
def A112 : AC := (AC.seq (AC.reg [.clr [1]] [(I.mk (some 1) none false (X.box (O.t 0))), (I.mk (some 2) none false (X.v (A.mov (O.k (V.int IntKind.i64 (Int.ofNat 0))))))] []) A112_1)
def an112 : List An := [{ id := 0, pre := [.clr [1]], ep := [], lin := [], sp := [] }]
theorem c112 : cC Try.prog Try.f112.ntmps an112 (Try.f112.body.getD .skip) = some A112 := by kernel_rfl
structure H112 (D : Den) (σ : Sig) (F : Nat) : Prop where
  mk ::
abbrev R112 (r : Int) : (Nat → V) → Prop := RR Try.prog [.tmp 2] 0 false (Enc.enc (r : Int))
section
variable {D : Den} {σ : Sig} {F : Nat} {r : Int}
def i_net_all (F : Nat) (w_1 : (S1 (List Int))) : Option Int :=
  (shlI .i64 1 (w_1.a.length : Int)).bind fun q_2 =>
  some (w64 (q_2 - 1))
theorem t112 (H : H112 D σ F) (w_1 : (S1 (List Int))) (s : Nat → V) (hs : Facts [(0, (.agg [(Enc.enc (w_1.a : List Int))]))] s) (h : i_net_all F w_1 = some r) : Run D σ (R112 r) (.run A112 []) s := by
  unfold i_net_all at h
  have h0 := hs
  refine .seq ?_
  refine run_reg ?_
  refine e_clr ?_
  refine e_end ?_
  refine g_box (.agg [(Enc.enc (w_1.a : List Int))]) (rd_of (keep_clear (s := s) (pk := [1]) h0 rfl (map_agg (maps_cons (Enc.map_enc _ (w_1.a : List Int)) maps_nil))) rfl) (gone_clear (s := s) (pk := [1]) (t := 1) rfl) rfl ?_
  refine g_v0 (.int .i64 0) rfl rfl ?_
  refine g_end ?_
  refine e_end ?_
  refine renew [(1, (.ref (.bx 1) 0 [] (.agg [(Enc.enc (w_1.a : List Int))]))), (2, (.int .i64 0))] ⟨rfl, rfl⟩ ?_
  rintro s ⟨h1, h2⟩
  refine .nsq ?_
  refine .seq ?_
  refine run_reg ?_
  refine e_end ?_
  refine g_v1 (t := 1) (u := (.ref (.bx 1) 0 [] (.agg [(Enc.enc (w_1.a : List Int))]))) (.ref (.bx 1) 0 [0] (Enc.enc (w_1.a : List Int))) h1 rfl rfl ?_
  refine g_v1 (t := 3) (u := (.ref (.bx 1) 0 [0] (Enc.enc (w_1.a : List Int)))) (Enc.enc (w_1.a : List Int)) rfl rfl rfl ?_
  refine g_v (.int .i64 (w_1.a.length : Int)) (ev_len (xs := w_1.a) rfl) ?_
  obtain ⟨q_2, E_q_2, h⟩ := bind_some h
  refine g_v (.int .i64 q_2) (ev_shl rfl rfl E_q_2) ?_
  refine g_v1 (t := 6) (u := (.int .i64 q_2)) (.int .i64 (w64 (q_2 - 1))) rfl rfl rfl ?_
  refine g_v1 (t := 7) (u := (.int .i64 (w64 (q_2 - 1)))) (.int .i64 (w64 (q_2 - 1))) rfl rfl rfl ?_
  refine g_end ?_
  refine e_end ?_
  refine renew [(2, (.int .i64 (w64 (q_2 - 1))))] rfl ?_
  rintro s h2
  refine .nsq ?_
  refine .ret ?_
  have hr := Option.some.inj h
  subst hr
  exact rrA (res_tmp h2) rfl
end
def e112 (F : Nat) : Ent := ⟨112, da (fun (x : ((S1 (List Int)) × Unit)) => i_net_all F x.1) (fun (r : Int) => (Enc.enc (r : Int))), 0, false, selF []⟩
theorem p112 {F : Nat} {x0 : (S1 (List Int))} {r : Int} (h : i_net_all F x0 = some r) : (e112 F).den [Enc.enc x0] = some (Enc.enc (r : Int)) := da_put (f := fun (x : ((S1 (List Int)) × Unit)) => i_net_all F x.1) (t := fun (r : Int) => (Enc.enc (r : Int))) (x0, ()) h
theorem o112 {D : Den} {σ : Sig} {F : Nat} (hF : Fits2 Try.prog D σ) (H : H112 D σ F) : (e112 F).Ok Try.prog := by
  refine ⟨fun args r h => ?_, ⟨Try.f112, Try.func112, rfl, rfl⟩⟩
  obtain ⟨⟨x0, _⟩, y, rfl, hy, rfl⟩ := da_open h
  exact contract_run hF (by kernel_rfl) Try.func112 rfl c112 (show 1 ≤ Try.f112.ntmps by decide) (t112 H x0 _ rfl hy)
/- (loop.example/g01109/impl.net).size -/
def A130_1 : AC := (AC.seq (AC.reg [] [(I.mk (some 3) none false (X.v (A.fld (O.t 1) 0 0))), (I.mk (some 4) none false (X.v (A.load Sh.p (O.t 3)))), (I.mk (some 5) none false (X.v (A.len (O.t 4)))), (I.mk (some 2) none false (X.v (A.mov (O.t 5))))] []) AC.ret)
def A130 : AC := (AC.seq (AC.reg [.clr [1]] [(I.mk (some 1) none false (X.box (O.t 0))), (I.mk (some 2) none false (X.v (A.mov (O.k (V.int IntKind.i64 (Int.ofNat 0))))))] []) A130_1)
def an130 : List An := [{ id := 0, pre := [.clr [1]], ep := [], lin := [], sp := [] }]
theorem c130 : cC Try.prog Try.f130.ntmps an130 (Try.f130.body.getD .skip) = some A130 := by kernel_rfl
structure H130 (D : Den) (σ : Sig) (F : Nat) : Prop where
  mk ::
abbrev R130 (r : Int) : (Nat → V) → Prop := RR Try.prog [.tmp 2] 0 false (Enc.enc (r : Int))
section
variable {D : Den} {σ : Sig} {F : Nat} {r : Int}
def i_net_size (F : Nat) (w_1 : (S1 (List Int))) : Option Int :=
  some (w_1.a.length : Int)
theorem t130 (H : H130 D σ F) (w_1 : (S1 (List Int))) (s : Nat → V) (hs : Facts [(0, (.agg [(Enc.enc (w_1.a : List Int))]))] s) (h : i_net_size F w_1 = some r) : Run D σ (R130 r) (.run A130 []) s := by
  unfold i_net_size at h
  have h0 := hs
  refine .seq ?_
  refine run_reg ?_
  refine e_clr ?_
  refine e_end ?_
  refine g_box (.agg [(Enc.enc (w_1.a : List Int))]) (rd_of (keep_clear (s := s) (pk := [1]) h0 rfl (map_agg (maps_cons (Enc.map_enc _ (w_1.a : List Int)) maps_nil))) rfl) (gone_clear (s := s) (pk := [1]) (t := 1) rfl) rfl ?_
  refine g_v0 (.int .i64 0) rfl rfl ?_
  refine g_end ?_
  refine e_end ?_
  refine renew [(1, (.ref (.bx 1) 0 [] (.agg [(Enc.enc (w_1.a : List Int))]))), (2, (.int .i64 0))] ⟨rfl, rfl⟩ ?_
  rintro s ⟨h1, h2⟩
  refine .nsq ?_
  refine .seq ?_
  refine run_reg ?_
  refine e_end ?_
  refine g_v1 (t := 1) (u := (.ref (.bx 1) 0 [] (.agg [(Enc.enc (w_1.a : List Int))]))) (.ref (.bx 1) 0 [0] (Enc.enc (w_1.a : List Int))) h1 rfl rfl ?_
  refine g_v1 (t := 3) (u := (.ref (.bx 1) 0 [0] (Enc.enc (w_1.a : List Int)))) (Enc.enc (w_1.a : List Int)) rfl rfl rfl ?_
  refine g_v (.int .i64 (w_1.a.length : Int)) (ev_len (xs := w_1.a) rfl) ?_
  refine g_v1 (t := 5) (u := (.int .i64 (w_1.a.length : Int))) (.int .i64 (w_1.a.length : Int)) rfl rfl rfl ?_
  refine g_end ?_
  refine e_end ?_
  refine renew [(2, (.int .i64 (w_1.a.length : Int)))] rfl ?_
  rintro s h2
  refine .nsq ?_
  refine .ret ?_
  have hr := Option.some.inj h
  subst hr
  exact rrA (res_tmp h2) rfl
end
def e130 (F : Nat) : Ent := ⟨130, da (fun (x : ((S1 (List Int)) × Unit)) => i_net_size F x.1) (fun (r : Int) => (Enc.enc (r : Int))), 0, false, selF []⟩
theorem p130 {F : Nat} {x0 : (S1 (List Int))} {r : Int} (h : i_net_size F x0 = some r) : (e130 F).den [Enc.enc x0] = some (Enc.enc (r : Int)) := da_put (f := fun (x : ((S1 (List Int)) × Unit)) => i_net_size F x.1) (t := fun (r : Int) => (Enc.enc (r : Int))) (x0, ()) h
theorem o130 {D : Den} {σ : Sig} {F : Nat} (hF : Fits2 Try.prog D σ) (H : H130 D σ F) : (e130 F).Ok Try.prog := by
  refine ⟨fun args r h => ?_, ⟨Try.f130, Try.func130, rfl, rfl⟩⟩
  obtain ⟨⟨x0, _⟩, y, rfl, hy, rfl⟩ := da_open h
  exact contract_run hF (by kernel_rfl) Try.func130 rfl c130 (show 1 ≤ Try.f130.ntmps by decide) (t130 H x0 _ rfl hy)
/- (loop.example/g01109/impl.net).around -/
def A123_5 : AC := (AC.cond (O.t 21) (AC.reg [] [(I.mk (some 22) none false (X.v (A.mov (O.t 5)))), (I.mk (some 23) none false (X.v (A.mov (O.t 7)))), (I.mk (some 24) none false (X.v (A.bin BinOp.or (O.t 22) (O.t 23)))), (I.mk (some 5) none false (X.v (A.mov (O.t 24))))] []) AC.skip)
def A123_4 : AC := (AC.seq (AC.reg [] [(I.mk (some 17) none false (X.v (A.mov (O.t 1)))), (I.mk (some 18) none false (X.v (A.mov (O.t 6)))), (I.mk (some 19) none false (X.v (A.bin BinOp.shr (O.t 17) (O.t 18)))), (I.mk (some 20) none false (X.v (A.bin BinOp.and (O.t 19) (O.k (V.int IntKind.i64 (Int.ofNat 1)))))), (I.mk (some 21) none false (X.v (A.bin BinOp.eql (O.t 20) (O.k (V.int IntKind.i64 (Int.ofNat 1))))))] []) A123_5)
def A123_6 : AC := (AC.reg [] [(I.mk (some 25) none false (X.v (A.bin BinOp.add (O.t 12) (O.k (V.int IntKind.i64 (Int.ofNat 1)))))), (I.mk (some 12) none false (X.v (A.mov (O.t 25))))] [])
def A123_3 : AC := (AC.seq (AC.block 1 (AC.seq (AC.reg [] [(I.mk (some 14) none false (X.v (A.mov (O.t 12)))), (I.mk (some 15) none false (X.v (A.idx (O.t 10) (O.t 12) 1))), (I.mk (some 16) none false (X.v (A.load Sh.s (O.t 15)))), (I.mk (some 6) none false (X.v (A.mov (O.t 14)))), (I.mk (some 7) none false (X.v (A.mov (O.t 16))))] []) A123_4)) A123_6)
def A123_2 : AC := (AC.seq (AC.cond (O.t 13) AC.skip (AC.exit 0)) A123_3)
def A123_1 : AC := (AC.seq (AC.reg [] [(I.mk (some 13) none false (X.v (A.bin BinOp.lss (O.t 12) (O.t 11))))] []) A123_2)
def A123_7 : AC := (AC.seq (AC.reg [] [(I.mk (some 26) none false (X.v (A.mov (O.t 5)))), (I.mk (some 4) none false (X.v (A.mov (O.t 26))))] []) AC.ret)
def A123_10 : AC := (AC.block 0 (AC.loop A123_1))
def A123_9 : AC := (AC.seq (AC.seq (AC.reg [] [(I.mk (some 9) none false (X.v (A.fld (O.t 2) 0 0))), (I.mk (some 10) none false (X.v (A.load Sh.p (O.t 9)))), (I.mk (some 11) none false (X.v (A.len (O.t 10)))), (I.mk (some 12) none false (X.v (A.mov (O.k (V.int IntKind.i64 (Int.ofNat 0))))))] []) A123_10) A123_7)
def A123_8 : AC := (AC.seq (AC.reg [] [(I.mk (some 8) none false (X.v (A.mov (O.t 1)))), (I.mk (some 5) none false (X.v (A.mov (O.t 8))))] []) A123_9)
def A123 : AC := (AC.seq (AC.reg [.clr [2]] [(I.mk (some 2) none false (X.box (O.t 0))), (I.mk (some 4) none false (X.v (A.mov (O.k (V.int IntKind.i64 (Int.ofNat 0))))))] []) A123_8)
def an123 : List An := [{ id := 0, pre := [.clr [2]], ep := [], lin := [], sp := [] }]
theorem c123 : cC Try.prog Try.f123.ntmps an123 (Try.f123.body.getD .skip) = some A123 := by kernel_rfl
structure H123 (D : Den) (σ : Sig) (F : Nat) : Prop where
  mk ::
abbrev R123 (r : Int) : (Nat → V) → Prop := RR Try.prog [.tmp 4] 0 false (Enc.enc (r : Int))
section
variable {D : Den} {σ : Sig} {F : Nat} {r : Int}
def i_net_around_j1 (F : Nat) (set_2 : Int) (w_1 : (S1 (List Int))) (t12_7 : Int) (c1 : Int → Int → Option Int) (out_13 : Int) : Option Int :=
  c1 out_13 (w64 (t12_7 + 1))
theorem t_f123_j1 (H : H123 D σ F) (set_2 : Int) (w_1 : (S1 (List Int))) (t12_7 : Int) (c1 : Int → Int → Option Int) (Hc1 : ∀ (out_6 : Int) (t12_7 : Int) (s : Nat → V), Facts [(1, (.int .i64 set_2)), (4, (.int .i64 0)), (5, (.int .i64 out_6)), (10, (Enc.enc (w_1.a : List Int))), (11, (.int .i64 (w_1.a.length : Int))), (12, (.int .i64 t12_7))] s → c1 out_6 t12_7 = some r → Run D σ (R123 r) (.run A123_1 [.lp A123_1, .bk 0, .sq A123_7]) s) (out_13 : Int) (s : Nat → V) (hs : Facts [(1, (.int .i64 set_2)), (4, (.int .i64 0)), (5, (.int .i64 out_13)), (10, (Enc.enc (w_1.a : List Int))), (11, (.int .i64 (w_1.a.length : Int))), (12, (.int .i64 t12_7))] s) (h : i_net_around_j1 F set_2 w_1 t12_7 c1 out_13 = some r) : Run D σ (R123 r) (.nrm [.bk 1, .sq A123_6, .lp A123_1, .bk 0, .sq A123_7]) s := by
  unfold i_net_around_j1 at h
  obtain ⟨h1, h4, h5, h10, h11, h12⟩ := hs
  refine .nbk ?_
  refine .nsq ?_
  refine run_reg ?_
  refine e_end ?_
  refine g_v1 (t := 12) (u := (.int .i64 t12_7)) (.int .i64 (w64 (t12_7 + 1))) h12 rfl rfl ?_
  refine g_v1 (t := 25) (u := (.int .i64 (w64 (t12_7 + 1)))) (.int .i64 (w64 (t12_7 + 1))) rfl rfl rfl ?_
  refine g_end ?_
  refine e_end ?_
  refine renew [(1, (.int .i64 set_2)), (4, (.int .i64 0)), (5, (.int .i64 out_13)), (10, (Enc.enc (w_1.a : List Int))), (11, (.int .i64 (w_1.a.length : Int))), (12, (.int .i64 (w64 (t12_7 + 1))))] ⟨h1, h4, h5, h10, h11, rfl⟩ ?_
  rintro s ⟨h1, h4, h5, h10, h11, h12⟩
  refine .nlp ?_
  exact Hc1 out_13 (w64 (t12_7 + 1)) _ ⟨h1, h4, h5, h10, h11, h12⟩ h
def i_net_around_l1 (F : Nat) (set_2 : Int) (w_1 : (S1 (List Int)))  : Nat → Int → Int → Option Int
  | 0, _, _ => none
  | k + 1, out_6, t12_7 =>
    bif decide (t12_7 < (w_1.a.length : Int)) then
      (idx w_1.a t12_7).bind fun e_11 =>
      (shrI .i64 set_2 t12_7).bind fun q_12 =>
      bif ((iand .i64 q_12 1) == 1) then
        i_net_around_j1 F set_2 w_1 t12_7 (i_net_around_l1 F set_2 w_1 k) (ior .i64 out_6 e_11)
      else
        i_net_around_j1 F set_2 w_1 t12_7 (i_net_around_l1 F set_2 w_1 k) out_6
    else
      some out_6
theorem t_f123_l1 (H : H123 D σ F) (set_2 : Int) (w_1 : (S1 (List Int)))  : ∀ (k : Nat) (out_6 : Int) (t12_7 : Int) (s : Nat → V), Facts [(1, (.int .i64 set_2)), (4, (.int .i64 0)), (5, (.int .i64 out_6)), (10, (Enc.enc (w_1.a : List Int))), (11, (.int .i64 (w_1.a.length : Int))), (12, (.int .i64 t12_7))] s → i_net_around_l1 F set_2 w_1 k out_6 t12_7 = some r → Run D σ (R123 r) (.run A123_1 [.lp A123_1, .bk 0, .sq A123_7]) s := by
  intro k
  induction k with
  | zero => intro out_6 t12_7 s _ h; exact nomatch (h : (none : Option _) = some r)
  | succ k ih =>
    intro out_6 t12_7 s hs h
    rw [i_net_around_l1] at h
    obtain ⟨h1, h4, h5, h10, h11, h12⟩ := hs
    refine .seq ?_
    refine run_reg ?_
    refine e_end ?_
    refine g_v2 (t1 := 12) (t2 := 11) (u1 := (.int .i64 t12_7)) (u2 := (.int .i64 (w_1.a.length : Int))) (.bool (decide (t12_7 < (w_1.a.length : Int)))) h12 h11 rfl rfl ?_
    refine g_end ?_
    refine e_end ?_
    refine renew [(1, (.int .i64 set_2)), (4, (.int .i64 0)), (5, (.int .i64 out_6)), (10, (Enc.enc (w_1.a : List Int))), (11, (.int .i64 (w_1.a.length : Int))), (12, (.int .i64 t12_7)), (13, (.bool (decide (t12_7 < (w_1.a.length : Int)))))] ⟨h1, h4, h5, h10, h11, h12, rfl⟩ ?_
    rintro s ⟨h1, h4, h5, h10, h11, h12, h13⟩
    refine .nsq ?_
    refine .seq ?_
    refine run_cond (t := decide (t12_7 < (w_1.a.length : Int))) h13 h (fun h => ?_) (fun h => ?_)
    · refine .skip ?_
      refine .nsq ?_
      refine .seq ?_
      refine .block ?_
      refine .seq ?_
      refine run_reg ?_
      refine e_end ?_
      refine g_v1 (t := 12) (u := (.int .i64 t12_7)) (.int .i64 t12_7) h12 rfl rfl ?_
      obtain ⟨e_11, E_e_11, h⟩ := bind_some h
      refine g_v (.ref .sh 0 [] (.int .i64 e_11)) (ev_idx (t := .sh) (lo := 0) (xs := w_1.a) h10 h12 E_e_11 rfl rfl) ?_
      refine g_v1 (t := 15) (u := (.ref .sh 0 [] (.int .i64 e_11))) (.int .i64 e_11) rfl rfl rfl ?_
      refine g_v1 (t := 14) (u := (.int .i64 t12_7)) (.int .i64 t12_7) rfl rfl rfl ?_
      refine g_v1 (t := 16) (u := (.int .i64 e_11)) (.int .i64 e_11) rfl rfl rfl ?_
      refine g_end ?_
      refine e_end ?_
      refine renew [(1, (.int .i64 set_2)), (4, (.int .i64 0)), (5, (.int .i64 out_6)), (6, (.int .i64 t12_7)), (7, (.int .i64 e_11)), (10, (Enc.enc (w_1.a : List Int))), (11, (.int .i64 (w_1.a.length : Int))), (12, (.int .i64 t12_7))] ⟨h1, h4, h5, rfl, rfl, h10, h11, h12⟩ ?_
      rintro s ⟨h1, h4, h5, h6, h7, h10, h11, h12⟩
      refine .nsq ?_
      refine .seq ?_
      refine run_reg ?_
      refine e_end ?_
      refine g_v1 (t := 1) (u := (.int .i64 set_2)) (.int .i64 set_2) h1 rfl rfl ?_
      refine g_v1 (t := 6) (u := (.int .i64 t12_7)) (.int .i64 t12_7) h6 rfl rfl ?_
      obtain ⟨q_12, E_q_12, h⟩ := bind_some h
      refine g_v (.int .i64 q_12) (ev_shr rfl rfl E_q_12) ?_
      refine g_v1 (t := 19) (u := (.int .i64 q_12)) (.int .i64 (iand .i64 q_12 1)) rfl rfl rfl ?_
      refine g_v1 (t := 20) (u := (.int .i64 (iand .i64 q_12 1))) (.bool ((iand .i64 q_12 1) == 1)) rfl rfl rfl ?_
      refine g_end ?_
      refine e_end ?_
      refine renew [(1, (.int .i64 set_2)), (4, (.int .i64 0)), (5, (.int .i64 out_6)), (7, (.int .i64 e_11)), (10, (Enc.enc (w_1.a : List Int))), (11, (.int .i64 (w_1.a.length : Int))), (12, (.int .i64 t12_7)), (21, (.bool ((iand .i64 q_12 1) == 1)))] ⟨h1, h4, h5, h7, h10, h11, h12, rfl⟩ ?_
      rintro s ⟨h1, h4, h5, h7, h10, h11, h12, h21⟩
      refine .nsq ?_
      refine run_cond (t := ((iand .i64 q_12 1) == 1)) h21 h (fun h => ?_) (fun h => ?_)
      · refine run_reg ?_
        refine e_end ?_
        refine g_v1 (t := 5) (u := (.int .i64 out_6)) (.int .i64 out_6) h5 rfl rfl ?_
        refine g_v1 (t := 7) (u := (.int .i64 e_11)) (.int .i64 e_11) h7 rfl rfl ?_
        refine g_v2 (t1 := 22) (t2 := 23) (u1 := (.int .i64 out_6)) (u2 := (.int .i64 e_11)) (.int .i64 (ior .i64 out_6 e_11)) rfl rfl rfl rfl ?_
        refine g_v1 (t := 24) (u := (.int .i64 (ior .i64 out_6 e_11))) (.int .i64 (ior .i64 out_6 e_11)) rfl rfl rfl ?_
        refine g_end ?_
        refine e_end ?_
        refine renew [(1, (.int .i64 set_2)), (4, (.int .i64 0)), (5, (.int .i64 (ior .i64 out_6 e_11))), (10, (Enc.enc (w_1.a : List Int))), (11, (.int .i64 (w_1.a.length : Int))), (12, (.int .i64 t12_7))] ⟨h1, h4, rfl, h10, h11, h12⟩ ?_
        rintro s ⟨h1, h4, h5, h10, h11, h12⟩
        exact t_f123_j1 H set_2 w_1 t12_7 (i_net_around_l1 F set_2 w_1 k) ih (ior .i64 out_6 e_11) _ ⟨h1, h4, h5, h10, h11, h12⟩ h
      · refine .skip ?_
        exact t_f123_j1 H set_2 w_1 t12_7 (i_net_around_l1 F set_2 w_1 k) ih out_6 _ ⟨h1, h4, h5, h10, h11, h12⟩ h
    · refine .exit ?_
      refine .esq ?_
      refine .elp ?_
      refine .ebk ?_
      refine .nsq ?_
      refine .seq ?_
      refine run_reg ?_
      refine e_end ?_
      refine g_v1 (t := 5) (u := (.int .i64 out_6)) (.int .i64 out_6) h5 rfl rfl ?_
      refine g_v1 (t := 26) (u := (.int .i64 out_6)) (.int .i64 out_6) rfl rfl rfl ?_
      refine g_end ?_
      refine e_end ?_
      refine renew [(4, (.int .i64 out_6))] rfl ?_
      rintro s h4
      refine .nsq ?_
      refine .ret ?_
      have hr := Option.some.inj h
      subst hr
      exact rrA (res_tmp h4) rfl
def i_net_around (F : Nat) (w_1 : (S1 (List Int))) (set_2 : Int) : Option Int :=
  i_net_around_l1 F set_2 w_1 F set_2 0
theorem t123 (H : H123 D σ F) (w_1 : (S1 (List Int))) (set_2 : Int) (s : Nat → V) (hs : Facts [(0, (.agg [(Enc.enc (w_1.a : List Int))])), (1, (.int .i64 set_2))] s) (h : i_net_around F w_1 set_2 = some r) : Run D σ (R123 r) (.run A123 []) s := by
  unfold i_net_around at h
  obtain ⟨h0, h1⟩ := hs
  refine .seq ?_
  refine run_reg ?_
  refine e_clr ?_
  refine e_end ?_
  refine g_box (.agg [(Enc.enc (w_1.a : List Int))]) (rd_of (keep_clear (s := s) (pk := [2]) h0 rfl (map_agg (maps_cons (Enc.map_enc _ (w_1.a : List Int)) maps_nil))) rfl) (gone_clear (s := s) (pk := [2]) (t := 2) rfl) rfl ?_
  refine g_v0 (.int .i64 0) rfl rfl ?_
  refine g_end ?_
  refine e_end ?_
  refine renew [(1, (.int .i64 set_2)), (2, (.ref (.bx 2) 0 [] (.agg [(Enc.enc (w_1.a : List Int))]))), (4, (.int .i64 0))] ⟨(keep_clear (s := s) (pk := [2]) h1 rfl rfl), rfl, rfl⟩ ?_
  rintro s ⟨h1, h2, h4⟩
  refine .nsq ?_
  refine .seq ?_
  refine run_reg ?_
  refine e_end ?_
  refine g_v1 (t := 1) (u := (.int .i64 set_2)) (.int .i64 set_2) h1 rfl rfl ?_
  refine g_v1 (t := 8) (u := (.int .i64 set_2)) (.int .i64 set_2) rfl rfl rfl ?_
  refine g_end ?_
  refine e_end ?_
  refine renew [(1, (.int .i64 set_2)), (2, (.ref (.bx 2) 0 [] (.agg [(Enc.enc (w_1.a : List Int))]))), (4, (.int .i64 0)), (5, (.int .i64 set_2))] ⟨h1, h2, h4, rfl⟩ ?_
  rintro s ⟨h1, h2, h4, h5⟩
  refine .nsq ?_
  refine .seq ?_
  refine .seq ?_
  refine run_reg ?_
  refine e_end ?_
  refine g_v1 (t := 2) (u := (.ref (.bx 2) 0 [] (.agg [(Enc.enc (w_1.a : List Int))]))) (.ref (.bx 2) 0 [0] (Enc.enc (w_1.a : List Int))) h2 rfl rfl ?_
  refine g_v1 (t := 9) (u := (.ref (.bx 2) 0 [0] (Enc.enc (w_1.a : List Int)))) (Enc.enc (w_1.a : List Int)) rfl rfl rfl ?_
  refine g_v (.int .i64 (w_1.a.length : Int)) (ev_len (xs := w_1.a) rfl) ?_
  refine g_v0 (.int .i64 0) rfl rfl ?_
  refine g_end ?_
  refine e_end ?_
  refine renew [(1, (.int .i64 set_2)), (4, (.int .i64 0)), (5, (.int .i64 set_2)), (10, (Enc.enc (w_1.a : List Int))), (11, (.int .i64 (w_1.a.length : Int))), (12, (.int .i64 0))] ⟨h1, h4, h5, rfl, rfl, rfl⟩ ?_
  rintro s ⟨h1, h4, h5, h10, h11, h12⟩
  refine .nsq ?_
  refine .block ?_
  refine .loop ?_
  exact t_f123_l1 H set_2 w_1 F set_2 0 _ ⟨h1, h4, h5, h10, h11, h12⟩ h
end
def e123 (F : Nat) : Ent := ⟨123, da (fun (x : ((S1 (List Int)) × Int × Unit)) => i_net_around F x.1 x.2.1) (fun (r : Int) => (Enc.enc (r : Int))), 0, false, selF []⟩
theorem p123 {F : Nat} {x0 : (S1 (List Int))} {x1 : Int} {r : Int} (h : i_net_around F x0 x1 = some r) : (e123 F).den [Enc.enc x0, Enc.enc x1] = some (Enc.enc (r : Int)) := da_put (f := fun (x : ((S1 (List Int)) × Int × Unit)) => i_net_around F x.1 x.2.1) (t := fun (r : Int) => (Enc.enc (r : Int))) (x0, x1, ()) h
theorem o123 {D : Den} {σ : Sig} {F : Nat} (hF : Fits2 Try.prog D σ) (H : H123 D σ F) : (e123 F).Ok Try.prog := by
  refine ⟨fun args r h => ?_, ⟨Try.f123, Try.func123, rfl, rfl⟩⟩
  obtain ⟨⟨x0, x1, _⟩, y, rfl, hy, rfl⟩ := da_open h
  exact contract_run hF (by kernel_rfl) Try.func123 rfl c123 (show 2 ≤ Try.f123.ntmps by decide) (t123 H x0 x1 _ ⟨rfl, rfl⟩ hy)
/- (loop.example/g01109/impl.net).after -/
def A113_3 : AC := (AC.cond (O.t 55) (AC.seq (AC.reg [] [(I.mk (some 56) none false (X.v (A.load (Sh.ag [Sh.s, Sh.s]) (O.t 4)))), (I.mk none none false (X.store (Sh.ag [Sh.s, Sh.s]) (O.t 6) (O.t 56))), (I.mk (some 7) none false (X.v (A.mov (O.k (V.bool true)))))] []) AC.ret) AC.skip)
def A113_4 : AC := (AC.reg [] [(I.mk (some 57) none false (X.v (A.mov (O.t 9)))), (I.mk (some 58) none false (X.v (A.fld (O.t 4) 1 1))), (I.mk none none false (X.store Sh.s (O.t 58) (O.t 57)))] [])
def A113_2 : AC := (AC.seq (AC.seq (AC.reg [] [(I.mk (some 52) none false (X.v (A.mov (O.t 9)))), (I.mk (some 53) none false (X.v (A.fld (O.t 4) 1 1))), (I.mk (some 54) none false (X.v (A.load Sh.s (O.t 53)))), (I.mk (some 55) none false (X.v (A.bin BinOp.eql (O.t 52) (O.t 54))))] []) A113_3) A113_4)
def A113_1 : AC := (AC.block 1 (AC.seq (AC.reg [] [(I.mk (some 45) none false (X.v (A.load (Sh.ag [Sh.p]) (O.t 3)))), (I.mk (some 46) none false (X.v (A.fld (O.t 4) 1 1))), (I.mk (some 47) none false (X.v (A.load Sh.s (O.t 46)))), (I.mk (some 48) none false (X.call (O.k (V.fn 123 [] [])) [(O.t 45), (O.t 47)])), (I.mk (some 49) none false (X.v (A.fld (O.t 4) 0 0))), (I.mk (some 50) none false (X.v (A.load Sh.s (O.t 49)))), (I.mk (some 51) none false (X.v (A.bin BinOp.andNot (O.t 48) (O.t 50)))), (I.mk (some 9) none false (X.v (A.mov (O.t 51))))] []) A113_2))
def A113_5 : AC := (AC.cond (O.t 31) (AC.seq (AC.reg [] [(I.mk (some 32) none false (X.v (A.load (Sh.ag [Sh.s, Sh.s]) (O.t 4)))), (I.mk none none false (X.store (Sh.ag [Sh.s, Sh.s]) (O.t 6) (O.t 32))), (I.mk (some 7) none false (X.v (A.mov (O.k (V.bool false)))))] []) AC.ret) AC.skip)
def A113_8 : AC := (AC.block 0 (AC.loop A113_1))
def A113_7 : AC := (AC.seq (AC.reg [] [(I.mk (some 39) none false (X.v (A.fld (O.t 4) 1 1))), (I.mk (some 40) none false (X.v (A.load Sh.s (O.t 39)))), (I.mk (some 41) none false (X.v (A.fld (O.t 4) 0 0))), (I.mk (some 42) none false (X.v (A.load Sh.s (O.t 41)))), (I.mk (some 43) none false (X.v (A.bin BinOp.andNot (O.t 40) (O.t 42)))), (I.mk (some 44) none false (X.v (A.fld (O.t 4) 1 1))), (I.mk none none false (X.store Sh.s (O.t 44) (O.t 43)))] []) A113_8)
def A113_6 : AC := (AC.seq (AC.reg [] [(I.mk (some 33) none false (X.v (A.fld (O.t 4) 0 0))), (I.mk (some 34) none false (X.v (A.load Sh.s (O.t 33)))), (I.mk (some 35) none false (X.v (A.mov (O.t 8)))), (I.mk (some 36) none false (X.v (A.bin BinOp.shl (O.k (V.int IntKind.i64 (Int.ofNat 1))) (O.t 35)))), (I.mk (some 37) none false (X.v (A.bin BinOp.xor (O.t 34) (O.t 36)))), (I.mk (some 38) none false (X.v (A.fld (O.t 4) 0 0))), (I.mk none none false (X.store Sh.s (O.t 38) (O.t 37)))] []) A113_7)
def A113_9 : AC := (AC.seq (AC.seq (AC.reg [] [(I.mk (some 15) none false (X.v (A.mov (O.t 8)))), (I.mk (some 16) none false (X.v (A.load (Sh.ag [Sh.p]) (O.t 3)))), (I.mk (some 17) none false (X.call (O.k (V.fn 130 [] [])) [(O.t 16)])), (I.mk (some 18) none false (X.v (A.bin BinOp.sub (O.t 17) (O.k (V.int IntKind.i64 (Int.ofNat 1)))))), (I.mk (some 19) none false (X.call (O.k (V.fn 62 [] [])) [(O.t 15), (O.k (V.int IntKind.i64 (Int.ofNat 0))), (O.t 18)])), (I.mk (some 20) none false (X.v (A.un UnOp.not (O.t 19)))), (I.mk (some 21) none false (X.v (A.mov (O.t 20)))), (I.mk (some 22) (some (21, false)) false (X.v (A.fld (O.t 4) 0 0))), (I.mk (some 23) (some (21, false)) false (X.v (A.load Sh.s (O.t 22)))), (I.mk (some 24) (some (21, false)) false (X.v (A.mov (O.t 8)))), (I.mk (some 25) (some (21, false)) false (X.v (A.bin BinOp.shr (O.t 23) (O.t 24)))), (I.mk (some 26) (some (21, false)) false (X.v (A.bin BinOp.and (O.t 25) (O.k (V.int IntKind.i64 (Int.ofNat 1)))))), (I.mk (some 27) (some (21, false)) false (X.v (A.bin BinOp.eql (O.t 26) (O.k (V.int IntKind.i64 (Int.ofNat 1)))))), (I.mk (some 28) (some (21, false)) false (X.v (A.mov (O.t 2)))), (I.mk (some 29) (some (21, false)) false (X.v (A.bin BinOp.lss (O.t 28) (O.k (V.int IntKind.i64 (Int.ofNat 0)))))), (I.mk (some 30) (some (21, false)) false (X.v (A.beq true (O.t 27) (O.t 29)))), (I.mk (some 31) none false (X.v (A.pick (O.t 21) (O.k (V.bool true)) (O.t 30))))] []) A113_5) A113_6)
def A113_12 : AC := (AC.cond (O.t 12) (AC.reg [] [(I.mk (some 13) none false (X.v (A.mov (O.t 2)))), (I.mk (some 14) none false (X.v (A.bin BinOp.sub (O.k (V.int IntKind.i64 (Int.negSucc 0))) (O.t 13)))), (I.mk (some 8) none false (X.v (A.mov (O.t 14))))] []) AC.skip)
def A113_11 : AC := (AC.seq (AC.seq (AC.reg [] [(I.mk (some 11) none false (X.v (A.mov (O.t 2)))), (I.mk (some 12) none false (X.v (A.bin BinOp.lss (O.t 11) (O.k (V.int IntKind.i64 (Int.ofNat 0))))))] []) A113_12) A113_9)
def A113_10 : AC := (AC.seq (AC.reg [] [(I.mk (some 10) none false (X.v (A.mov (O.t 2)))), (I.mk (some 8) none false (X.v (A.mov (O.t 10))))] []) A113_11)
def A113 : AC := (AC.seq (AC.reg [.clr [3, 4, 6]] [(I.mk (some 3) none false (X.box (O.t 0))), (I.mk (some 4) none false (X.box (O.t 1))), (I.mk (some 6) none false (X.alloc (V.agg [(V.int IntKind.i64 (Int.ofNat 0)), (V.int IntKind.i64 (Int.ofNat 0))]))), (I.mk (some 7) none false (X.v (A.mov (O.k (V.bool false)))))] []) A113_10)
def an113 : List An := [{ id := 0, pre := [.clr [3, 4, 6]], ep := [], lin := [], sp := [] }]
theorem c113 : cC Try.prog Try.f113.ntmps an113 (Try.f113.body.getD .skip) = some A113 := by kernel_rfl
structure H113 (D : Den) (σ : Sig) (F : Nat) : Prop where
  c130 : ∀ (x0 : (S1 (List Int))) r, i_net_size F x0 = some r → D 130 [Enc.enc x0] = some (Enc.enc (r : Int))
  g130 : σ 130 = some (0, false)
  c62 : ∀ (x0 : Int) (x1 : Int) (x2 : Int) r, i_within F x0 x1 x2 = some r → D 62 [Enc.enc x0, Enc.enc x1, Enc.enc x2] = some (Enc.enc (r : Bool))
  g62 : σ 62 = some (0, false)
  c123 : ∀ (x0 : (S1 (List Int))) (x1 : Int) r, i_net_around F x0 x1 = some r → D 123 [Enc.enc x0, Enc.enc x1] = some (Enc.enc (r : Int))
  g123 : σ 123 = some (0, false)
abbrev R113 (r : ((Int × Int) × Bool)) : (Nat → V) → Prop := RR Try.prog [.cell 6 74, .tmp 7] 0 false (.tup [Enc.enc (r.1 : (Int × Int)), Enc.enc (r.2 : Bool)])
section
variable {D : Den} {σ : Sig} {F : Nat} {r : ((Int × Int) × Bool)}
def i_net_after_l1 (F : Nat) (w_1 : (S1 (List Int))) (s_2 : (Int × Int)) (q_9 : Int)  : Nat → Int → Option ((Int × Int) × Bool)
  | 0, _ => none
  | k + 1, s_11 =>
    (i_net_around F w_1 s_11).bind fun r_13 =>
    bif ((iandNot .i64 r_13 (ixor .i64 s_2.1 q_9)) == s_11) then
      some ((ixor .i64 s_2.1 q_9, s_11), true)
    else
      (i_net_after_l1 F w_1 s_2 q_9 k) (iandNot .i64 r_13 (ixor .i64 s_2.1 q_9))
theorem t_f113_l1 (H : H113 D σ F) (w_1 : (S1 (List Int))) (s_2 : (Int × Int)) (q_9 : Int)  : ∀ (k : Nat) (s_11 : Int) (s : Nat → V), Facts [(3, (.ref (.bx 3) 0 [] (.agg [(Enc.enc (w_1.a : List Int))]))), (4, (.ref (.bx 4) 0 [] (.agg [(.int .i64 (ixor .i64 s_2.1 q_9)), (.int .i64 s_11)]))), (6, (.ref (.bx 6) 0 [] (.agg [(.int .i64 0), (.int .i64 0)]))), (7, (.bool false))] s → i_net_after_l1 F w_1 s_2 q_9 k s_11 = some r → Run D σ (R113 r) (.run A113_1 [.lp A113_1, .bk 0]) s := by
  intro k
  induction k with
  | zero => intro s_11 s _ h; exact nomatch (h : (none : Option _) = some r)
  | succ k ih =>
    intro s_11 s hs h
    rw [i_net_after_l1] at h
    obtain ⟨h3, h4, h6, h7⟩ := hs
    refine .block ?_
    refine .seq ?_
    refine run_reg ?_
    refine e_end ?_
    refine g_v1 (t := 3) (u := (.ref (.bx 3) 0 [] (.agg [(Enc.enc (w_1.a : List Int))]))) (.agg [(Enc.enc (w_1.a : List Int))]) h3 rfl rfl ?_
    refine g_v1 (t := 4) (u := (.ref (.bx 4) 0 [] (.agg [(.int .i64 (ixor .i64 s_2.1 q_9)), (.int .i64 s_11)]))) (.ref (.bx 4) 0 [1] (.int .i64 s_11)) h4 rfl rfl ?_
    refine g_v1 (t := 46) (u := (.ref (.bx 4) 0 [1] (.int .i64 s_11))) (.int .i64 s_11) rfl rfl rfl ?_
    obtain ⟨r_13, E_r_13, h⟩ := bind_some h
    refine g_call (m := 0) (al := false) (r := (Enc.enc (r_13 : Int))) [Enc.enc (w_1 : (S1 (List Int))), Enc.enc (s_11 : Int)] (ta_cons (v := (.agg [(Enc.enc (w_1.a : List Int))])) rfl rfl (Enc.erase_enc (w_1 : (S1 (List Int)))) (ta_cons (v := (.int .i64 s_11)) rfl rfl rfl ta_nil)) (H.c123 _ _ _ E_r_13) H.g123 rfl rfl rfl rfl ?_
    refine g_v1 (t := 4) (u := (.ref (.bx 4) 0 [] (.agg [(.int .i64 (ixor .i64 s_2.1 q_9)), (.int .i64 s_11)]))) (.ref (.bx 4) 0 [0] (.int .i64 (ixor .i64 s_2.1 q_9))) h4 rfl rfl ?_
    refine g_v1 (t := 49) (u := (.ref (.bx 4) 0 [0] (.int .i64 (ixor .i64 s_2.1 q_9)))) (.int .i64 (ixor .i64 s_2.1 q_9)) rfl rfl rfl ?_
    refine g_v2 (t1 := 48) (t2 := 50) (u1 := (.int .i64 r_13)) (u2 := (.int .i64 (ixor .i64 s_2.1 q_9))) (.int .i64 (iandNot .i64 r_13 (ixor .i64 s_2.1 q_9))) rfl rfl rfl rfl ?_
    refine g_v1 (t := 51) (u := (.int .i64 (iandNot .i64 r_13 (ixor .i64 s_2.1 q_9)))) (.int .i64 (iandNot .i64 r_13 (ixor .i64 s_2.1 q_9))) rfl rfl rfl ?_
    refine g_end ?_
    refine e_end ?_
    refine renew [(3, (.ref (.bx 3) 0 [] (.agg [(Enc.enc (w_1.a : List Int))]))), (4, (.ref (.bx 4) 0 [] (.agg [(.int .i64 (ixor .i64 s_2.1 q_9)), (.int .i64 s_11)]))), (6, (.ref (.bx 6) 0 [] (.agg [(.int .i64 0), (.int .i64 0)]))), (7, (.bool false)), (9, (.int .i64 (iandNot .i64 r_13 (ixor .i64 s_2.1 q_9))))] ⟨h3, h4, h6, h7, rfl⟩ ?_
    rintro s ⟨h3, h4, h6, h7, h9⟩
    refine .nsq ?_
    refine .seq ?_
    refine .seq ?_
    refine run_reg ?_
    refine e_end ?_
    refine g_v1 (t := 9) (u := (.int .i64 (iandNot .i64 r_13 (ixor .i64 s_2.1 q_9)))) (.int .i64 (iandNot .i64 r_13 (ixor .i64 s_2.1 q_9))) h9 rfl rfl ?_
    refine g_v1 (t := 4) (u := (.ref (.bx 4) 0 [] (.agg [(.int .i64 (ixor .i64 s_2.1 q_9)), (.int .i64 s_11)]))) (.ref (.bx 4) 0 [1] (.int .i64 s_11)) h4 rfl rfl ?_
    refine g_v1 (t := 53) (u := (.ref (.bx 4) 0 [1] (.int .i64 s_11))) (.int .i64 s_11) rfl rfl rfl ?_
    refine g_v2 (t1 := 52) (t2 := 54) (u1 := (.int .i64 (iandNot .i64 r_13 (ixor .i64 s_2.1 q_9)))) (u2 := (.int .i64 s_11)) (.bool ((iandNot .i64 r_13 (ixor .i64 s_2.1 q_9)) == s_11)) rfl rfl rfl rfl ?_
    refine g_end ?_
    refine e_end ?_
    refine renew [(3, (.ref (.bx 3) 0 [] (.agg [(Enc.enc (w_1.a : List Int))]))), (4, (.ref (.bx 4) 0 [] (.agg [(.int .i64 (ixor .i64 s_2.1 q_9)), (.int .i64 s_11)]))), (6, (.ref (.bx 6) 0 [] (.agg [(.int .i64 0), (.int .i64 0)]))), (7, (.bool false)), (9, (.int .i64 (iandNot .i64 r_13 (ixor .i64 s_2.1 q_9)))), (55, (.bool ((iandNot .i64 r_13 (ixor .i64 s_2.1 q_9)) == s_11)))] ⟨h3, h4, h6, h7, h9, rfl⟩ ?_
    rintro s ⟨h3, h4, h6, h7, h9, h55⟩
    refine .nsq ?_
    refine run_cond (t := ((iandNot .i64 r_13 (ixor .i64 s_2.1 q_9)) == s_11)) h55 h (fun h => ?_) (fun h => ?_)
    · refine .seq ?_
      refine run_reg ?_
      refine e_end ?_
      refine g_v1 (t := 4) (u := (.ref (.bx 4) 0 [] (.agg [(.int .i64 (ixor .i64 s_2.1 q_9)), (.int .i64 s_11)]))) (.agg [(.int .i64 (ixor .i64 s_2.1 q_9)), (.int .i64 s_11)]) h4 rfl rfl ?_
      refine g_store (.agg [(.int .i64 (ixor .i64 s_2.1 q_9)), (.int .i64 s_11)]) (rd_of h6 rfl) (rd_of rfl rfl) (by refine ⟨by decide, by decide, rfl, rfl, rfl, ?_⟩; first | rfl | simp [V.toks, V.tokss, Enc.toks_enc]) ?_
      refine g_v0 (.bool true) rfl rfl ?_
      refine g_end ?_
      refine e_end ?_
      refine renew [(3, (.ref (.bx 3) 0 [] (.agg [(Enc.enc (w_1.a : List Int))]))), (4, (.ref (.bx 4) 0 [] (.agg [(.int .i64 (ixor .i64 s_2.1 q_9)), (.int .i64 s_11)]))), (6, (.ref (.bx 6) 0 [] (.agg [(.int .i64 (ixor .i64 s_2.1 q_9)), (.int .i64 s_11)]))), (7, (.bool true)), (9, (.int .i64 (iandNot .i64 r_13 (ixor .i64 s_2.1 q_9))))] ⟨(keep_mut h3 (mut_ref_ne rfl rfl (mut_agg (muts_cons (Enc.mut_enc _ _ _ _ (w_1.a : List Int)) rfl)))), (keep_mut h4 rfl), (keep_mut h6 rfl), rfl, (keep_mut h9 rfl)⟩ ?_
      rintro s ⟨h3, h4, h6, h7, h9⟩
      refine .nsq ?_
      refine .ret ?_
      have hr := Option.some.inj h
      subst hr
      exact rrB (res_cell h6 (by kernel_rfl)) (res_tmp h7) rfl
    · refine .skip ?_
      refine .nsq ?_
      refine run_reg ?_
      refine e_end ?_
      refine g_v1 (t := 9) (u := (.int .i64 (iandNot .i64 r_13 (ixor .i64 s_2.1 q_9)))) (.int .i64 (iandNot .i64 r_13 (ixor .i64 s_2.1 q_9))) h9 rfl rfl ?_
      refine g_v1 (t := 4) (u := (.ref (.bx 4) 0 [] (.agg [(.int .i64 (ixor .i64 s_2.1 q_9)), (.int .i64 s_11)]))) (.ref (.bx 4) 0 [1] (.int .i64 s_11)) h4 rfl rfl ?_
      refine g_store (.int .i64 (iandNot .i64 r_13 (ixor .i64 s_2.1 q_9))) (rd_of rfl rfl) (rd_of rfl rfl) (by refine ⟨by decide, by decide, rfl, rfl, rfl, ?_⟩; first | rfl | simp [V.toks, V.tokss, Enc.toks_enc]) ?_
      refine g_end ?_
      refine e_end ?_
      refine renew [(3, (.ref (.bx 3) 0 [] (.agg [(Enc.enc (w_1.a : List Int))]))), (4, (.ref (.bx 4) 0 [] (.agg [(.int .i64 (ixor .i64 s_2.1 q_9)), (.int .i64 (iandNot .i64 r_13 (ixor .i64 s_2.1 q_9)))]))), (6, (.ref (.bx 6) 0 [] (.agg [(.int .i64 0), (.int .i64 0)]))), (7, (.bool false))] ⟨(keep_mut h3 (mut_ref_ne rfl rfl (mut_agg (muts_cons (Enc.mut_enc _ _ _ _ (w_1.a : List Int)) rfl)))), (keep_mut h4 rfl), (keep_mut h6 rfl), (keep_mut h7 rfl)⟩ ?_
      rintro s ⟨h3, h4, h6, h7⟩
      refine .nbk ?_
      refine .nlp ?_
      exact ih (iandNot .i64 r_13 (ixor .i64 s_2.1 q_9)) _ ⟨h3, h4, h6, h7⟩ h
def i_net_after_j1 (F : Nat) (w_1 : (S1 (List Int))) (s_2 : (Int × Int)) (x_4 : Int)  (t31_8 : Bool) : Option ((Int × Int) × Bool) :=
  bif t31_8 then
    some (s_2, false)
  else
    (shlI .i64 1 x_4).bind fun q_9 =>
    i_net_after_l1 F w_1 s_2 q_9 F (iandNot .i64 s_2.2 (ixor .i64 s_2.1 q_9))
theorem t_f113_j1 (H : H113 D σ F) (w_1 : (S1 (List Int))) (s_2 : (Int × Int)) (x_4 : Int)  (t31_8 : Bool) (s : Nat → V) (hs : Facts [(3, (.ref (.bx 3) 0 [] (.agg [(Enc.enc (w_1.a : List Int))]))), (4, (.ref (.bx 4) 0 [] (.agg [(.int .i64 s_2.1), (.int .i64 s_2.2)]))), (6, (.ref (.bx 6) 0 [] (.agg [(.int .i64 0), (.int .i64 0)]))), (7, (.bool false)), (8, (.int .i64 x_4)), (31, (.bool t31_8))] s) (h : i_net_after_j1 F w_1 s_2 x_4  t31_8 = some r) : Run D σ (R113 r) (.nrm [.sq A113_5, .sq A113_6]) s := by
  unfold i_net_after_j1 at h
  obtain ⟨h3, h4, h6, h7, h8, h31⟩ := hs
  refine .nsq ?_
  refine run_cond (t := t31_8) h31 h (fun h => ?_) (fun h => ?_)
  · refine .seq ?_
    refine run_reg ?_
    refine e_end ?_
    refine g_v1 (t := 4) (u := (.ref (.bx 4) 0 [] (.agg [(.int .i64 s_2.1), (.int .i64 s_2.2)]))) (.agg [(.int .i64 s_2.1), (.int .i64 s_2.2)]) h4 rfl rfl ?_
    refine g_store (.agg [(.int .i64 s_2.1), (.int .i64 s_2.2)]) (rd_of h6 rfl) (rd_of rfl rfl) (by refine ⟨by decide, by decide, rfl, rfl, rfl, ?_⟩; first | rfl | simp [V.toks, V.tokss, Enc.toks_enc]) ?_
    refine g_v0 (.bool false) rfl rfl ?_
    refine g_end ?_
    refine e_end ?_
    refine renew [(3, (.ref (.bx 3) 0 [] (.agg [(Enc.enc (w_1.a : List Int))]))), (4, (.ref (.bx 4) 0 [] (.agg [(.int .i64 s_2.1), (.int .i64 s_2.2)]))), (6, (.ref (.bx 6) 0 [] (.agg [(.int .i64 s_2.1), (.int .i64 s_2.2)]))), (7, (.bool false)), (8, (.int .i64 x_4))] ⟨(keep_mut h3 (mut_ref_ne rfl rfl (mut_agg (muts_cons (Enc.mut_enc _ _ _ _ (w_1.a : List Int)) rfl)))), (keep_mut h4 rfl), (keep_mut h6 rfl), rfl, (keep_mut h8 rfl)⟩ ?_
    rintro s ⟨h3, h4, h6, h7, h8⟩
    refine .nsq ?_
    refine .ret ?_
    have hr := Option.some.inj h
    subst hr
    exact rrB (res_cell h6 (by kernel_rfl)) (res_tmp h7) rfl
  · refine .skip ?_
    refine .nsq ?_
    refine .seq ?_
    refine run_reg ?_
    refine e_end ?_
    refine g_v1 (t := 4) (u := (.ref (.bx 4) 0 [] (.agg [(.int .i64 s_2.1), (.int .i64 s_2.2)]))) (.ref (.bx 4) 0 [0] (.int .i64 s_2.1)) h4 rfl rfl ?_
    refine g_v1 (t := 33) (u := (.ref (.bx 4) 0 [0] (.int .i64 s_2.1))) (.int .i64 s_2.1) rfl rfl rfl ?_
    refine g_v1 (t := 8) (u := (.int .i64 x_4)) (.int .i64 x_4) h8 rfl rfl ?_
    obtain ⟨q_9, E_q_9, h⟩ := bind_some h
    refine g_v (.int .i64 q_9) (ev_shl rfl rfl E_q_9) ?_
    refine g_v2 (t1 := 34) (t2 := 36) (u1 := (.int .i64 s_2.1)) (u2 := (.int .i64 q_9)) (.int .i64 (ixor .i64 s_2.1 q_9)) rfl rfl rfl rfl ?_
    refine g_v1 (t := 4) (u := (.ref (.bx 4) 0 [] (.agg [(.int .i64 s_2.1), (.int .i64 s_2.2)]))) (.ref (.bx 4) 0 [0] (.int .i64 s_2.1)) h4 rfl rfl ?_
    refine g_store (.int .i64 (ixor .i64 s_2.1 q_9)) (rd_of rfl rfl) (rd_of rfl rfl) (by refine ⟨by decide, by decide, rfl, rfl, rfl, ?_⟩; first | rfl | simp [V.toks, V.tokss, Enc.toks_enc]) ?_
    refine g_end ?_
    refine e_end ?_
    refine renew [(3, (.ref (.bx 3) 0 [] (.agg [(Enc.enc (w_1.a : List Int))]))), (4, (.ref (.bx 4) 0 [] (.agg [(.int .i64 (ixor .i64 s_2.1 q_9)), (.int .i64 s_2.2)]))), (6, (.ref (.bx 6) 0 [] (.agg [(.int .i64 0), (.int .i64 0)]))), (7, (.bool false))] ⟨(keep_mut h3 (mut_ref_ne rfl rfl (mut_agg (muts_cons (Enc.mut_enc _ _ _ _ (w_1.a : List Int)) rfl)))), (keep_mut h4 rfl), (keep_mut h6 rfl), (keep_mut h7 rfl)⟩ ?_
    rintro s ⟨h3, h4, h6, h7⟩
    refine .nsq ?_
    refine .seq ?_
    refine run_reg ?_
    refine e_end ?_
    refine g_v1 (t := 4) (u := (.ref (.bx 4) 0 [] (.agg [(.int .i64 (ixor .i64 s_2.1 q_9)), (.int .i64 s_2.2)]))) (.ref (.bx 4) 0 [1] (.int .i64 s_2.2)) h4 rfl rfl ?_
    refine g_v1 (t := 39) (u := (.ref (.bx 4) 0 [1] (.int .i64 s_2.2))) (.int .i64 s_2.2) rfl rfl rfl ?_
    refine g_v1 (t := 4) (u := (.ref (.bx 4) 0 [] (.agg [(.int .i64 (ixor .i64 s_2.1 q_9)), (.int .i64 s_2.2)]))) (.ref (.bx 4) 0 [0] (.int .i64 (ixor .i64 s_2.1 q_9))) h4 rfl rfl ?_
    refine g_v1 (t := 41) (u := (.ref (.bx 4) 0 [0] (.int .i64 (ixor .i64 s_2.1 q_9)))) (.int .i64 (ixor .i64 s_2.1 q_9)) rfl rfl rfl ?_
    refine g_v2 (t1 := 40) (t2 := 42) (u1 := (.int .i64 s_2.2)) (u2 := (.int .i64 (ixor .i64 s_2.1 q_9))) (.int .i64 (iandNot .i64 s_2.2 (ixor .i64 s_2.1 q_9))) rfl rfl rfl rfl ?_
    refine g_v1 (t := 4) (u := (.ref (.bx 4) 0 [] (.agg [(.int .i64 (ixor .i64 s_2.1 q_9)), (.int .i64 s_2.2)]))) (.ref (.bx 4) 0 [1] (.int .i64 s_2.2)) h4 rfl rfl ?_
    refine g_store (.int .i64 (iandNot .i64 s_2.2 (ixor .i64 s_2.1 q_9))) (rd_of rfl rfl) (rd_of rfl rfl) (by refine ⟨by decide, by decide, rfl, rfl, rfl, ?_⟩; first | rfl | simp [V.toks, V.tokss, Enc.toks_enc]) ?_
    refine g_end ?_
    refine e_end ?_
    refine renew [(3, (.ref (.bx 3) 0 [] (.agg [(Enc.enc (w_1.a : List Int))]))), (4, (.ref (.bx 4) 0 [] (.agg [(.int .i64 (ixor .i64 s_2.1 q_9)), (.int .i64 (iandNot .i64 s_2.2 (ixor .i64 s_2.1 q_9)))]))), (6, (.ref (.bx 6) 0 [] (.agg [(.int .i64 0), (.int .i64 0)]))), (7, (.bool false))] ⟨(keep_mut h3 (mut_ref_ne rfl rfl (mut_agg (muts_cons (Enc.mut_enc _ _ _ _ (w_1.a : List Int)) rfl)))), (keep_mut h4 rfl), (keep_mut h6 rfl), (keep_mut h7 rfl)⟩ ?_
    rintro s ⟨h3, h4, h6, h7⟩
    refine .nsq ?_
    refine .block ?_
    refine .loop ?_
    exact t_f113_l1 H w_1 s_2 q_9 F (iandNot .i64 s_2.2 (ixor .i64 s_2.1 q_9)) _ ⟨h3, h4, h6, h7⟩ h
def i_net_after_j2 (F : Nat) (step_3 : Int) (w_1 : (S1 (List Int))) (s_2 : (Int × Int))  (x_4 : Int) : Option ((Int × Int) × Bool) :=
  (i_net_size F w_1).bind fun r_14 =>
  (i_within F x_4 0 (w64 (r_14 - 1))).bind fun r_15 =>
  bif (!r_15) then
    i_net_after_j1 F w_1 s_2 x_4 true
  else
    (shrI .i64 s_2.1 x_4).bind fun q_16 =>
    i_net_after_j1 F w_1 s_2 x_4 (((iand .i64 q_16 1) == 1) != (decide (step_3 < 0)))
theorem t_f113_j2 (H : H113 D σ F) (step_3 : Int) (w_1 : (S1 (List Int))) (s_2 : (Int × Int))  (x_4 : Int) (s : Nat → V) (hs : Facts [(2, (.int .i64 step_3)), (3, (.ref (.bx 3) 0 [] (.agg [(Enc.enc (w_1.a : List Int))]))), (4, (.ref (.bx 4) 0 [] (.agg [(.int .i64 s_2.1), (.int .i64 s_2.2)]))), (6, (.ref (.bx 6) 0 [] (.agg [(.int .i64 0), (.int .i64 0)]))), (7, (.bool false)), (8, (.int .i64 x_4))] s) (h : i_net_after_j2 F step_3 w_1 s_2  x_4 = some r) : Run D σ (R113 r) (.nrm [.sq A113_9]) s := by
  unfold i_net_after_j2 at h
  obtain ⟨h2, h3, h4, h6, h7, h8⟩ := hs
  refine .nsq ?_
  refine .seq ?_
  refine .seq ?_
  refine run_reg ?_
  refine e_end ?_
  refine g_v1 (t := 8) (u := (.int .i64 x_4)) (.int .i64 x_4) h8 rfl rfl ?_
  refine g_v1 (t := 3) (u := (.ref (.bx 3) 0 [] (.agg [(Enc.enc (w_1.a : List Int))]))) (.agg [(Enc.enc (w_1.a : List Int))]) h3 rfl rfl ?_
  obtain ⟨r_14, E_r_14, h⟩ := bind_some h
  refine g_call (m := 0) (al := false) (r := (Enc.enc (r_14 : Int))) [Enc.enc (w_1 : (S1 (List Int)))] (ta_cons (v := (.agg [(Enc.enc (w_1.a : List Int))])) rfl rfl (Enc.erase_enc (w_1 : (S1 (List Int)))) ta_nil) (H.c130 _ _ E_r_14) H.g130 rfl rfl rfl rfl ?_
  refine g_v1 (t := 17) (u := (.int .i64 r_14)) (.int .i64 (w64 (r_14 - 1))) rfl rfl rfl ?_
  obtain ⟨r_15, E_r_15, h⟩ := bind_some h
  refine g_call (m := 0) (al := false) (r := (Enc.enc (r_15 : Bool))) [Enc.enc (x_4 : Int), Enc.enc (0 : Int), Enc.enc (w64 (r_14 - 1) : Int)] (ta_cons (v := (.int .i64 x_4)) rfl rfl rfl (ta_cons (v := (.int .i64 0)) rfl rfl rfl (ta_cons (v := (.int .i64 (w64 (r_14 - 1)))) rfl rfl rfl ta_nil))) (H.c62 _ _ _ _ E_r_15) H.g62 rfl rfl rfl rfl ?_
  refine g_v1 (t := 19) (u := (.bool r_15)) (.bool (!r_15)) rfl rfl rfl ?_
  refine g_v1 (t := 20) (u := (.bool (!r_15))) (.bool (!r_15)) rfl rfl rfl ?_
  refine split_on (c := (!r_15)) h (fun hg7 h => ?_) (fun hg7 h => ?_)
  · refine g_no (Eq.trans (b := .bool (!r_15)) rfl (congrArg V.bool hg7)) ?_
    refine g_no (Eq.trans (b := .bool (!r_15)) rfl (congrArg V.bool hg7)) ?_
    refine g_no (Eq.trans (b := .bool (!r_15)) rfl (congrArg V.bool hg7)) ?_
    refine g_no (Eq.trans (b := .bool (!r_15)) rfl (congrArg V.bool hg7)) ?_
    refine g_no (Eq.trans (b := .bool (!r_15)) rfl (congrArg V.bool hg7)) ?_
    refine g_no (Eq.trans (b := .bool (!r_15)) rfl (congrArg V.bool hg7)) ?_
    refine g_no (Eq.trans (b := .bool (!r_15)) rfl (congrArg V.bool hg7)) ?_
    refine g_no (Eq.trans (b := .bool (!r_15)) rfl (congrArg V.bool hg7)) ?_
    refine g_no (Eq.trans (b := .bool (!r_15)) rfl (congrArg V.bool hg7)) ?_
    refine g_v2 (t1 := 21) (t2 := 30) (u1 := (.bool true)) (u2 := (.tup [])) (.bool true) (Eq.trans (b := .bool (!r_15)) rfl (congrArg V.bool hg7)) rfl rfl rfl ?_
    refine g_end ?_
    refine e_end ?_
    refine renew [(3, (.ref (.bx 3) 0 [] (.agg [(Enc.enc (w_1.a : List Int))]))), (4, (.ref (.bx 4) 0 [] (.agg [(.int .i64 s_2.1), (.int .i64 s_2.2)]))), (6, (.ref (.bx 6) 0 [] (.agg [(.int .i64 0), (.int .i64 0)]))), (7, (.bool false)), (8, (.int .i64 x_4)), (31, (.bool true))] ⟨h3, h4, h6, h7, h8, rfl⟩ ?_
    rintro s ⟨h3, h4, h6, h7, h8, h31⟩
    exact t_f113_j1 H w_1 s_2 x_4 true _ ⟨h3, h4, h6, h7, h8, h31⟩ h
  · refine g_yes (Eq.trans (b := .bool (!r_15)) rfl (congrArg V.bool hg7)) (g_v1 (t := 4) (u := (.ref (.bx 4) 0 [] (.agg [(.int .i64 s_2.1), (.int .i64 s_2.2)]))) (.ref (.bx 4) 0 [0] (.int .i64 s_2.1)) h4 rfl rfl ?_)
    refine g_yes (Eq.trans (b := .bool (!r_15)) rfl (congrArg V.bool hg7)) (g_v1 (t := 22) (u := (.ref (.bx 4) 0 [0] (.int .i64 s_2.1))) (.int .i64 s_2.1) rfl rfl rfl ?_)
    refine g_yes (Eq.trans (b := .bool (!r_15)) rfl (congrArg V.bool hg7)) (g_v1 (t := 8) (u := (.int .i64 x_4)) (.int .i64 x_4) h8 rfl rfl ?_)
    obtain ⟨q_16, E_q_16, h⟩ := bind_some h
    refine g_yes (Eq.trans (b := .bool (!r_15)) rfl (congrArg V.bool hg7)) (g_v (.int .i64 q_16) (ev_shr rfl rfl E_q_16) ?_)
    refine g_yes (Eq.trans (b := .bool (!r_15)) rfl (congrArg V.bool hg7)) (g_v1 (t := 25) (u := (.int .i64 q_16)) (.int .i64 (iand .i64 q_16 1)) rfl rfl rfl ?_)
    refine g_yes (Eq.trans (b := .bool (!r_15)) rfl (congrArg V.bool hg7)) (g_v1 (t := 26) (u := (.int .i64 (iand .i64 q_16 1))) (.bool ((iand .i64 q_16 1) == 1)) rfl rfl rfl ?_)
    refine g_yes (Eq.trans (b := .bool (!r_15)) rfl (congrArg V.bool hg7)) (g_v1 (t := 2) (u := (.int .i64 step_3)) (.int .i64 step_3) h2 rfl rfl ?_)
    refine g_yes (Eq.trans (b := .bool (!r_15)) rfl (congrArg V.bool hg7)) (g_v1 (t := 28) (u := (.int .i64 step_3)) (.bool (decide (step_3 < 0))) rfl rfl rfl ?_)
    refine g_yes (Eq.trans (b := .bool (!r_15)) rfl (congrArg V.bool hg7)) (g_v2 (t1 := 27) (t2 := 29) (u1 := (.bool ((iand .i64 q_16 1) == 1))) (u2 := (.bool (decide (step_3 < 0)))) (.bool (((iand .i64 q_16 1) == 1) != (decide (step_3 < 0)))) rfl rfl rfl rfl ?_)
    refine g_v2 (t1 := 21) (t2 := 30) (u1 := (.bool false)) (u2 := (.bool (((iand .i64 q_16 1) == 1) != (decide (step_3 < 0))))) (.bool (((iand .i64 q_16 1) == 1) != (decide (step_3 < 0)))) (Eq.trans (b := .bool (!r_15)) rfl (congrArg V.bool hg7)) rfl rfl rfl ?_
    refine g_end ?_
    refine e_end ?_
    refine renew [(3, (.ref (.bx 3) 0 [] (.agg [(Enc.enc (w_1.a : List Int))]))), (4, (.ref (.bx 4) 0 [] (.agg [(.int .i64 s_2.1), (.int .i64 s_2.2)]))), (6, (.ref (.bx 6) 0 [] (.agg [(.int .i64 0), (.int .i64 0)]))), (7, (.bool false)), (8, (.int .i64 x_4)), (31, (.bool (((iand .i64 q_16 1) == 1) != (decide (step_3 < 0)))))] ⟨h3, h4, h6, h7, h8, rfl⟩ ?_
    rintro s ⟨h3, h4, h6, h7, h8, h31⟩
    exact t_f113_j1 H w_1 s_2 x_4 (((iand .i64 q_16 1) == 1) != (decide (step_3 < 0))) _ ⟨h3, h4, h6, h7, h8, h31⟩ h
def i_net_after (F : Nat) (w_1 : (S1 (List Int))) (s_2 : (Int × Int)) (step_3 : Int) : Option ((Int × Int) × Bool) :=
  bif decide (step_3 < 0) then
    i_net_after_j2 F step_3 w_1 s_2 (w64 ((-1) - step_3))
  else
    i_net_after_j2 F step_3 w_1 s_2 step_3
theorem t113 (H : H113 D σ F) (w_1 : (S1 (List Int))) (s_2 : (Int × Int)) (step_3 : Int) (s : Nat → V) (hs : Facts [(0, (.agg [(Enc.enc (w_1.a : List Int))])), (1, (.agg [(.int .i64 s_2.1), (.int .i64 s_2.2)])), (2, (.int .i64 step_3))] s) (h : i_net_after F w_1 s_2 step_3 = some r) : Run D σ (R113 r) (.run A113 []) s := by
  unfold i_net_after at h
  obtain ⟨h0, h1, h2⟩ := hs
  refine .seq ?_
  refine run_reg ?_
  refine e_clr ?_
  refine e_end ?_
  refine g_box (.agg [(Enc.enc (w_1.a : List Int))]) (rd_of (keep_clear (s := s) (pk := [3, 4, 6]) h0 rfl (map_agg (maps_cons (Enc.map_enc _ (w_1.a : List Int)) maps_nil))) rfl) (gone_clear (s := s) (pk := [3, 4, 6]) (t := 3) rfl) rfl ?_
  refine g_box (.agg [(.int .i64 s_2.1), (.int .i64 s_2.2)]) (rd_of (keep_clear (s := s) (pk := [3, 4, 6]) h1 rfl (map_agg (maps_cons rfl (maps_cons rfl maps_nil)))) rfl) (gone_clear (s := s) (pk := [3, 4, 6]) (t := 4) rfl) rfl ?_
  refine g_alloc (gone_clear (s := s) (pk := [3, 4, 6]) (t := 6) rfl) ?_
  refine g_v0 (.bool false) rfl rfl ?_
  refine g_end ?_
  refine e_end ?_
  refine renew [(2, (.int .i64 step_3)), (3, (.ref (.bx 3) 0 [] (.agg [(Enc.enc (w_1.a : List Int))]))), (4, (.ref (.bx 4) 0 [] (.agg [(.int .i64 s_2.1), (.int .i64 s_2.2)]))), (6, (.ref (.bx 6) 0 [] (.agg [(.int .i64 0), (.int .i64 0)]))), (7, (.bool false))] ⟨(keep_clear (s := s) (pk := [3, 4, 6]) h2 rfl rfl), rfl, rfl, rfl, rfl⟩ ?_
  rintro s ⟨h2, h3, h4, h6, h7⟩
  refine .nsq ?_
  refine .seq ?_
  refine run_reg ?_
  refine e_end ?_
  refine g_v1 (t := 2) (u := (.int .i64 step_3)) (.int .i64 step_3) h2 rfl rfl ?_
  refine g_v1 (t := 10) (u := (.int .i64 step_3)) (.int .i64 step_3) rfl rfl rfl ?_
  refine g_end ?_
  refine e_end ?_
  refine renew [(2, (.int .i64 step_3)), (3, (.ref (.bx 3) 0 [] (.agg [(Enc.enc (w_1.a : List Int))]))), (4, (.ref (.bx 4) 0 [] (.agg [(.int .i64 s_2.1), (.int .i64 s_2.2)]))), (6, (.ref (.bx 6) 0 [] (.agg [(.int .i64 0), (.int .i64 0)]))), (7, (.bool false)), (8, (.int .i64 step_3))] ⟨h2, h3, h4, h6, h7, rfl⟩ ?_
  rintro s ⟨h2, h3, h4, h6, h7, h8⟩
  refine .nsq ?_
  refine .seq ?_
  refine .seq ?_
  refine run_reg ?_
  refine e_end ?_
  refine g_v1 (t := 2) (u := (.int .i64 step_3)) (.int .i64 step_3) h2 rfl rfl ?_
  refine g_v1 (t := 11) (u := (.int .i64 step_3)) (.bool (decide (step_3 < 0))) rfl rfl rfl ?_
  refine g_end ?_
  refine e_end ?_
  refine renew [(2, (.int .i64 step_3)), (3, (.ref (.bx 3) 0 [] (.agg [(Enc.enc (w_1.a : List Int))]))), (4, (.ref (.bx 4) 0 [] (.agg [(.int .i64 s_2.1), (.int .i64 s_2.2)]))), (6, (.ref (.bx 6) 0 [] (.agg [(.int .i64 0), (.int .i64 0)]))), (7, (.bool false)), (8, (.int .i64 step_3)), (12, (.bool (decide (step_3 < 0))))] ⟨h2, h3, h4, h6, h7, h8, rfl⟩ ?_
  rintro s ⟨h2, h3, h4, h6, h7, h8, h12⟩
  refine .nsq ?_
  refine run_cond (t := decide (step_3 < 0)) h12 h (fun h => ?_) (fun h => ?_)
  · refine run_reg ?_
    refine e_end ?_
    refine g_v1 (t := 2) (u := (.int .i64 step_3)) (.int .i64 step_3) h2 rfl rfl ?_
    refine g_v1 (t := 13) (u := (.int .i64 step_3)) (.int .i64 (w64 ((-1) - step_3))) rfl rfl rfl ?_
    refine g_v1 (t := 14) (u := (.int .i64 (w64 ((-1) - step_3)))) (.int .i64 (w64 ((-1) - step_3))) rfl rfl rfl ?_
    refine g_end ?_
    refine e_end ?_
    refine renew [(2, (.int .i64 step_3)), (3, (.ref (.bx 3) 0 [] (.agg [(Enc.enc (w_1.a : List Int))]))), (4, (.ref (.bx 4) 0 [] (.agg [(.int .i64 s_2.1), (.int .i64 s_2.2)]))), (6, (.ref (.bx 6) 0 [] (.agg [(.int .i64 0), (.int .i64 0)]))), (7, (.bool false)), (8, (.int .i64 (w64 ((-1) - step_3))))] ⟨h2, h3, h4, h6, h7, rfl⟩ ?_
    rintro s ⟨h2, h3, h4, h6, h7, h8⟩
    exact t_f113_j2 H step_3 w_1 s_2 (w64 ((-1) - step_3)) _ ⟨h2, h3, h4, h6, h7, h8⟩ h
  · refine .skip ?_
    exact t_f113_j2 H step_3 w_1 s_2 step_3 _ ⟨h2, h3, h4, h6, h7, h8⟩ h
end
def e113 (F : Nat) : Ent := ⟨113, da (fun (x : ((S1 (List Int)) × (Int × Int) × Int × Unit)) => i_net_after F x.1 x.2.1 x.2.2.1) (fun (r : ((Int × Int) × Bool)) => (.tup [Enc.enc (r.1 : (Int × Int)), Enc.enc (r.2 : Bool)])), 0, false, selF []⟩
theorem p113 {F : Nat} {x0 : (S1 (List Int))} {x1 : (Int × Int)} {x2 : Int} {r : ((Int × Int) × Bool)} (h : i_net_after F x0 x1 x2 = some r) : (e113 F).den [Enc.enc x0, Enc.enc x1, Enc.enc x2] = some (.tup [Enc.enc (r.1 : (Int × Int)), Enc.enc (r.2 : Bool)]) := da_put (f := fun (x : ((S1 (List Int)) × (Int × Int) × Int × Unit)) => i_net_after F x.1 x.2.1 x.2.2.1) (t := fun (r : ((Int × Int) × Bool)) => (.tup [Enc.enc (r.1 : (Int × Int)), Enc.enc (r.2 : Bool)])) (x0, x1, x2, ()) h
theorem o113 {D : Den} {σ : Sig} {F : Nat} (hF : Fits2 Try.prog D σ) (H : H113 D σ F) : (e113 F).Ok Try.prog := by
  refine ⟨fun args r h => ?_, ⟨Try.f113, Try.func113, rfl, rfl⟩⟩
  obtain ⟨⟨x0, x1, x2, _⟩, y, rfl, hy, rfl⟩ := da_open h
  exact contract_run hF (by kernel_rfl) Try.func113 rfl c113 (show 3 ≤ Try.f113.ntmps by decide) (t113 H x0 x1 x2 _ ⟨rfl, rfl, rfl⟩ hy)
/- (loop.example/g01109/impl.net).runProgram -/
def A74_6 : AC := (AC.cond (O.t 36) (AC.seq (AC.reg [] [(I.mk (some 4) none false (X.v (A.mov (O.k (V.sl Tok.nl (Sh.ag [Sh.s, Sh.s]) 0 []))))), (I.mk (some 5) none false (X.v (A.mov (O.k (V.bool false)))))] []) AC.ret) AC.skip)
def A74_7 : AC := (AC.reg [.clr [39, 40]] [(I.mk (some 37) none false (X.v (A.mov (O.t 6)))), (I.mk (some 38) none false (X.v (A.load (Sh.ag [Sh.s, Sh.s]) (O.t 9)))), (I.mk (some 39) none false (X.lit (V.agg [(V.int IntKind.i64 (Int.ofNat 0)), (V.int IntKind.i64 (Int.ofNat 0))]) 1 [(0, 0, (O.t 38))])), (I.mk (some 40) none false (X.app (Sh.ag [Sh.s, Sh.s]) (O.t 37) (O.t 39))), (I.mk (some 6) none false (X.v (A.mov (O.t 40))))] [.home 40 6])
def A74_5 : AC := (AC.seq (AC.seq (AC.reg [] [(I.mk (some 35) none false (X.v (A.mov (O.t 10)))), (I.mk (some 36) none false (X.v (A.un UnOp.not (O.t 35))))] []) A74_6) A74_7)
def A74_4 : AC := (AC.seq (AC.reg [.clr [9]] [(I.mk (some 26) none false (X.v (A.load (Sh.ag [Sh.p]) (O.t 2)))), (I.mk (some 27) none false (X.v (A.mov (O.t 6)))), (I.mk (some 28) none false (X.v (A.mov (O.t 7)))), (I.mk (some 29) none false (X.v (A.idx (O.t 27) (O.t 28) 2))), (I.mk (some 30) none false (X.v (A.load (Sh.ag [Sh.s, Sh.s]) (O.t 29)))), (I.mk (some 31) none false (X.v (A.mov (O.t 8)))), (I.mk (some 32) none false (X.call (O.k (V.fn 113 [] [])) [(O.t 26), (O.t 30), (O.t 31)])), (I.mk (some 25) none false (X.v (A.mov (O.t 32)))), (I.mk (some 33) none false (X.v (A.ext (O.t 25) 0))), (I.mk (some 34) none false (X.v (A.extS (O.t 25) 1))), (I.mk (some 9) none false (X.alloc (V.agg [(V.int IntKind.i64 (Int.ofNat 0)), (V.int IntKind.i64 (Int.ofNat 0))]))), (I.mk none none false (X.store (Sh.ag [Sh.s, Sh.s]) (O.t 9) (O.t 33))), (I.mk (some 10) none false (X.v (A.mov (O.t 34))))] []) A74_5)
def A74_8 : AC := (AC.reg [] [(I.mk (some 41) none false (X.v (A.bin BinOp.add (O.t 20) (O.k (V.int IntKind.i64 (Int.ofNat 1)))))), (I.mk (some 20) none false (X.v (A.mov (O.t 41))))] [])
def A74_3 : AC := (AC.seq (AC.block 1 (AC.seq (AC.reg [] [(I.mk (some 22) none false (X.v (A.mov (O.t 20)))), (I.mk (some 23) none false (X.v (A.idx (O.t 18) (O.t 20) 1))), (I.mk (some 24) none false (X.v (A.load Sh.s (O.t 23)))), (I.mk (some 7) none false (X.v (A.mov (O.t 22)))), (I.mk (some 8) none false (X.v (A.mov (O.t 24))))] []) A74_4)) A74_8)
def A74_2 : AC := (AC.seq (AC.cond (O.t 21) AC.skip (AC.exit 0)) A74_3)
def A74_1 : AC := (AC.seq (AC.reg [] [(I.mk (some 21) none false (X.v (A.bin BinOp.lss (O.t 20) (O.t 19))))] []) A74_2)
def A74_9 : AC := (AC.seq (AC.reg [] [(I.mk (some 42) none false (X.v (A.mov (O.t 6)))), (I.mk (some 4) none false (X.v (A.mov (O.t 42)))), (I.mk (some 5) none false (X.v (A.mov (O.k (V.bool true)))))] [.home 6 4]) AC.ret)
def A74_11 : AC := (AC.cond (O.t 13) (AC.seq (AC.reg [] [(I.mk (some 4) none false (X.v (A.mov (O.k (V.sl Tok.nl (Sh.ag [Sh.s, Sh.s]) 0 []))))), (I.mk (some 5) none false (X.v (A.mov (O.k (V.bool false)))))] []) AC.ret) AC.skip)
def A74_14 : AC := (AC.block 0 (AC.loop A74_1))
def A74_13 : AC := (AC.seq (AC.seq (AC.reg [] [(I.mk (some 18) none false (X.v (A.mov (O.t 1)))), (I.mk (some 19) none false (X.v (A.len (O.t 18)))), (I.mk (some 20) none false (X.v (A.mov (O.k (V.int IntKind.i64 (Int.ofNat 0))))))] []) A74_14) A74_9)
def A74_12 : AC := (AC.seq (AC.reg [.clr [17]] [(I.mk (some 14) none false (X.v (A.load (Sh.ag [Sh.p]) (O.t 2)))), (I.mk (some 15) none false (X.call (O.k (V.fn 112 [] [])) [(O.t 14)])), (I.mk (some 16) none false (X.v (A.bld (V.agg [(V.int IntKind.i64 (Int.ofNat 0)), (V.int IntKind.i64 (Int.ofNat 0))]) [(0, 0, (O.k (V.int IntKind.i64 (Int.ofNat 0)))), (1, 1, (O.t 15))]))), (I.mk (some 17) none false (X.lit (V.agg [(V.int IntKind.i64 (Int.ofNat 0)), (V.int IntKind.i64 (Int.ofNat 0))]) 1 [(0, 0, (O.t 16))])), (I.mk (some 6) none false (X.v (A.mov (O.t 17))))] [.home 17 6]) A74_13)
def A74_10 : AC := (AC.seq (AC.seq (AC.reg [] [(I.mk (some 11) none false (X.v (A.mov (O.t 1)))), (I.mk (some 12) none false (X.v (A.len (O.t 11)))), (I.mk (some 13) none false (X.v (A.bin BinOp.gtr (O.t 12) (O.k (V.int IntKind.i64 (Int.ofNat 40))))))] []) A74_11) A74_12)
def A74 : AC := (AC.seq (AC.reg [.clr [2]] [(I.mk (some 2) none false (X.box (O.t 0))), (I.mk (some 4) none false (X.v (A.mov (O.k (V.sl Tok.nl (Sh.ag [Sh.s, Sh.s]) 0 []))))), (I.mk (some 5) none false (X.v (A.mov (O.k (V.bool false)))))] []) A74_10)
def an74 : List An := [{ id := 0, pre := [.clr [2]], ep := [], lin := [], sp := [] }, { id := 3, pre := [.clr [17]], ep := [.home 17 6], lin := [], sp := [] }, { id := 7, pre := [.clr [9]], ep := [], lin := [], sp := [] }, { id := 10, pre := [.clr [39, 40]], ep := [.home 40 6], lin := [], sp := [] }, { id := 12, pre := [], ep := [.home 6 4], lin := [], sp := [] }]
theorem c74 : cC Try.prog Try.f74.ntmps an74 (Try.f74.body.getD .skip) = some A74 := by kernel_rfl
structure H74 (D : Den) (σ : Sig) (F : Nat) : Prop where
  c112 : ∀ (x0 : (S1 (List Int))) r, i_net_all F x0 = some r → D 112 [Enc.enc x0] = some (Enc.enc (r : Int))
  g112 : σ 112 = some (0, false)
  c113 : ∀ (x0 : (S1 (List Int))) (x1 : (Int × Int)) (x2 : Int) r, i_net_after F x0 x1 x2 = some r → D 113 [Enc.enc x0, Enc.enc x1, Enc.enc x2] = some (.tup [Enc.enc (r.1 : (Int × Int)), Enc.enc (r.2 : Bool)])
  g113 : σ 113 = some (0, false)
abbrev R74 (r : ((List (Int × Int)) × Bool)) : (Nat → V) → Prop := RR Try.prog [.tmp 4, .tmp 5] 0 false (.tup [Enc.enc (r.1 : (List (Int × Int))), Enc.enc (r.2 : Bool)])
section
variable {D : Den} {σ : Sig} {F : Nat} {r : ((List (Int × Int)) × Bool)}
def i_net_runProgram_l1 (F : Nat) (w_1 : (S1 (List Int))) (program_2 : (List Int))  : Nat → (List (Int × Int)) → Int → Option ((List (Int × Int)) × Bool)
  | 0, _, _ => none
  | k + 1, states_8, t20_9 =>
    bif decide (t20_9 < (program_2.length : Int)) then
      (idx program_2 t20_9).bind fun e_14 =>
      (idx states_8 t20_9).bind fun e_15 =>
      (i_net_after F w_1 e_15 e_14).bind fun r_16 =>
      bif (!r_16.2) then
        some ([], false)
      else
        (appL states_8 [r_16.1]).bind fun ap_17 =>
        (i_net_runProgram_l1 F w_1 program_2 k) ap_17 (w64 (t20_9 + 1))
    else
      some (states_8, true)
theorem t_f74_l1 (H : H74 D σ F) (w_1 : (S1 (List Int))) (program_2 : (List Int))  : ∀ (k : Nat) (states_8 : (List (Int × Int))) (t20_9 : Int) (s : Nat → V), Facts [(2, (.ref (.bx 2) 0 [] (.agg [(Enc.enc (w_1.a : List Int))]))), (4, (.sl .nl (Enc.shp (Int × Int)) 0 [])), (5, (.bool false)), (6, (encO (.at 6 []) (.of (states_8 : List (Int × Int))))), (18, (Enc.enc (program_2 : List Int))), (19, (.int .i64 (program_2.length : Int))), (20, (.int .i64 t20_9))] s → i_net_runProgram_l1 F w_1 program_2 k states_8 t20_9 = some r → Run D σ (R74 r) (.run A74_1 [.lp A74_1, .bk 0, .sq A74_9]) s := by
  intro k
  induction k with
  | zero => intro states_8 t20_9 s _ h; exact nomatch (h : (none : Option _) = some r)
  | succ k ih =>
    intro states_8 t20_9 s hs h
    rw [i_net_runProgram_l1] at h
    obtain ⟨h2, h4, h5, h6, h18, h19, h20⟩ := hs
    refine .seq ?_
    refine run_reg ?_
    refine e_end ?_
    refine g_v2 (t1 := 20) (t2 := 19) (u1 := (.int .i64 t20_9)) (u2 := (.int .i64 (program_2.length : Int))) (.bool (decide (t20_9 < (program_2.length : Int)))) h20 h19 rfl rfl ?_
    refine g_end ?_
    refine e_end ?_
    refine renew [(2, (.ref (.bx 2) 0 [] (.agg [(Enc.enc (w_1.a : List Int))]))), (4, (.sl .nl (Enc.shp (Int × Int)) 0 [])), (5, (.bool false)), (6, (encO (.at 6 []) (.of (states_8 : List (Int × Int))))), (18, (Enc.enc (program_2 : List Int))), (19, (.int .i64 (program_2.length : Int))), (20, (.int .i64 t20_9)), (21, (.bool (decide (t20_9 < (program_2.length : Int)))))] ⟨h2, h4, h5, h6, h18, h19, h20, rfl⟩ ?_
    rintro s ⟨h2, h4, h5, h6, h18, h19, h20, h21⟩
    refine .nsq ?_
    refine .seq ?_
    refine run_cond (t := decide (t20_9 < (program_2.length : Int))) h21 h (fun h => ?_) (fun h => ?_)
    · refine .skip ?_
      refine .nsq ?_
      refine .seq ?_
      refine .block ?_
      refine .seq ?_
      refine run_reg ?_
      refine e_end ?_
      refine g_v1 (t := 20) (u := (.int .i64 t20_9)) (.int .i64 t20_9) h20 rfl rfl ?_
      obtain ⟨e_14, E_e_14, h⟩ := bind_some h
      refine g_v (.ref .sh 0 [] (.int .i64 e_14)) (ev_idx (t := .sh) (lo := 0) (xs := program_2) h18 h20 E_e_14 rfl rfl) ?_
      refine g_v1 (t := 23) (u := (.ref .sh 0 [] (.int .i64 e_14))) (.int .i64 e_14) rfl rfl rfl ?_
      refine g_v1 (t := 22) (u := (.int .i64 t20_9)) (.int .i64 t20_9) rfl rfl rfl ?_
      refine g_v1 (t := 24) (u := (.int .i64 e_14)) (.int .i64 e_14) rfl rfl rfl ?_
      refine g_end ?_
      refine e_end ?_
      refine renew [(2, (.ref (.bx 2) 0 [] (.agg [(Enc.enc (w_1.a : List Int))]))), (4, (.sl .nl (Enc.shp (Int × Int)) 0 [])), (5, (.bool false)), (6, (encO (.at 6 []) (.of (states_8 : List (Int × Int))))), (7, (.int .i64 t20_9)), (8, (.int .i64 e_14)), (18, (Enc.enc (program_2 : List Int))), (19, (.int .i64 (program_2.length : Int))), (20, (.int .i64 t20_9))] ⟨h2, h4, h5, h6, rfl, rfl, h18, h19, h20⟩ ?_
      rintro s ⟨h2, h4, h5, h6, h7, h8, h18, h19, h20⟩
      refine .nsq ?_
      refine .seq ?_
      refine run_reg ?_
      refine e_clr ?_
      refine e_end ?_
      refine g_v1 (t := 2) (u := (.ref (.bx 2) 0 [] (.agg [(Enc.enc (w_1.a : List Int))]))) (.agg [(Enc.enc (w_1.a : List Int))]) (keep_clear (s := s) (pk := [9]) h2 rfl (map_bx rfl (map_agg (maps_cons (Enc.map_enc _ (w_1.a : List Int)) maps_nil)))) rfl rfl ?_
      refine g_v1 (t := 6) (u := (encO (.at 6 []) (.of (states_8 : List (Int × Int))))) (encO (.at 6 []) (.of (states_8 : List (Int × Int)))) (keep_clear (s := s) (pk := [9]) h6 rfl (map_encO (r := 6) (p := []) rfl rfl)) rfl rfl ?_
      refine g_v1 (t := 7) (u := (.int .i64 t20_9)) (.int .i64 t20_9) (keep_clear (s := s) (pk := [9]) h7 rfl rfl) rfl rfl ?_
      obtain ⟨e_15, E_e_15, h⟩ := bind_some h
      refine g_v (.ref (.at 6 []) t20_9.toNat [] (.agg [(.int .i64 e_15.1), (.int .i64 e_15.2)])) (ev_idxO (o := (.of states_8)) rfl rfl E_e_15 rfl) ?_
      refine g_v1 (t := 29) (u := (.ref (.at 6 []) t20_9.toNat [] (.agg [(.int .i64 e_15.1), (.int .i64 e_15.2)]))) (.agg [(.int .i64 e_15.1), (.int .i64 e_15.2)]) rfl rfl rfl ?_
      refine g_v1 (t := 8) (u := (.int .i64 e_14)) (.int .i64 e_14) (keep_clear (s := s) (pk := [9]) h8 rfl rfl) rfl rfl ?_
      obtain ⟨r_16, E_r_16, h⟩ := bind_some h
      refine g_call (m := 0) (al := false) (r := (.tup [Enc.enc (r_16.1 : (Int × Int)), Enc.enc (r_16.2 : Bool)])) [Enc.enc (w_1 : (S1 (List Int))), Enc.enc (e_15 : (Int × Int)), Enc.enc (e_14 : Int)] (ta_cons (v := (.agg [(Enc.enc (w_1.a : List Int))])) rfl rfl (Enc.erase_enc (w_1 : (S1 (List Int)))) (ta_cons (v := (.agg [(.int .i64 e_15.1), (.int .i64 e_15.2)])) rfl rfl (Enc.erase_enc (e_15 : (Int × Int))) (ta_cons (v := (.int .i64 e_14)) rfl rfl rfl ta_nil))) (H.c113 _ _ _ _ E_r_16) H.g113 rfl rfl rfl rfl ?_
      refine g_v1 (t := 32) (u := (.tup [(.agg [(.int .i64 r_16.1.1), (.int .i64 r_16.1.2)]), (.bool r_16.2)])) (.tup [(.agg [(.int .i64 r_16.1.1), (.int .i64 r_16.1.2)]), (.bool r_16.2)]) rfl rfl rfl ?_
      refine g_v1 (t := 25) (u := (.tup [(.agg [(.int .i64 r_16.1.1), (.int .i64 r_16.1.2)]), (.bool r_16.2)])) (.agg [(.int .i64 r_16.1.1), (.int .i64 r_16.1.2)]) rfl rfl rfl ?_
      refine g_v1 (t := 25) (u := (.tup [(.agg [(.int .i64 r_16.1.1), (.int .i64 r_16.1.2)]), (.bool r_16.2)])) (.bool r_16.2) rfl rfl rfl ?_
      refine g_alloc (gone_clear (s := s) (pk := [9]) (t := 9) rfl) ?_
      refine g_store (.agg [(.int .i64 r_16.1.1), (.int .i64 r_16.1.2)]) (rd_of rfl rfl) (rd_of rfl rfl) (by refine ⟨by decide, by decide, rfl, rfl, rfl, ?_⟩; first | rfl | simp [V.toks, V.tokss, Enc.toks_enc]) ?_
      refine g_v1 (t := 34) (u := (.bool r_16.2)) (.bool r_16.2) (keep_mut rfl rfl) rfl rfl ?_
      refine g_end ?_
      refine e_end ?_
      refine renew [(2, (.ref (.bx 2) 0 [] (.agg [(Enc.enc (w_1.a : List Int))]))), (4, (.sl .nl (Enc.shp (Int × Int)) 0 [])), (5, (.bool false)), (6, (encO (.at 6 []) (.of (states_8 : List (Int × Int))))), (9, (.ref (.bx 9) 0 [] (.agg [(.int .i64 r_16.1.1), (.int .i64 r_16.1.2)]))), (10, (.bool r_16.2)), (18, (Enc.enc (program_2 : List Int))), (19, (.int .i64 (program_2.length : Int))), (20, (.int .i64 t20_9))] ⟨(keep_mut (keep_clear (s := s) (pk := [9]) h2 rfl (map_bx rfl (map_agg (maps_cons (Enc.map_enc _ (w_1.a : List Int)) maps_nil)))) (mut_ref_ne rfl rfl (mut_agg (muts_cons (Enc.mut_enc _ _ _ _ (w_1.a : List Int)) rfl)))), (keep_mut (keep_clear (s := s) (pk := [9]) h4 rfl rfl) rfl), (keep_mut (keep_clear (s := s) (pk := [9]) h5 rfl rfl) rfl), (keep_mut (keep_clear (s := s) (pk := [9]) h6 rfl (map_encO (r := 6) (p := []) rfl rfl)) (mut_own_ne rfl rfl)), (keep_mut rfl rfl), rfl, (keep_mut (keep_clear (s := s) (pk := [9]) h18 rfl (Enc.map_enc _ (program_2 : List Int))) (Enc.mut_enc _ _ _ _ (program_2 : List Int))), (keep_mut (keep_clear (s := s) (pk := [9]) h19 rfl rfl) rfl), (keep_mut (keep_clear (s := s) (pk := [9]) h20 rfl rfl) rfl)⟩ ?_
      rintro s ⟨h2, h4, h5, h6, h9, h10, h18, h19, h20⟩
      refine .nsq ?_
      refine .seq ?_
      refine .seq ?_
      refine run_reg ?_
      refine e_end ?_
      refine g_v1 (t := 10) (u := (.bool r_16.2)) (.bool r_16.2) h10 rfl rfl ?_
      refine g_v1 (t := 35) (u := (.bool r_16.2)) (.bool (!r_16.2)) rfl rfl rfl ?_
      refine g_end ?_
      refine e_end ?_
      refine renew [(2, (.ref (.bx 2) 0 [] (.agg [(Enc.enc (w_1.a : List Int))]))), (4, (.sl .nl (Enc.shp (Int × Int)) 0 [])), (5, (.bool false)), (6, (encO (.at 6 []) (.of (states_8 : List (Int × Int))))), (9, (.ref (.bx 9) 0 [] (.agg [(.int .i64 r_16.1.1), (.int .i64 r_16.1.2)]))), (18, (Enc.enc (program_2 : List Int))), (19, (.int .i64 (program_2.length : Int))), (20, (.int .i64 t20_9)), (36, (.bool (!r_16.2)))] ⟨h2, h4, h5, h6, h9, h18, h19, h20, rfl⟩ ?_
      rintro s ⟨h2, h4, h5, h6, h9, h18, h19, h20, h36⟩
      refine .nsq ?_
      refine run_cond (t := (!r_16.2)) h36 h (fun h => ?_) (fun h => ?_)
      · refine .seq ?_
        refine run_reg ?_
        refine e_end ?_
        refine g_v0 (.sl .nl (Enc.shp (Int × Int)) 0 []) rfl rfl ?_
        refine g_v0 (.bool false) rfl rfl ?_
        refine g_end ?_
        refine e_end ?_
        refine renew [(2, (.ref (.bx 2) 0 [] (.agg [(Enc.enc (w_1.a : List Int))]))), (4, (.sl .nl (Enc.shp (Int × Int)) 0 [])), (5, (.bool false)), (6, (encO (.at 6 []) (.of (states_8 : List (Int × Int))))), (9, (.ref (.bx 9) 0 [] (.agg [(.int .i64 r_16.1.1), (.int .i64 r_16.1.2)]))), (18, (Enc.enc (program_2 : List Int))), (19, (.int .i64 (program_2.length : Int))), (20, (.int .i64 t20_9))] ⟨h2, rfl, rfl, h6, h9, h18, h19, h20⟩ ?_
        rintro s ⟨h2, h4, h5, h6, h9, h18, h19, h20⟩
        refine .nsq ?_
        refine .ret ?_
        have hr := Option.some.inj h
        subst hr
        exact rrB (res_tmp h4) (res_tmp h5) (fin_retF (fin_tup (fins_cons (fin_own (o := (.nil : NL (Int × Int))) (t := .nl)) (fins_cons (fin_enc (x := (false : Bool))) fins_nil))) (mine_tup (mines_cons mine_nil (mines_cons rfl mines_nil))))
      · refine .skip ?_
        refine .nsq ?_
        refine run_reg ?_
        refine e_clr ?_
        refine e_end ?_
        refine g_v1 (t := 6) (u := (encO (.at 6 []) (.of (states_8 : List (Int × Int))))) (encO (.at 6 []) (.of (states_8 : List (Int × Int)))) (keep_clear (s := s) (pk := [39, 40]) h6 rfl (map_encO (r := 6) (p := []) rfl rfl)) rfl rfl ?_
        refine g_v1 (t := 9) (u := (.ref (.bx 9) 0 [] (.agg [(.int .i64 r_16.1.1), (.int .i64 r_16.1.2)]))) (.agg [(.int .i64 r_16.1.1), (.int .i64 r_16.1.2)]) (keep_clear (s := s) (pk := [39, 40]) h9 rfl (map_bx rfl (map_agg (maps_cons rfl (maps_cons rfl maps_nil))))) rfl rfl ?_
        refine g_litL [(38, (.agg [(.int .i64 r_16.1.1), (.int .i64 r_16.1.2)]))] [Enc.enc (r_16.1 : (Int × Int))] rfl rfl rfl (gone_clear (s := s) (pk := [39, 40]) (t := 39) rfl) ?_
        obtain ⟨ap_17, E_ap_17, h⟩ := bind_some h
        refine g_app (q := 6) (p := []) (o := (.of (states_8 : List (Int × Int)))) (ys := ([r_16.1] : List (Int × Int))) (t2 := (.at 39 [])) (lo2 := 0) rfl rfl rfl (gone_clear (s := s) (pk := [39, 40]) (t := 40) rfl) (appN_L (o := (.of (states_8 : List (Int × Int)))) E_ap_17 trivial) (fun s_14 ha_14 => ?_)
        refine g_v1 (t := 40) (u := (encO (.at 40 []) (.of (ap_17 : List (Int × Int))))) (encO (.at 40 []) (.of (ap_17 : List (Int × Int)))) rfl rfl rfl ?_
        refine g_end ?_
        refine e_home (r := 40) (x := 6) (v := (encO (.at 40 []) (.of (ap_17 : List (Int × Int))))) (by exact rfl) rfl (fun s_15 hg_15 => ?_)
        refine e_end ?_
        refine renew [(2, (.ref (.bx 2) 0 [] (.agg [(Enc.enc (w_1.a : List Int))]))), (4, (.sl .nl (Enc.shp (Int × Int)) 0 [])), (5, (.bool false)), (6, (encO (.at 6 []) (.of (ap_17 : List (Int × Int))))), (18, (Enc.enc (program_2 : List Int))), (19, (.int .i64 (program_2.length : Int))), (20, (.int .i64 t20_9))] ⟨(hg_15 2 (.ref (.bx 2) 0 [] (.agg [(Enc.enc (w_1.a : List Int))])) (.ref (.bx 2) 0 [] (.agg [(Enc.enc (w_1.a : List Int))])) (show s_14 2 = (.ref (.bx 2) 0 [] (.agg [(Enc.enc (w_1.a : List Int))])) from keep_app ha_14 (keep_clear (s := s) (pk := [39, 40]) h2 rfl (map_bx rfl (map_agg (maps_cons (Enc.map_enc _ (w_1.a : List Int)) maps_nil)))) (map_bx rfl (map_agg (maps_cons (Enc.map_enc _ (w_1.a : List Int)) maps_nil)))) (map_bx rfl (map_agg (maps_cons (Enc.map_enc _ (w_1.a : List Int)) maps_nil)))), (hg_15 4 (.sl .nl (Enc.shp (Int × Int)) 0 []) (.sl .nl (Enc.shp (Int × Int)) 0 []) (show s_14 4 = (.sl .nl (Enc.shp (Int × Int)) 0 []) from keep_app ha_14 (keep_clear (s := s) (pk := [39, 40]) h4 rfl rfl) rfl) rfl), (hg_15 5 (.bool false) (.bool false) (show s_14 5 = (.bool false) from keep_app ha_14 (keep_clear (s := s) (pk := [39, 40]) h5 rfl rfl) rfl) rfl), (hg_15 6 (encO (.at 40 []) (.of (ap_17 : List (Int × Int)))) (encO (.at 6 []) (.of (ap_17 : List (Int × Int)))) rfl (map_encO (r := 40) (p := []) rfl rfl)), (hg_15 18 (Enc.enc (program_2 : List Int)) (Enc.enc (program_2 : List Int)) (show s_14 18 = (Enc.enc (program_2 : List Int)) from keep_app ha_14 (keep_clear (s := s) (pk := [39, 40]) h18 rfl (Enc.map_enc _ (program_2 : List Int))) (Enc.map_enc _ (program_2 : List Int))) (Enc.map_enc _ (program_2 : List Int))), (hg_15 19 (.int .i64 (program_2.length : Int)) (.int .i64 (program_2.length : Int)) (show s_14 19 = (.int .i64 (program_2.length : Int)) from keep_app ha_14 (keep_clear (s := s) (pk := [39, 40]) h19 rfl rfl) rfl) rfl), (hg_15 20 (.int .i64 t20_9) (.int .i64 t20_9) (show s_14 20 = (.int .i64 t20_9) from keep_app ha_14 (keep_clear (s := s) (pk := [39, 40]) h20 rfl rfl) rfl) rfl)⟩ ?_
        rintro s ⟨h2, h4, h5, h6, h18, h19, h20⟩
        refine .nbk ?_
        refine .nsq ?_
        refine run_reg ?_
        refine e_end ?_
        refine g_v1 (t := 20) (u := (.int .i64 t20_9)) (.int .i64 (w64 (t20_9 + 1))) h20 rfl rfl ?_
        refine g_v1 (t := 41) (u := (.int .i64 (w64 (t20_9 + 1)))) (.int .i64 (w64 (t20_9 + 1))) rfl rfl rfl ?_
        refine g_end ?_
        refine e_end ?_
        refine renew [(2, (.ref (.bx 2) 0 [] (.agg [(Enc.enc (w_1.a : List Int))]))), (4, (.sl .nl (Enc.shp (Int × Int)) 0 [])), (5, (.bool false)), (6, (encO (.at 6 []) (.of (ap_17 : List (Int × Int))))), (18, (Enc.enc (program_2 : List Int))), (19, (.int .i64 (program_2.length : Int))), (20, (.int .i64 (w64 (t20_9 + 1))))] ⟨h2, h4, h5, h6, h18, h19, rfl⟩ ?_
        rintro s ⟨h2, h4, h5, h6, h18, h19, h20⟩
        refine .nlp ?_
        exact ih ap_17 (w64 (t20_9 + 1)) _ ⟨h2, h4, h5, h6, h18, h19, h20⟩ h
    · refine .exit ?_
      refine .esq ?_
      refine .elp ?_
      refine .ebk ?_
      refine .nsq ?_
      refine .seq ?_
      refine run_reg ?_
      refine e_end ?_
      refine g_v1 (t := 6) (u := (encO (.at 6 []) (.of (states_8 : List (Int × Int))))) (encO (.at 6 []) (.of (states_8 : List (Int × Int)))) h6 rfl rfl ?_
      refine g_v1 (t := 42) (u := (encO (.at 6 []) (.of (states_8 : List (Int × Int))))) (encO (.at 6 []) (.of (states_8 : List (Int × Int)))) rfl rfl rfl ?_
      refine g_v0 (.bool true) rfl rfl ?_
      refine g_end ?_
      refine e_home (r := 6) (x := 4) (v := (encO (.at 6 []) (.of (states_8 : List (Int × Int))))) (by exact rfl) rfl (fun s_16 hg_16 => ?_)
      refine e_end ?_
      refine renew [(4, (encO (.at 4 []) (.of (states_8 : List (Int × Int))))), (5, (.bool true))] ⟨(hg_16 4 (encO (.at 6 []) (.of (states_8 : List (Int × Int)))) (encO (.at 4 []) (.of (states_8 : List (Int × Int)))) rfl (map_encO (r := 6) (p := []) rfl rfl)), (hg_16 5 (.bool true) (.bool true) rfl rfl)⟩ ?_
      rintro s ⟨h4, h5⟩
      refine .nsq ?_
      refine .ret ?_
      have hr := Option.some.inj h
      subst hr
      exact rrB (res_tmp h4) (res_tmp h5) (fin_retF (fin_tup (fins_cons (fin_own (o := .of states_8)) (fins_cons (fin_enc (x := (true : Bool))) fins_nil))) (mine_tup (mines_cons (mine_own rfl) (mines_cons rfl mines_nil))))
def i_net_runProgram (F : Nat) (w_1 : (S1 (List Int))) (program_2 : (List Int)) : Option ((List (Int × Int)) × Bool) :=
  bif decide ((program_2.length : Int) > 40) then
    some ([], false)
  else
    (i_net_all F w_1).bind fun r_3 =>
    i_net_runProgram_l1 F w_1 program_2 F [(0, r_3)] 0
theorem t74 (H : H74 D σ F) (w_1 : (S1 (List Int))) (program_2 : (List Int)) (s : Nat → V) (hs : Facts [(0, (.agg [(Enc.enc (w_1.a : List Int))])), (1, (Enc.enc (program_2 : List Int)))] s) (h : i_net_runProgram F w_1 program_2 = some r) : Run D σ (R74 r) (.run A74 []) s := by
  unfold i_net_runProgram at h
  obtain ⟨h0, h1⟩ := hs
  refine .seq ?_
  refine run_reg ?_
  refine e_clr ?_
  refine e_end ?_
  refine g_box (.agg [(Enc.enc (w_1.a : List Int))]) (rd_of (keep_clear (s := s) (pk := [2]) h0 rfl (map_agg (maps_cons (Enc.map_enc _ (w_1.a : List Int)) maps_nil))) rfl) (gone_clear (s := s) (pk := [2]) (t := 2) rfl) rfl ?_
  refine g_v0 (.sl .nl (Enc.shp (Int × Int)) 0 []) rfl rfl ?_
  refine g_v0 (.bool false) rfl rfl ?_
  refine g_end ?_
  refine e_end ?_
  refine renew [(1, (Enc.enc (program_2 : List Int))), (2, (.ref (.bx 2) 0 [] (.agg [(Enc.enc (w_1.a : List Int))]))), (4, (.sl .nl (Enc.shp (Int × Int)) 0 [])), (5, (.bool false))] ⟨(keep_clear (s := s) (pk := [2]) h1 rfl (Enc.map_enc _ (program_2 : List Int))), rfl, rfl, rfl⟩ ?_
  rintro s ⟨h1, h2, h4, h5⟩
  refine .nsq ?_
  refine .seq ?_
  refine .seq ?_
  refine run_reg ?_
  refine e_end ?_
  refine g_v1 (t := 1) (u := (Enc.enc (program_2 : List Int))) (Enc.enc (program_2 : List Int)) h1 rfl rfl ?_
  refine g_v (.int .i64 (program_2.length : Int)) (ev_len (xs := program_2) rfl) ?_
  refine g_v1 (t := 12) (u := (.int .i64 (program_2.length : Int))) (.bool (decide ((program_2.length : Int) > 40))) rfl rfl rfl ?_
  refine g_end ?_
  refine e_end ?_
  refine renew [(1, (Enc.enc (program_2 : List Int))), (2, (.ref (.bx 2) 0 [] (.agg [(Enc.enc (w_1.a : List Int))]))), (4, (.sl .nl (Enc.shp (Int × Int)) 0 [])), (5, (.bool false)), (13, (.bool (decide ((program_2.length : Int) > 40))))] ⟨h1, h2, h4, h5, rfl⟩ ?_
  rintro s ⟨h1, h2, h4, h5, h13⟩
  refine .nsq ?_
  refine run_cond (t := decide ((program_2.length : Int) > 40)) h13 h (fun h => ?_) (fun h => ?_)
  · refine .seq ?_
    refine run_reg ?_
    refine e_end ?_
    refine g_v0 (.sl .nl (Enc.shp (Int × Int)) 0 []) rfl rfl ?_
    refine g_v0 (.bool false) rfl rfl ?_
    refine g_end ?_
    refine e_end ?_
    refine renew [(1, (Enc.enc (program_2 : List Int))), (2, (.ref (.bx 2) 0 [] (.agg [(Enc.enc (w_1.a : List Int))]))), (4, (.sl .nl (Enc.shp (Int × Int)) 0 [])), (5, (.bool false))] ⟨h1, h2, rfl, rfl⟩ ?_
    rintro s ⟨h1, h2, h4, h5⟩
    refine .nsq ?_
    refine .ret ?_
    have hr := Option.some.inj h
    subst hr
    exact rrB (res_tmp h4) (res_tmp h5) (fin_retF (fin_tup (fins_cons (fin_own (o := (.nil : NL (Int × Int))) (t := .nl)) (fins_cons (fin_enc (x := (false : Bool))) fins_nil))) (mine_tup (mines_cons mine_nil (mines_cons rfl mines_nil))))
  · refine .skip ?_
    refine .nsq ?_
    refine .seq ?_
    refine run_reg ?_
    refine e_clr ?_
    refine e_end ?_
    refine g_v1 (t := 2) (u := (.ref (.bx 2) 0 [] (.agg [(Enc.enc (w_1.a : List Int))]))) (.agg [(Enc.enc (w_1.a : List Int))]) (keep_clear (s := s) (pk := [17]) h2 rfl (map_bx rfl (map_agg (maps_cons (Enc.map_enc _ (w_1.a : List Int)) maps_nil)))) rfl rfl ?_
    obtain ⟨r_3, E_r_3, h⟩ := bind_some h
    refine g_call (m := 0) (al := false) (r := (Enc.enc (r_3 : Int))) [Enc.enc (w_1 : (S1 (List Int)))] (ta_cons (v := (.agg [(Enc.enc (w_1.a : List Int))])) rfl rfl (Enc.erase_enc (w_1 : (S1 (List Int)))) ta_nil) (H.c112 _ _ E_r_3) H.g112 rfl rfl rfl rfl ?_
    refine g_v1 (t := 15) (u := (.int .i64 r_3)) (.agg [(.int .i64 0), (.int .i64 r_3)]) rfl rfl rfl ?_
    refine g_litL [(16, (.agg [(.int .i64 0), (.int .i64 r_3)]))] [Enc.enc ((0, r_3) : (Int × Int))] rfl rfl rfl (gone_clear (s := s) (pk := [17]) (t := 17) rfl) ?_
    refine g_v1 (t := 17) (u := (encO (.at 17 []) (.of ([(0, r_3)] : List (Int × Int))))) (encO (.at 17 []) (.of ([(0, r_3)] : List (Int × Int)))) rfl rfl rfl ?_
    refine g_end ?_
    refine e_home (r := 17) (x := 6) (v := (encO (.at 17 []) (.of ([(0, r_3)] : List (Int × Int))))) (by exact rfl) rfl (fun s_3 hg_3 => ?_)
    refine e_end ?_
    refine renew [(1, (Enc.enc (program_2 : List Int))), (2, (.ref (.bx 2) 0 [] (.agg [(Enc.enc (w_1.a : List Int))]))), (4, (.sl .nl (Enc.shp (Int × Int)) 0 [])), (5, (.bool false)), (6, (encO (.at 6 []) (.of ([(0, r_3)] : List (Int × Int)))))] ⟨(hg_3 1 (Enc.enc (program_2 : List Int)) (Enc.enc (program_2 : List Int)) (keep_clear (s := s) (pk := [17]) h1 rfl (Enc.map_enc _ (program_2 : List Int))) (Enc.map_enc _ (program_2 : List Int))), (hg_3 2 (.ref (.bx 2) 0 [] (.agg [(Enc.enc (w_1.a : List Int))])) (.ref (.bx 2) 0 [] (.agg [(Enc.enc (w_1.a : List Int))])) (keep_clear (s := s) (pk := [17]) h2 rfl (map_bx rfl (map_agg (maps_cons (Enc.map_enc _ (w_1.a : List Int)) maps_nil)))) (map_bx rfl (map_agg (maps_cons (Enc.map_enc _ (w_1.a : List Int)) maps_nil)))), (hg_3 4 (.sl .nl (Enc.shp (Int × Int)) 0 []) (.sl .nl (Enc.shp (Int × Int)) 0 []) (keep_clear (s := s) (pk := [17]) h4 rfl rfl) rfl), (hg_3 5 (.bool false) (.bool false) (keep_clear (s := s) (pk := [17]) h5 rfl rfl) rfl), (hg_3 6 (encO (.at 17 []) (.of ([(0, r_3)] : List (Int × Int)))) (encO (.at 6 []) (.of ([(0, r_3)] : List (Int × Int)))) rfl (map_encO (r := 17) (p := []) rfl rfl))⟩ ?_
    rintro s ⟨h1, h2, h4, h5, h6⟩
    refine .nsq ?_
    refine .seq ?_
    refine .seq ?_
    refine run_reg ?_
    refine e_end ?_
    refine g_v1 (t := 1) (u := (Enc.enc (program_2 : List Int))) (Enc.enc (program_2 : List Int)) h1 rfl rfl ?_
    refine g_v (.int .i64 (program_2.length : Int)) (ev_len (xs := program_2) rfl) ?_
    refine g_v0 (.int .i64 0) rfl rfl ?_
    refine g_end ?_
    refine e_end ?_
    refine renew [(2, (.ref (.bx 2) 0 [] (.agg [(Enc.enc (w_1.a : List Int))]))), (4, (.sl .nl (Enc.shp (Int × Int)) 0 [])), (5, (.bool false)), (6, (encO (.at 6 []) (.of ([(0, r_3)] : List (Int × Int))))), (18, (Enc.enc (program_2 : List Int))), (19, (.int .i64 (program_2.length : Int))), (20, (.int .i64 0))] ⟨h2, h4, h5, h6, rfl, rfl, rfl⟩ ?_
    rintro s ⟨h2, h4, h5, h6, h18, h19, h20⟩
    refine .nsq ?_
    refine .block ?_
    refine .loop ?_
    exact t_f74_l1 H w_1 program_2 F [(0, r_3)] 0 _ ⟨h2, h4, h5, h6, h18, h19, h20⟩ h
end
def e74 (F : Nat) : Ent := ⟨74, da (fun (x : ((S1 (List Int)) × (List Int) × Unit)) => i_net_runProgram F x.1 x.2.1) (fun (r : ((List (Int × Int)) × Bool)) => (.tup [Enc.enc (r.1 : (List (Int × Int))), Enc.enc (r.2 : Bool)])), 0, false, selF []⟩
theorem p74 {F : Nat} {x0 : (S1 (List Int))} {x1 : (List Int)} {r : ((List (Int × Int)) × Bool)} (h : i_net_runProgram F x0 x1 = some r) : (e74 F).den [Enc.enc x0, Enc.enc x1] = some (.tup [Enc.enc (r.1 : (List (Int × Int))), Enc.enc (r.2 : Bool)]) := da_put (f := fun (x : ((S1 (List Int)) × (List Int) × Unit)) => i_net_runProgram F x.1 x.2.1) (t := fun (r : ((List (Int × Int)) × Bool)) => (.tup [Enc.enc (r.1 : (List (Int × Int))), Enc.enc (r.2 : Bool)])) (x0, x1, ()) h
theorem o74 {D : Den} {σ : Sig} {F : Nat} (hF : Fits2 Try.prog D σ) (H : H74 D σ F) : (e74 F).Ok Try.prog := by
  refine ⟨fun args r h => ?_, ⟨Try.f74, Try.func74, rfl, rfl⟩⟩
  obtain ⟨⟨x0, x1, _⟩, y, rfl, hy, rfl⟩ := da_open h
  exact contract_run hF (by kernel_rfl) Try.func74 rfl c74 (show 2 ≤ Try.f74.ntmps by decide) (t74 H x0 x1 _ ⟨rfl, rfl⟩ hy)
/- loop.example/g01109/impl.programOf -/
def A47_2 : AC := (AC.cond (O.t 8) (AC.seq (AC.reg [] [(I.mk (some 4) none false (X.v (A.mov (O.k (V.sl Tok.nl (Sh.ag [Sh.s, Sh.s]) 0 []))))), (I.mk (some 5) none false (X.v (A.mov (O.k (V.bool false)))))] []) AC.ret) AC.skip)
def A47_3 : AC := (AC.seq (AC.reg [] [(I.mk (some 9) none false (X.v (A.load (Sh.ag [Sh.s, Sh.p]) (O.t 2)))), (I.mk (some 10) none false (X.call (O.k (V.fn 67 [] [])) [(O.t 9)])), (I.mk (some 11) none false (X.v (A.mov (O.t 1)))), (I.mk (some 12) none false (X.call (O.k (V.fn 74 [] [])) [(O.t 10), (O.t 11)])), (I.mk (some 13) none false (X.v (A.ext (O.t 12) 0))), (I.mk (some 14) none false (X.v (A.extS (O.t 12) 1))), (I.mk (some 4) none false (X.v (A.mov (O.t 13)))), (I.mk (some 5) none false (X.v (A.mov (O.t 14))))] []) AC.ret)
def A47_1 : AC := (AC.seq (AC.seq (AC.reg [] [(I.mk (some 6) none false (X.v (A.load (Sh.ag [Sh.s, Sh.p]) (O.t 2)))), (I.mk (some 7) none false (X.call (O.k (V.fn 53 [] [])) [(O.t 6)])), (I.mk (some 8) none false (X.v (A.un UnOp.not (O.t 7))))] []) A47_2) A47_3)
def A47 : AC := (AC.seq (AC.reg [.clr [2]] [(I.mk (some 2) none false (X.box (O.t 0))), (I.mk (some 4) none false (X.v (A.mov (O.k (V.sl Tok.nl (Sh.ag [Sh.s, Sh.s]) 0 []))))), (I.mk (some 5) none false (X.v (A.mov (O.k (V.bool false)))))] []) A47_1)
def an47 : List An := [{ id := 0, pre := [.clr [2]], ep := [], lin := [], sp := [] }]
theorem c47 : cC Try.prog Try.f47.ntmps an47 (Try.f47.body.getD .skip) = some A47 := by kernel_rfl
structure H47 (D : Den) (σ : Sig) (F : Nat) : Prop where
  c53 : ∀ (x0 : (Int × (List (Int × Int)))) r, i_IsGraph F x0 = some r → D 53 [Enc.enc x0] = some (Enc.enc (r : Bool))
  g53 : σ 53 = some (0, false)
  c67 : ∀ (x0 : (Int × (List (Int × Int)))) r, i_netOf F x0 = some r → D 67 [Enc.enc x0] = some (Enc.enc (r : (S1 (List Int))))
  g67 : σ 67 = some (0, false)
  c74 : ∀ (x0 : (S1 (List Int))) (x1 : (List Int)) r, i_net_runProgram F x0 x1 = some r → D 74 [Enc.enc x0, Enc.enc x1] = some (.tup [Enc.enc (r.1 : (List (Int × Int))), Enc.enc (r.2 : Bool)])
  g74 : σ 74 = some (0, false)
abbrev R47 (r : ((List (Int × Int)) × Bool)) : (Nat → V) → Prop := RR Try.prog [.tmp 4, .tmp 5] 0 true (.tup [Enc.enc (r.1 : (List (Int × Int))), Enc.enc (r.2 : Bool)])
section
variable {D : Den} {σ : Sig} {F : Nat} {r : ((List (Int × Int)) × Bool)}
def i_programOf (F : Nat) (g_1 : (Int × (List (Int × Int)))) (program_2 : (List Int)) : Option ((List (Int × Int)) × Bool) :=
  (i_IsGraph F g_1).bind fun r_3 =>
  bif (!r_3) then
    some ([], false)
  else
    (i_netOf F g_1).bind fun r_4 =>
    (i_net_runProgram F r_4 program_2).bind fun r_5 =>
    some (r_5.1, r_5.2)
theorem t47 (H : H47 D σ F) (g_1 : (Int × (List (Int × Int)))) (program_2 : (List Int)) (s : Nat → V) (hs : Facts [(0, (.agg [(.int .i64 g_1.1), (Enc.enc (g_1.2 : List (Int × Int)))])), (1, (Enc.enc (program_2 : List Int)))] s) (h : i_programOf F g_1 program_2 = some r) : Run D σ (R47 r) (.run A47 []) s := by
  unfold i_programOf at h
  obtain ⟨h0, h1⟩ := hs
  refine .seq ?_
  refine run_reg ?_
  refine e_clr ?_
  refine e_end ?_
  refine g_box (.agg [(.int .i64 g_1.1), (Enc.enc (g_1.2 : List (Int × Int)))]) (rd_of (keep_clear (s := s) (pk := [2]) h0 rfl (map_agg (maps_cons rfl (maps_cons (Enc.map_enc _ (g_1.2 : List (Int × Int))) maps_nil)))) rfl) (gone_clear (s := s) (pk := [2]) (t := 2) rfl) rfl ?_
  refine g_v0 (.sl .nl (Enc.shp (Int × Int)) 0 []) rfl rfl ?_
  refine g_v0 (.bool false) rfl rfl ?_
  refine g_end ?_
  refine e_end ?_
  refine renew [(1, (Enc.enc (program_2 : List Int))), (2, (.ref (.bx 2) 0 [] (.agg [(.int .i64 g_1.1), (Enc.enc (g_1.2 : List (Int × Int)))]))), (4, (.sl .nl (Enc.shp (Int × Int)) 0 [])), (5, (.bool false))] ⟨(keep_clear (s := s) (pk := [2]) h1 rfl (Enc.map_enc _ (program_2 : List Int))), rfl, rfl, rfl⟩ ?_
  rintro s ⟨h1, h2, h4, h5⟩
  refine .nsq ?_
  refine .seq ?_
  refine .seq ?_
  refine run_reg ?_
  refine e_end ?_
  refine g_v1 (t := 2) (u := (.ref (.bx 2) 0 [] (.agg [(.int .i64 g_1.1), (Enc.enc (g_1.2 : List (Int × Int)))]))) (.agg [(.int .i64 g_1.1), (Enc.enc (g_1.2 : List (Int × Int)))]) h2 rfl rfl ?_
  obtain ⟨r_3, E_r_3, h⟩ := bind_some h
  refine g_call (m := 0) (al := false) (r := (Enc.enc (r_3 : Bool))) [Enc.enc (g_1 : (Int × (List (Int × Int))))] (ta_cons (v := (.agg [(.int .i64 g_1.1), (Enc.enc (g_1.2 : List (Int × Int)))])) rfl rfl (Enc.erase_enc (g_1 : (Int × (List (Int × Int))))) ta_nil) (H.c53 _ _ E_r_3) H.g53 rfl rfl rfl rfl ?_
  refine g_v1 (t := 7) (u := (.bool r_3)) (.bool (!r_3)) rfl rfl rfl ?_
  refine g_end ?_
  refine e_end ?_
  refine renew [(1, (Enc.enc (program_2 : List Int))), (2, (.ref (.bx 2) 0 [] (.agg [(.int .i64 g_1.1), (Enc.enc (g_1.2 : List (Int × Int)))]))), (4, (.sl .nl (Enc.shp (Int × Int)) 0 [])), (5, (.bool false)), (8, (.bool (!r_3)))] ⟨h1, h2, h4, h5, rfl⟩ ?_
  rintro s ⟨h1, h2, h4, h5, h8⟩
  refine .nsq ?_
  refine run_cond (t := (!r_3)) h8 h (fun h => ?_) (fun h => ?_)
  · refine .seq ?_
    refine run_reg ?_
    refine e_end ?_
    refine g_v0 (.sl .nl (Enc.shp (Int × Int)) 0 []) rfl rfl ?_
    refine g_v0 (.bool false) rfl rfl ?_
    refine g_end ?_
    refine e_end ?_
    refine renew [(1, (Enc.enc (program_2 : List Int))), (2, (.ref (.bx 2) 0 [] (.agg [(.int .i64 g_1.1), (Enc.enc (g_1.2 : List (Int × Int)))]))), (4, (.sl .nl (Enc.shp (Int × Int)) 0 [])), (5, (.bool false))] ⟨h1, h2, rfl, rfl⟩ ?_
    rintro s ⟨h1, h2, h4, h5⟩
    refine .nsq ?_
    refine .ret ?_
    have hr := Option.some.inj h
    subst hr
    exact rrB (res_tmp h4) (res_tmp h5) (fin_ret1 (fin_tup (fins_cons (fin_own (o := (.nil : NL (Int × Int))) (t := .nl)) (fins_cons (fin_enc (x := (false : Bool))) fins_nil))))
  · refine .skip ?_
    refine .nsq ?_
    refine .seq ?_
    refine run_reg ?_
    refine e_end ?_
    refine g_v1 (t := 2) (u := (.ref (.bx 2) 0 [] (.agg [(.int .i64 g_1.1), (Enc.enc (g_1.2 : List (Int × Int)))]))) (.agg [(.int .i64 g_1.1), (Enc.enc (g_1.2 : List (Int × Int)))]) h2 rfl rfl ?_
    obtain ⟨r_4, E_r_4, h⟩ := bind_some h
    refine g_call (m := 0) (al := false) (r := (Enc.enc (r_4 : (S1 (List Int))))) [Enc.enc (g_1 : (Int × (List (Int × Int))))] (ta_cons (v := (.agg [(.int .i64 g_1.1), (Enc.enc (g_1.2 : List (Int × Int)))])) rfl rfl (Enc.erase_enc (g_1 : (Int × (List (Int × Int))))) ta_nil) (H.c67 _ _ E_r_4) H.g67 rfl rfl rfl rfl ?_
    refine g_v1 (t := 1) (u := (Enc.enc (program_2 : List Int))) (Enc.enc (program_2 : List Int)) h1 rfl rfl ?_
    obtain ⟨r_5, E_r_5, h⟩ := bind_some h
    refine g_call (m := 0) (al := false) (r := (.tup [Enc.enc (r_5.1 : (List (Int × Int))), Enc.enc (r_5.2 : Bool)])) [Enc.enc (r_4 : (S1 (List Int))), Enc.enc (program_2 : (List Int))] (ta_cons (v := (.agg [(Enc.enc (r_4.a : List Int))])) rfl rfl (Enc.erase_enc (r_4 : (S1 (List Int)))) (ta_cons (v := (Enc.enc (program_2 : List Int))) rfl rfl (Enc.erase_enc (program_2 : (List Int))) ta_nil)) (H.c74 _ _ _ E_r_5) H.g74 rfl rfl rfl rfl ?_
    refine g_v1 (t := 12) (u := (.tup [(Enc.enc (r_5.1 : List (Int × Int))), (.bool r_5.2)])) (Enc.enc (r_5.1 : List (Int × Int))) rfl rfl rfl ?_
    refine g_v1 (t := 12) (u := (.tup [(Enc.enc (r_5.1 : List (Int × Int))), (.bool r_5.2)])) (.bool r_5.2) rfl rfl rfl ?_
    refine g_v1 (t := 13) (u := (Enc.enc (r_5.1 : List (Int × Int)))) (Enc.enc (r_5.1 : List (Int × Int))) rfl rfl rfl ?_
    refine g_v1 (t := 14) (u := (.bool r_5.2)) (.bool r_5.2) rfl rfl rfl ?_
    refine g_end ?_
    refine e_end ?_
    refine renew [(4, (Enc.enc (r_5.1 : List (Int × Int)))), (5, (.bool r_5.2))] ⟨rfl, rfl⟩ ?_
    rintro s ⟨h4, h5⟩
    refine .nsq ?_
    refine .ret ?_
    have hr := Option.some.inj h
    subst hr
    exact rrB (res_tmp h4) (res_tmp h5) (fin_ret1 (fin_tup (fins_cons (fin_enc (x := (r_5.1 : (List (Int × Int))))) (fins_cons (fin_enc (x := (r_5.2 : Bool))) fins_nil))))
end
def e47 (F : Nat) : Ent := ⟨47, da (fun (x : ((Int × (List (Int × Int))) × (List Int) × Unit)) => i_programOf F x.1 x.2.1) (fun (r : ((List (Int × Int)) × Bool)) => (.tup [Enc.enc (r.1 : (List (Int × Int))), Enc.enc (r.2 : Bool)])), 0, true, selF []⟩
theorem p47 {F : Nat} {x0 : (Int × (List (Int × Int)))} {x1 : (List Int)} {r : ((List (Int × Int)) × Bool)} (h : i_programOf F x0 x1 = some r) : (e47 F).den [Enc.enc x0, Enc.enc x1] = some (.tup [Enc.enc (r.1 : (List (Int × Int))), Enc.enc (r.2 : Bool)]) := da_put (f := fun (x : ((Int × (List (Int × Int))) × (List Int) × Unit)) => i_programOf F x.1 x.2.1) (t := fun (r : ((List (Int × Int)) × Bool)) => (.tup [Enc.enc (r.1 : (List (Int × Int))), Enc.enc (r.2 : Bool)])) (x0, x1, ()) h
theorem o47 {D : Den} {σ : Sig} {F : Nat} (hF : Fits2 Try.prog D σ) (H : H47 D σ F) : (e47 F).Ok Try.prog := by
  refine ⟨fun args r h => ?_, ⟨Try.f47, Try.func47, rfl, rfl⟩⟩
  obtain ⟨⟨x0, x1, _⟩, y, rfl, hy, rfl⟩ := da_open h
  exact contract_run hF (by kernel_rfl) Try.func47 rfl c47 (show 2 ≤ Try.f47.ntmps by decide) (t47 H x0 x1 _ ⟨rfl, rfl⟩ hy)
/- math/bits.OnesCount64 -/
def A77_7 : AC := (AC.seq (AC.reg [] [(I.mk (some 32) none false (X.v (A.mov (O.t 0)))), (I.mk (some 33) none false (X.v (A.conv IntKind.i64 (O.t 32)))), (I.mk (some 34) none false (X.v (A.bin BinOp.and (O.t 33) (O.k (V.int IntKind.i64 (Int.ofNat 127)))))), (I.mk (some 2) none false (X.v (A.mov (O.t 34))))] []) AC.ret)
def A77_6 : AC := (AC.seq (AC.reg [] [(I.mk (some 28) none false (X.v (A.mov (O.t 0)))), (I.mk (some 29) none false (X.v (A.mov (O.t 0)))), (I.mk (some 30) none false (X.v (A.bin BinOp.shr (O.t 29) (O.k (V.int IntKind.u64 (Int.ofNat 32)))))), (I.mk (some 31) none false (X.v (A.bin BinOp.add (O.t 28) (O.t 30)))), (I.mk (some 0) none false (X.v (A.mov (O.t 31))))] []) A77_7)
def A77_5 : AC := (AC.seq (AC.reg [] [(I.mk (some 24) none false (X.v (A.mov (O.t 0)))), (I.mk (some 25) none false (X.v (A.mov (O.t 0)))), (I.mk (some 26) none false (X.v (A.bin BinOp.shr (O.t 25) (O.k (V.int IntKind.u64 (Int.ofNat 16)))))), (I.mk (some 27) none false (X.v (A.bin BinOp.add (O.t 24) (O.t 26)))), (I.mk (some 0) none false (X.v (A.mov (O.t 27))))] []) A77_6)
def A77_4 : AC := (AC.seq (AC.reg [] [(I.mk (some 20) none false (X.v (A.mov (O.t 0)))), (I.mk (some 21) none false (X.v (A.mov (O.t 0)))), (I.mk (some 22) none false (X.v (A.bin BinOp.shr (O.t 21) (O.k (V.int IntKind.u64 (Int.ofNat 8)))))), (I.mk (some 23) none false (X.v (A.bin BinOp.add (O.t 20) (O.t 22)))), (I.mk (some 0) none false (X.v (A.mov (O.t 23))))] []) A77_5)
def A77_3 : AC := (AC.seq (AC.reg [] [(I.mk (some 15) none false (X.v (A.mov (O.t 0)))), (I.mk (some 16) none false (X.v (A.bin BinOp.shr (O.t 15) (O.k (V.int IntKind.u64 (Int.ofNat 4)))))), (I.mk (some 17) none false (X.v (A.mov (O.t 0)))), (I.mk (some 18) none false (X.v (A.bin BinOp.add (O.t 16) (O.t 17)))), (I.mk (some 19) none false (X.v (A.bin BinOp.and (O.t 18) (O.k (V.int IntKind.u64 (Int.ofNat 1085102592571150095)))))), (I.mk (some 0) none false (X.v (A.mov (O.t 19))))] []) A77_4)
def A77_2 : AC := (AC.seq (AC.reg [] [(I.mk (some 9) none false (X.v (A.mov (O.t 0)))), (I.mk (some 10) none false (X.v (A.bin BinOp.shr (O.t 9) (O.k (V.int IntKind.u64 (Int.ofNat 2)))))), (I.mk (some 11) none false (X.v (A.bin BinOp.and (O.t 10) (O.k (V.int IntKind.u64 (Int.ofNat 3689348814741910323)))))), (I.mk (some 12) none false (X.v (A.mov (O.t 0)))), (I.mk (some 13) none false (X.v (A.bin BinOp.and (O.t 12) (O.k (V.int IntKind.u64 (Int.ofNat 3689348814741910323)))))), (I.mk (some 14) none false (X.v (A.bin BinOp.add (O.t 11) (O.t 13)))), (I.mk (some 0) none false (X.v (A.mov (O.t 14))))] []) A77_3)
def A77_1 : AC := (AC.seq (AC.reg [] [(I.mk (some 3) none false (X.v (A.mov (O.t 0)))), (I.mk (some 4) none false (X.v (A.bin BinOp.shr (O.t 3) (O.k (V.int IntKind.u64 (Int.ofNat 1)))))), (I.mk (some 5) none false (X.v (A.bin BinOp.and (O.t 4) (O.k (V.int IntKind.u64 (Int.ofNat 6148914691236517205)))))), (I.mk (some 6) none false (X.v (A.mov (O.t 0)))), (I.mk (some 7) none false (X.v (A.bin BinOp.and (O.t 6) (O.k (V.int IntKind.u64 (Int.ofNat 6148914691236517205)))))), (I.mk (some 8) none false (X.v (A.bin BinOp.add (O.t 5) (O.t 7)))), (I.mk (some 0) none false (X.v (A.mov (O.t 8))))] []) A77_2)
def A77 : AC := (AC.seq (AC.reg [] [(I.mk (some 2) none false (X.v (A.mov (O.k (V.int IntKind.i64 (Int.ofNat 0))))))] []) A77_1)
def an77 : List An := []
theorem c77 : cC Try.prog Try.f77.ntmps an77 (Try.f77.body.getD .skip) = some A77 := by kernel_rfl
structure H77 (D : Den) (σ : Sig) (F : Nat) : Prop where
  mk ::
abbrev R77 (r : Int) : (Nat → V) → Prop := RR Try.prog [.tmp 2] 0 false (Enc.enc (r : Int))
section
variable {D : Den} {σ : Sig} {F : Nat} {r : Int}
def bits_OnesCount64 (F : Nat) (x_1 : (Kd .u64)) : Option Int :=
  (shrI .u64 x_1.v 1).bind fun q_2 =>
  (shrI .u64 (IntKind.u64.wrap ((iand .u64 q_2 6148914691236517205) + (iand .u64 x_1.v 6148914691236517205))) 2).bind fun q_3 =>
  (shrI .u64 (IntKind.u64.wrap ((iand .u64 q_3 3689348814741910323) + (iand .u64 (IntKind.u64.wrap ((iand .u64 q_2 6148914691236517205) + (iand .u64 x_1.v 6148914691236517205))) 3689348814741910323))) 4).bind fun q_4 =>
  (shrI .u64 (iand .u64 (IntKind.u64.wrap (q_4 + (IntKind.u64.wrap ((iand .u64 q_3 3689348814741910323) + (iand .u64 (IntKind.u64.wrap ((iand .u64 q_2 6148914691236517205) + (iand .u64 x_1.v 6148914691236517205))) 3689348814741910323))))) 1085102592571150095) 8).bind fun q_5 =>
  (shrI .u64 (IntKind.u64.wrap ((iand .u64 (IntKind.u64.wrap (q_4 + (IntKind.u64.wrap ((iand .u64 q_3 3689348814741910323) + (iand .u64 (IntKind.u64.wrap ((iand .u64 q_2 6148914691236517205) + (iand .u64 x_1.v 6148914691236517205))) 3689348814741910323))))) 1085102592571150095) + q_5)) 16).bind fun q_6 =>
  (shrI .u64 (IntKind.u64.wrap ((IntKind.u64.wrap ((iand .u64 (IntKind.u64.wrap (q_4 + (IntKind.u64.wrap ((iand .u64 q_3 3689348814741910323) + (iand .u64 (IntKind.u64.wrap ((iand .u64 q_2 6148914691236517205) + (iand .u64 x_1.v 6148914691236517205))) 3689348814741910323))))) 1085102592571150095) + q_5)) + q_6)) 32).bind fun q_7 =>
  some (iand .i64 (w64 (IntKind.u64.wrap ((IntKind.u64.wrap ((IntKind.u64.wrap ((iand .u64 (IntKind.u64.wrap (q_4 + (IntKind.u64.wrap ((iand .u64 q_3 3689348814741910323) + (iand .u64 (IntKind.u64.wrap ((iand .u64 q_2 6148914691236517205) + (iand .u64 x_1.v 6148914691236517205))) 3689348814741910323))))) 1085102592571150095) + q_5)) + q_6)) + q_7))) 127)
theorem t77 (H : H77 D σ F) (x_1 : (Kd .u64)) (s : Nat → V) (hs : Facts [(0, (.int .u64 x_1.v))] s) (h : bits_OnesCount64 F x_1 = some r) : Run D σ (R77 r) (.run A77 []) s := by
  unfold bits_OnesCount64 at h
  have h0 := hs
  refine .seq ?_
  refine run_reg ?_
  refine e_end ?_
  refine g_v0 (.int .i64 0) rfl rfl ?_
  refine g_end ?_
  refine e_end ?_
  refine renew [(0, (.int .u64 x_1.v)), (2, (.int .i64 0))] ⟨h0, rfl⟩ ?_
  rintro s ⟨h0, h2⟩
  refine .nsq ?_
  refine .seq ?_
  refine run_reg ?_
  refine e_end ?_
  refine g_v1 (t := 0) (u := (.int .u64 x_1.v)) (.int .u64 x_1.v) h0 rfl rfl ?_
  obtain ⟨q_2, E_q_2, h⟩ := bind_some h
  refine g_v (.int .u64 q_2) (ev_shr rfl rfl E_q_2) ?_
  refine g_v1 (t := 4) (u := (.int .u64 q_2)) (.int .u64 (iand .u64 q_2 6148914691236517205)) rfl rfl rfl ?_
  refine g_v1 (t := 0) (u := (.int .u64 x_1.v)) (.int .u64 x_1.v) h0 rfl rfl ?_
  refine g_v1 (t := 6) (u := (.int .u64 x_1.v)) (.int .u64 (iand .u64 x_1.v 6148914691236517205)) rfl rfl rfl ?_
  refine g_v2 (t1 := 5) (t2 := 7) (u1 := (.int .u64 (iand .u64 q_2 6148914691236517205))) (u2 := (.int .u64 (iand .u64 x_1.v 6148914691236517205))) (.int .u64 (IntKind.u64.wrap ((iand .u64 q_2 6148914691236517205) + (iand .u64 x_1.v 6148914691236517205)))) rfl rfl rfl rfl ?_
  refine g_v1 (t := 8) (u := (.int .u64 (IntKind.u64.wrap ((iand .u64 q_2 6148914691236517205) + (iand .u64 x_1.v 6148914691236517205))))) (.int .u64 (IntKind.u64.wrap ((iand .u64 q_2 6148914691236517205) + (iand .u64 x_1.v 6148914691236517205)))) rfl rfl rfl ?_
  refine g_end ?_
  refine e_end ?_
  refine renew [(0, (.int .u64 (IntKind.u64.wrap ((iand .u64 q_2 6148914691236517205) + (iand .u64 x_1.v 6148914691236517205))))), (2, (.int .i64 0))] ⟨rfl, h2⟩ ?_
  rintro s ⟨h0, h2⟩
  refine .nsq ?_
  refine .seq ?_
  refine run_reg ?_
  refine e_end ?_
  refine g_v1 (t := 0) (u := (.int .u64 (IntKind.u64.wrap ((iand .u64 q_2 6148914691236517205) + (iand .u64 x_1.v 6148914691236517205))))) (.int .u64 (IntKind.u64.wrap ((iand .u64 q_2 6148914691236517205) + (iand .u64 x_1.v 6148914691236517205)))) h0 rfl rfl ?_
  obtain ⟨q_3, E_q_3, h⟩ := bind_some h
  refine g_v (.int .u64 q_3) (ev_shr rfl rfl E_q_3) ?_
  refine g_v1 (t := 10) (u := (.int .u64 q_3)) (.int .u64 (iand .u64 q_3 3689348814741910323)) rfl rfl rfl ?_
  refine g_v1 (t := 0) (u := (.int .u64 (IntKind.u64.wrap ((iand .u64 q_2 6148914691236517205) + (iand .u64 x_1.v 6148914691236517205))))) (.int .u64 (IntKind.u64.wrap ((iand .u64 q_2 6148914691236517205) + (iand .u64 x_1.v 6148914691236517205)))) h0 rfl rfl ?_
  refine g_v1 (t := 12) (u := (.int .u64 (IntKind.u64.wrap ((iand .u64 q_2 6148914691236517205) + (iand .u64 x_1.v 6148914691236517205))))) (.int .u64 (iand .u64 (IntKind.u64.wrap ((iand .u64 q_2 6148914691236517205) + (iand .u64 x_1.v 6148914691236517205))) 3689348814741910323)) rfl rfl rfl ?_
  refine g_v2 (t1 := 11) (t2 := 13) (u1 := (.int .u64 (iand .u64 q_3 3689348814741910323))) (u2 := (.int .u64 (iand .u64 (IntKind.u64.wrap ((iand .u64 q_2 6148914691236517205) + (iand .u64 x_1.v 6148914691236517205))) 3689348814741910323))) (.int .u64 (IntKind.u64.wrap ((iand .u64 q_3 3689348814741910323) + (iand .u64 (IntKind.u64.wrap ((iand .u64 q_2 6148914691236517205) + (iand .u64 x_1.v 6148914691236517205))) 3689348814741910323)))) rfl rfl rfl rfl ?_
  refine g_v1 (t := 14) (u := (.int .u64 (IntKind.u64.wrap ((iand .u64 q_3 3689348814741910323) + (iand .u64 (IntKind.u64.wrap ((iand .u64 q_2 6148914691236517205) + (iand .u64 x_1.v 6148914691236517205))) 3689348814741910323))))) (.int .u64 (IntKind.u64.wrap ((iand .u64 q_3 3689348814741910323) + (iand .u64 (IntKind.u64.wrap ((iand .u64 q_2 6148914691236517205) + (iand .u64 x_1.v 6148914691236517205))) 3689348814741910323)))) rfl rfl rfl ?_
  refine g_end ?_
  refine e_end ?_
  refine renew [(0, (.int .u64 (IntKind.u64.wrap ((iand .u64 q_3 3689348814741910323) + (iand .u64 (IntKind.u64.wrap ((iand .u64 q_2 6148914691236517205) + (iand .u64 x_1.v 6148914691236517205))) 3689348814741910323))))), (2, (.int .i64 0))] ⟨rfl, h2⟩ ?_
  rintro s ⟨h0, h2⟩
  refine .nsq ?_
  refine .seq ?_
  refine run_reg ?_
  refine e_end ?_
  refine g_v1 (t := 0) (u := (.int .u64 (IntKind.u64.wrap ((iand .u64 q_3 3689348814741910323) + (iand .u64 (IntKind.u64.wrap ((iand .u64 q_2 6148914691236517205) + (iand .u64 x_1.v 6148914691236517205))) 3689348814741910323))))) (.int .u64 (IntKind.u64.wrap ((iand .u64 q_3 3689348814741910323) + (iand .u64 (IntKind.u64.wrap ((iand .u64 q_2 6148914691236517205) + (iand .u64 x_1.v 6148914691236517205))) 3689348814741910323)))) h0 rfl rfl ?_
  obtain ⟨q_4, E_q_4, h⟩ := bind_some h
  refine g_v (.int .u64 q_4) (ev_shr rfl rfl E_q_4) ?_
  refine g_v1 (t := 0) (u := (.int .u64 (IntKind.u64.wrap ((iand .u64 q_3 3689348814741910323) + (iand .u64 (IntKind.u64.wrap ((iand .u64 q_2 6148914691236517205) + (iand .u64 x_1.v 6148914691236517205))) 3689348814741910323))))) (.int .u64 (IntKind.u64.wrap ((iand .u64 q_3 3689348814741910323) + (iand .u64 (IntKind.u64.wrap ((iand .u64 q_2 6148914691236517205) + (iand .u64 x_1.v 6148914691236517205))) 3689348814741910323)))) h0 rfl rfl ?_
  refine g_v2 (t1 := 16) (t2 := 17) (u1 := (.int .u64 q_4)) (u2 := (.int .u64 (IntKind.u64.wrap ((iand .u64 q_3 3689348814741910323) + (iand .u64 (IntKind.u64.wrap ((iand .u64 q_2 6148914691236517205) + (iand .u64 x_1.v 6148914691236517205))) 3689348814741910323))))) (.int .u64 (IntKind.u64.wrap (q_4 + (IntKind.u64.wrap ((iand .u64 q_3 3689348814741910323) + (iand .u64 (IntKind.u64.wrap ((iand .u64 q_2 6148914691236517205) + (iand .u64 x_1.v 6148914691236517205))) 3689348814741910323)))))) rfl rfl rfl rfl ?_
  refine g_v1 (t := 18) (u := (.int .u64 (IntKind.u64.wrap (q_4 + (IntKind.u64.wrap ((iand .u64 q_3 3689348814741910323) + (iand .u64 (IntKind.u64.wrap ((iand .u64 q_2 6148914691236517205) + (iand .u64 x_1.v 6148914691236517205))) 3689348814741910323))))))) (.int .u64 (iand .u64 (IntKind.u64.wrap (q_4 + (IntKind.u64.wrap ((iand .u64 q_3 3689348814741910323) + (iand .u64 (IntKind.u64.wrap ((iand .u64 q_2 6148914691236517205) + (iand .u64 x_1.v 6148914691236517205))) 3689348814741910323))))) 1085102592571150095)) rfl rfl rfl ?_
  refine g_v1 (t := 19) (u := (.int .u64 (iand .u64 (IntKind.u64.wrap (q_4 + (IntKind.u64.wrap ((iand .u64 q_3 3689348814741910323) + (iand .u64 (IntKind.u64.wrap ((iand .u64 q_2 6148914691236517205) + (iand .u64 x_1.v 6148914691236517205))) 3689348814741910323))))) 1085102592571150095))) (.int .u64 (iand .u64 (IntKind.u64.wrap (q_4 + (IntKind.u64.wrap ((iand .u64 q_3 3689348814741910323) + (iand .u64 (IntKind.u64.wrap ((iand .u64 q_2 6148914691236517205) + (iand .u64 x_1.v 6148914691236517205))) 3689348814741910323))))) 1085102592571150095)) rfl rfl rfl ?_
  refine g_end ?_
  refine e_end ?_
  refine renew [(0, (.int .u64 (iand .u64 (IntKind.u64.wrap (q_4 + (IntKind.u64.wrap ((iand .u64 q_3 3689348814741910323) + (iand .u64 (IntKind.u64.wrap ((iand .u64 q_2 6148914691236517205) + (iand .u64 x_1.v 6148914691236517205))) 3689348814741910323))))) 1085102592571150095))), (2, (.int .i64 0))] ⟨rfl, h2⟩ ?_
  rintro s ⟨h0, h2⟩
  refine .nsq ?_
  refine .seq ?_
  refine run_reg ?_
  refine e_end ?_
  refine g_v1 (t := 0) (u := (.int .u64 (iand .u64 (IntKind.u64.wrap (q_4 + (IntKind.u64.wrap ((iand .u64 q_3 3689348814741910323) + (iand .u64 (IntKind.u64.wrap ((iand .u64 q_2 6148914691236517205) + (iand .u64 x_1.v 6148914691236517205))) 3689348814741910323))))) 1085102592571150095))) (.int .u64 (iand .u64 (IntKind.u64.wrap (q_4 + (IntKind.u64.wrap ((iand .u64 q_3 3689348814741910323) + (iand .u64 (IntKind.u64.wrap ((iand .u64 q_2 6148914691236517205) + (iand .u64 x_1.v 6148914691236517205))) 3689348814741910323))))) 1085102592571150095)) h0 rfl rfl ?_
  refine g_v1 (t := 0) (u := (.int .u64 (iand .u64 (IntKind.u64.wrap (q_4 + (IntKind.u64.wrap ((iand .u64 q_3 3689348814741910323) + (iand .u64 (IntKind.u64.wrap ((iand .u64 q_2 6148914691236517205) + (iand .u64 x_1.v 6148914691236517205))) 3689348814741910323))))) 1085102592571150095))) (.int .u64 (iand .u64 (IntKind.u64.wrap (q_4 + (IntKind.u64.wrap ((iand .u64 q_3 3689348814741910323) + (iand .u64 (IntKind.u64.wrap ((iand .u64 q_2 6148914691236517205) + (iand .u64 x_1.v 6148914691236517205))) 3689348814741910323))))) 1085102592571150095)) h0 rfl rfl ?_
  obtain ⟨q_5, E_q_5, h⟩ := bind_some h
  refine g_v (.int .u64 q_5) (ev_shr rfl rfl E_q_5) ?_
  refine g_v2 (t1 := 20) (t2 := 22) (u1 := (.int .u64 (iand .u64 (IntKind.u64.wrap (q_4 + (IntKind.u64.wrap ((iand .u64 q_3 3689348814741910323) + (iand .u64 (IntKind.u64.wrap ((iand .u64 q_2 6148914691236517205) + (iand .u64 x_1.v 6148914691236517205))) 3689348814741910323))))) 1085102592571150095))) (u2 := (.int .u64 q_5)) (.int .u64 (IntKind.u64.wrap ((iand .u64 (IntKind.u64.wrap (q_4 + (IntKind.u64.wrap ((iand .u64 q_3 3689348814741910323) + (iand .u64 (IntKind.u64.wrap ((iand .u64 q_2 6148914691236517205) + (iand .u64 x_1.v 6148914691236517205))) 3689348814741910323))))) 1085102592571150095) + q_5))) rfl rfl rfl rfl ?_
  refine g_v1 (t := 23) (u := (.int .u64 (IntKind.u64.wrap ((iand .u64 (IntKind.u64.wrap (q_4 + (IntKind.u64.wrap ((iand .u64 q_3 3689348814741910323) + (iand .u64 (IntKind.u64.wrap ((iand .u64 q_2 6148914691236517205) + (iand .u64 x_1.v 6148914691236517205))) 3689348814741910323))))) 1085102592571150095) + q_5)))) (.int .u64 (IntKind.u64.wrap ((iand .u64 (IntKind.u64.wrap (q_4 + (IntKind.u64.wrap ((iand .u64 q_3 3689348814741910323) + (iand .u64 (IntKind.u64.wrap ((iand .u64 q_2 6148914691236517205) + (iand .u64 x_1.v 6148914691236517205))) 3689348814741910323))))) 1085102592571150095) + q_5))) rfl rfl rfl ?_
  refine g_end ?_
  refine e_end ?_
  refine renew [(0, (.int .u64 (IntKind.u64.wrap ((iand .u64 (IntKind.u64.wrap (q_4 + (IntKind.u64.wrap ((iand .u64 q_3 3689348814741910323) + (iand .u64 (IntKind.u64.wrap ((iand .u64 q_2 6148914691236517205) + (iand .u64 x_1.v 6148914691236517205))) 3689348814741910323))))) 1085102592571150095) + q_5)))), (2, (.int .i64 0))] ⟨rfl, h2⟩ ?_
  rintro s ⟨h0, h2⟩
  refine .nsq ?_
  refine .seq ?_
  refine run_reg ?_
  refine e_end ?_
  refine g_v1 (t := 0) (u := (.int .u64 (IntKind.u64.wrap ((iand .u64 (IntKind.u64.wrap (q_4 + (IntKind.u64.wrap ((iand .u64 q_3 3689348814741910323) + (iand .u64 (IntKind.u64.wrap ((iand .u64 q_2 6148914691236517205) + (iand .u64 x_1.v 6148914691236517205))) 3689348814741910323))))) 1085102592571150095) + q_5)))) (.int .u64 (IntKind.u64.wrap ((iand .u64 (IntKind.u64.wrap (q_4 + (IntKind.u64.wrap ((iand .u64 q_3 3689348814741910323) + (iand .u64 (IntKind.u64.wrap ((iand .u64 q_2 6148914691236517205) + (iand .u64 x_1.v 6148914691236517205))) 3689348814741910323))))) 1085102592571150095) + q_5))) h0 rfl rfl ?_
  refine g_v1 (t := 0) (u := (.int .u64 (IntKind.u64.wrap ((iand .u64 (IntKind.u64.wrap (q_4 + (IntKind.u64.wrap ((iand .u64 q_3 3689348814741910323) + (iand .u64 (IntKind.u64.wrap ((iand .u64 q_2 6148914691236517205) + (iand .u64 x_1.v 6148914691236517205))) 3689348814741910323))))) 1085102592571150095) + q_5)))) (.int .u64 (IntKind.u64.wrap ((iand .u64 (IntKind.u64.wrap (q_4 + (IntKind.u64.wrap ((iand .u64 q_3 3689348814741910323) + (iand .u64 (IntKind.u64.wrap ((iand .u64 q_2 6148914691236517205) + (iand .u64 x_1.v 6148914691236517205))) 3689348814741910323))))) 1085102592571150095) + q_5))) h0 rfl rfl ?_
  obtain ⟨q_6, E_q_6, h⟩ := bind_some h
  refine g_v (.int .u64 q_6) (ev_shr rfl rfl E_q_6) ?_
  refine g_v2 (t1 := 24) (t2 := 26) (u1 := (.int .u64 (IntKind.u64.wrap ((iand .u64 (IntKind.u64.wrap (q_4 + (IntKind.u64.wrap ((iand .u64 q_3 3689348814741910323) + (iand .u64 (IntKind.u64.wrap ((iand .u64 q_2 6148914691236517205) + (iand .u64 x_1.v 6148914691236517205))) 3689348814741910323))))) 1085102592571150095) + q_5)))) (u2 := (.int .u64 q_6)) (.int .u64 (IntKind.u64.wrap ((IntKind.u64.wrap ((iand .u64 (IntKind.u64.wrap (q_4 + (IntKind.u64.wrap ((iand .u64 q_3 3689348814741910323) + (iand .u64 (IntKind.u64.wrap ((iand .u64 q_2 6148914691236517205) + (iand .u64 x_1.v 6148914691236517205))) 3689348814741910323))))) 1085102592571150095) + q_5)) + q_6))) rfl rfl rfl rfl ?_
  refine g_v1 (t := 27) (u := (.int .u64 (IntKind.u64.wrap ((IntKind.u64.wrap ((iand .u64 (IntKind.u64.wrap (q_4 + (IntKind.u64.wrap ((iand .u64 q_3 3689348814741910323) + (iand .u64 (IntKind.u64.wrap ((iand .u64 q_2 6148914691236517205) + (iand .u64 x_1.v 6148914691236517205))) 3689348814741910323))))) 1085102592571150095) + q_5)) + q_6)))) (.int .u64 (IntKind.u64.wrap ((IntKind.u64.wrap ((iand .u64 (IntKind.u64.wrap (q_4 + (IntKind.u64.wrap ((iand .u64 q_3 3689348814741910323) + (iand .u64 (IntKind.u64.wrap ((iand .u64 q_2 6148914691236517205) + (iand .u64 x_1.v 6148914691236517205))) 3689348814741910323))))) 1085102592571150095) + q_5)) + q_6))) rfl rfl rfl ?_
  refine g_end ?_
  refine e_end ?_
  refine renew [(0, (.int .u64 (IntKind.u64.wrap ((IntKind.u64.wrap ((iand .u64 (IntKind.u64.wrap (q_4 + (IntKind.u64.wrap ((iand .u64 q_3 3689348814741910323) + (iand .u64 (IntKind.u64.wrap ((iand .u64 q_2 6148914691236517205) + (iand .u64 x_1.v 6148914691236517205))) 3689348814741910323))))) 1085102592571150095) + q_5)) + q_6)))), (2, (.int .i64 0))] ⟨rfl, h2⟩ ?_
  rintro s ⟨h0, h2⟩
  refine .nsq ?_
  refine .seq ?_
  refine run_reg ?_
  refine e_end ?_
  refine g_v1 (t := 0) (u := (.int .u64 (IntKind.u64.wrap ((IntKind.u64.wrap ((iand .u64 (IntKind.u64.wrap (q_4 + (IntKind.u64.wrap ((iand .u64 q_3 3689348814741910323) + (iand .u64 (IntKind.u64.wrap ((iand .u64 q_2 6148914691236517205) + (iand .u64 x_1.v 6148914691236517205))) 3689348814741910323))))) 1085102592571150095) + q_5)) + q_6)))) (.int .u64 (IntKind.u64.wrap ((IntKind.u64.wrap ((iand .u64 (IntKind.u64.wrap (q_4 + (IntKind.u64.wrap ((iand .u64 q_3 3689348814741910323) + (iand .u64 (IntKind.u64.wrap ((iand .u64 q_2 6148914691236517205) + (iand .u64 x_1.v 6148914691236517205))) 3689348814741910323))))) 1085102592571150095) + q_5)) + q_6))) h0 rfl rfl ?_
  refine g_v1 (t := 0) (u := (.int .u64 (IntKind.u64.wrap ((IntKind.u64.wrap ((iand .u64 (IntKind.u64.wrap (q_4 + (IntKind.u64.wrap ((iand .u64 q_3 3689348814741910323) + (iand .u64 (IntKind.u64.wrap ((iand .u64 q_2 6148914691236517205) + (iand .u64 x_1.v 6148914691236517205))) 3689348814741910323))))) 1085102592571150095) + q_5)) + q_6)))) (.int .u64 (IntKind.u64.wrap ((IntKind.u64.wrap ((iand .u64 (IntKind.u64.wrap (q_4 + (IntKind.u64.wrap ((iand .u64 q_3 3689348814741910323) + (iand .u64 (IntKind.u64.wrap ((iand .u64 q_2 6148914691236517205) + (iand .u64 x_1.v 6148914691236517205))) 3689348814741910323))))) 1085102592571150095) + q_5)) + q_6))) h0 rfl rfl ?_
  obtain ⟨q_7, E_q_7, h⟩ := bind_some h
  refine g_v (.int .u64 q_7) (ev_shr rfl rfl E_q_7) ?_
  refine g_v2 (t1 := 28) (t2 := 30) (u1 := (.int .u64 (IntKind.u64.wrap ((IntKind.u64.wrap ((iand .u64 (IntKind.u64.wrap (q_4 + (IntKind.u64.wrap ((iand .u64 q_3 3689348814741910323) + (iand .u64 (IntKind.u64.wrap ((iand .u64 q_2 6148914691236517205) + (iand .u64 x_1.v 6148914691236517205))) 3689348814741910323))))) 1085102592571150095) + q_5)) + q_6)))) (u2 := (.int .u64 q_7)) (.int .u64 (IntKind.u64.wrap ((IntKind.u64.wrap ((IntKind.u64.wrap ((iand .u64 (IntKind.u64.wrap (q_4 + (IntKind.u64.wrap ((iand .u64 q_3 3689348814741910323) + (iand .u64 (IntKind.u64.wrap ((iand .u64 q_2 6148914691236517205) + (iand .u64 x_1.v 6148914691236517205))) 3689348814741910323))))) 1085102592571150095) + q_5)) + q_6)) + q_7))) rfl rfl rfl rfl ?_
  refine g_v1 (t := 31) (u := (.int .u64 (IntKind.u64.wrap ((IntKind.u64.wrap ((IntKind.u64.wrap ((iand .u64 (IntKind.u64.wrap (q_4 + (IntKind.u64.wrap ((iand .u64 q_3 3689348814741910323) + (iand .u64 (IntKind.u64.wrap ((iand .u64 q_2 6148914691236517205) + (iand .u64 x_1.v 6148914691236517205))) 3689348814741910323))))) 1085102592571150095) + q_5)) + q_6)) + q_7)))) (.int .u64 (IntKind.u64.wrap ((IntKind.u64.wrap ((IntKind.u64.wrap ((iand .u64 (IntKind.u64.wrap (q_4 + (IntKind.u64.wrap ((iand .u64 q_3 3689348814741910323) + (iand .u64 (IntKind.u64.wrap ((iand .u64 q_2 6148914691236517205) + (iand .u64 x_1.v 6148914691236517205))) 3689348814741910323))))) 1085102592571150095) + q_5)) + q_6)) + q_7))) rfl rfl rfl ?_
  refine g_end ?_
  refine e_end ?_
  refine renew [(0, (.int .u64 (IntKind.u64.wrap ((IntKind.u64.wrap ((IntKind.u64.wrap ((iand .u64 (IntKind.u64.wrap (q_4 + (IntKind.u64.wrap ((iand .u64 q_3 3689348814741910323) + (iand .u64 (IntKind.u64.wrap ((iand .u64 q_2 6148914691236517205) + (iand .u64 x_1.v 6148914691236517205))) 3689348814741910323))))) 1085102592571150095) + q_5)) + q_6)) + q_7)))), (2, (.int .i64 0))] ⟨rfl, h2⟩ ?_
  rintro s ⟨h0, h2⟩
  refine .nsq ?_
  refine .seq ?_
  refine run_reg ?_
  refine e_end ?_
  refine g_v1 (t := 0) (u := (.int .u64 (IntKind.u64.wrap ((IntKind.u64.wrap ((IntKind.u64.wrap ((iand .u64 (IntKind.u64.wrap (q_4 + (IntKind.u64.wrap ((iand .u64 q_3 3689348814741910323) + (iand .u64 (IntKind.u64.wrap ((iand .u64 q_2 6148914691236517205) + (iand .u64 x_1.v 6148914691236517205))) 3689348814741910323))))) 1085102592571150095) + q_5)) + q_6)) + q_7)))) (.int .u64 (IntKind.u64.wrap ((IntKind.u64.wrap ((IntKind.u64.wrap ((iand .u64 (IntKind.u64.wrap (q_4 + (IntKind.u64.wrap ((iand .u64 q_3 3689348814741910323) + (iand .u64 (IntKind.u64.wrap ((iand .u64 q_2 6148914691236517205) + (iand .u64 x_1.v 6148914691236517205))) 3689348814741910323))))) 1085102592571150095) + q_5)) + q_6)) + q_7))) h0 rfl rfl ?_
  refine g_v1 (t := 32) (u := (.int .u64 (IntKind.u64.wrap ((IntKind.u64.wrap ((IntKind.u64.wrap ((iand .u64 (IntKind.u64.wrap (q_4 + (IntKind.u64.wrap ((iand .u64 q_3 3689348814741910323) + (iand .u64 (IntKind.u64.wrap ((iand .u64 q_2 6148914691236517205) + (iand .u64 x_1.v 6148914691236517205))) 3689348814741910323))))) 1085102592571150095) + q_5)) + q_6)) + q_7)))) (.int .i64 (w64 (IntKind.u64.wrap ((IntKind.u64.wrap ((IntKind.u64.wrap ((iand .u64 (IntKind.u64.wrap (q_4 + (IntKind.u64.wrap ((iand .u64 q_3 3689348814741910323) + (iand .u64 (IntKind.u64.wrap ((iand .u64 q_2 6148914691236517205) + (iand .u64 x_1.v 6148914691236517205))) 3689348814741910323))))) 1085102592571150095) + q_5)) + q_6)) + q_7)))) rfl rfl rfl ?_
  refine g_v1 (t := 33) (u := (.int .i64 (w64 (IntKind.u64.wrap ((IntKind.u64.wrap ((IntKind.u64.wrap ((iand .u64 (IntKind.u64.wrap (q_4 + (IntKind.u64.wrap ((iand .u64 q_3 3689348814741910323) + (iand .u64 (IntKind.u64.wrap ((iand .u64 q_2 6148914691236517205) + (iand .u64 x_1.v 6148914691236517205))) 3689348814741910323))))) 1085102592571150095) + q_5)) + q_6)) + q_7))))) (.int .i64 (iand .i64 (w64 (IntKind.u64.wrap ((IntKind.u64.wrap ((IntKind.u64.wrap ((iand .u64 (IntKind.u64.wrap (q_4 + (IntKind.u64.wrap ((iand .u64 q_3 3689348814741910323) + (iand .u64 (IntKind.u64.wrap ((iand .u64 q_2 6148914691236517205) + (iand .u64 x_1.v 6148914691236517205))) 3689348814741910323))))) 1085102592571150095) + q_5)) + q_6)) + q_7))) 127)) rfl rfl rfl ?_
  refine g_v1 (t := 34) (u := (.int .i64 (iand .i64 (w64 (IntKind.u64.wrap ((IntKind.u64.wrap ((IntKind.u64.wrap ((iand .u64 (IntKind.u64.wrap (q_4 + (IntKind.u64.wrap ((iand .u64 q_3 3689348814741910323) + (iand .u64 (IntKind.u64.wrap ((iand .u64 q_2 6148914691236517205) + (iand .u64 x_1.v 6148914691236517205))) 3689348814741910323))))) 1085102592571150095) + q_5)) + q_6)) + q_7))) 127))) (.int .i64 (iand .i64 (w64 (IntKind.u64.wrap ((IntKind.u64.wrap ((IntKind.u64.wrap ((iand .u64 (IntKind.u64.wrap (q_4 + (IntKind.u64.wrap ((iand .u64 q_3 3689348814741910323) + (iand .u64 (IntKind.u64.wrap ((iand .u64 q_2 6148914691236517205) + (iand .u64 x_1.v 6148914691236517205))) 3689348814741910323))))) 1085102592571150095) + q_5)) + q_6)) + q_7))) 127)) rfl rfl rfl ?_
  refine g_end ?_
  refine e_end ?_
  refine renew [(2, (.int .i64 (iand .i64 (w64 (IntKind.u64.wrap ((IntKind.u64.wrap ((IntKind.u64.wrap ((iand .u64 (IntKind.u64.wrap (q_4 + (IntKind.u64.wrap ((iand .u64 q_3 3689348814741910323) + (iand .u64 (IntKind.u64.wrap ((iand .u64 q_2 6148914691236517205) + (iand .u64 x_1.v 6148914691236517205))) 3689348814741910323))))) 1085102592571150095) + q_5)) + q_6)) + q_7))) 127)))] rfl ?_
  rintro s h2
  refine .nsq ?_
  refine .ret ?_
  have hr := Option.some.inj h
  subst hr
  exact rrA (res_tmp h2) rfl
end
def e77 (F : Nat) : Ent := ⟨77, da (fun (x : ((Kd .u64) × Unit)) => bits_OnesCount64 F x.1) (fun (r : Int) => (Enc.enc (r : Int))), 0, false, selF []⟩
theorem p77 {F : Nat} {x0 : (Kd .u64)} {r : Int} (h : bits_OnesCount64 F x0 = some r) : (e77 F).den [Enc.enc x0] = some (Enc.enc (r : Int)) := da_put (f := fun (x : ((Kd .u64) × Unit)) => bits_OnesCount64 F x.1) (t := fun (r : Int) => (Enc.enc (r : Int))) (x0, ()) h
theorem o77 {D : Den} {σ : Sig} {F : Nat} (hF : Fits2 Try.prog D σ) (H : H77 D σ F) : (e77 F).Ok Try.prog := by
  refine ⟨fun args r h => ?_, ⟨Try.f77, Try.func77, rfl, rfl⟩⟩
  obtain ⟨⟨x0, _⟩, y, rfl, hy, rfl⟩ := da_open h
  exact contract_run hF (by kernel_rfl) Try.func77 rfl c77 (show 1 ≤ Try.f77.ntmps by decide) (t77 H x0 _ rfl hy)
/- math/bits.OnesCount -/
def A50_2 : AC := (AC.seq (AC.reg [] [(I.mk (some 6) none false (X.v (A.mov (O.t 0)))), (I.mk (some 7) none false (X.call (O.k (V.fn 77 [] [])) [(O.t 6)])), (I.mk (some 2) none false (X.v (A.mov (O.t 7))))] []) AC.ret)
def A50_1 : AC := (AC.seq (AC.cond (O.k (V.bool false)) (AC.seq (AC.reg [] [(I.mk (some 3) none false (X.v (A.mov (O.t 0)))), (I.mk (some 4) none false (X.v (A.conv IntKind.u32 (O.t 3)))), (I.mk (some 5) none false (X.call (O.k (V.fn 76 [] [])) [(O.t 4)])), (I.mk (some 2) none false (X.v (A.mov (O.t 5))))] []) AC.ret) AC.skip) A50_2)
def A50 : AC := (AC.seq (AC.reg [] [(I.mk (some 2) none false (X.v (A.mov (O.k (V.int IntKind.i64 (Int.ofNat 0))))))] []) A50_1)
def an50 : List An := []
theorem c50 : cC Try.prog Try.f50.ntmps an50 (Try.f50.body.getD .skip) = some A50 := by kernel_rfl
structure H50 (D : Den) (σ : Sig) (F : Nat) : Prop where
  c77 : ∀ (x0 : (Kd .u64)) r, bits_OnesCount64 F x0 = some r → D 77 [Enc.enc x0] = some (Enc.enc (r : Int))
  g77 : σ 77 = some (0, false)
abbrev R50 (r : Int) : (Nat → V) → Prop := RR Try.prog [.tmp 2] 0 false (Enc.enc (r : Int))
section
variable {D : Den} {σ : Sig} {F : Nat} {r : Int}
def bits_OnesCount (F : Nat) (x_1 : (Kd .u64)) : Option Int :=
  (bits_OnesCount64 F (Kd.mk x_1.v : Kd .u64)).bind fun r_2 =>
  some r_2
theorem t50 (H : H50 D σ F) (x_1 : (Kd .u64)) (s : Nat → V) (hs : Facts [(0, (.int .u64 x_1.v))] s) (h : bits_OnesCount F x_1 = some r) : Run D σ (R50 r) (.run A50 []) s := by
  unfold bits_OnesCount at h
  have h0 := hs
  refine .seq ?_
  refine run_reg ?_
  refine e_end ?_
  refine g_v0 (.int .i64 0) rfl rfl ?_
  refine g_end ?_
  refine e_end ?_
  refine renew [(0, (.int .u64 x_1.v)), (2, (.int .i64 0))] ⟨h0, rfl⟩ ?_
  rintro s ⟨h0, h2⟩
  refine .nsq ?_
  refine .seq ?_
  refine run_condF rfl ?_
  refine .skip ?_
  refine .nsq ?_
  refine .seq ?_
  refine run_reg ?_
  refine e_end ?_
  refine g_v1 (t := 0) (u := (.int .u64 x_1.v)) (.int .u64 x_1.v) h0 rfl rfl ?_
  obtain ⟨r_2, E_r_2, h⟩ := bind_some h
  refine g_call (m := 0) (al := false) (r := (Enc.enc (r_2 : Int))) [Enc.enc ((Kd.mk x_1.v : Kd .u64) : (Kd .u64))] (ta_cons (v := (.int .u64 x_1.v)) rfl rfl rfl ta_nil) (H.c77 _ _ E_r_2) H.g77 rfl rfl rfl rfl ?_
  refine g_v1 (t := 7) (u := (.int .i64 r_2)) (.int .i64 r_2) rfl rfl rfl ?_
  refine g_end ?_
  refine e_end ?_
  refine renew [(2, (.int .i64 r_2))] rfl ?_
  rintro s h2
  refine .nsq ?_
  refine .ret ?_
  have hr := Option.some.inj h
  subst hr
  exact rrA (res_tmp h2) rfl
end
def e50 (F : Nat) : Ent := ⟨50, da (fun (x : ((Kd .u64) × Unit)) => bits_OnesCount F x.1) (fun (r : Int) => (Enc.enc (r : Int))), 0, false, selF []⟩
theorem p50 {F : Nat} {x0 : (Kd .u64)} {r : Int} (h : bits_OnesCount F x0 = some r) : (e50 F).den [Enc.enc x0] = some (Enc.enc (r : Int)) := da_put (f := fun (x : ((Kd .u64) × Unit)) => bits_OnesCount F x.1) (t := fun (r : Int) => (Enc.enc (r : Int))) (x0, ()) h
theorem o50 {D : Den} {σ : Sig} {F : Nat} (hF : Fits2 Try.prog D σ) (H : H50 D σ F) : (e50 F).Ok Try.prog := by
  refine ⟨fun args r h => ?_, ⟨Try.f50, Try.func50, rfl, rfl⟩⟩
  obtain ⟨⟨x0, _⟩, y, rfl, hy, rfl⟩ := da_open h
  exact contract_run hF (by kernel_rfl) Try.func50 rfl c50 (show 1 ≤ Try.f50.ntmps by decide) (t50 H x0 _ rfl hy)
/- loop.example/g01109/impl.SearchersUsed -/
def A19_4 : AC := (AC.reg [] [(I.mk (some 25) none false (X.v (A.mov (O.t 8)))), (I.mk (some 26) none false (X.v (A.fld (O.t 10) 0 0))), (I.mk (some 27) none false (X.v (A.load Sh.s (O.t 26)))), (I.mk (some 28) none false (X.v (A.conv IntKind.u64 (O.t 27)))), (I.mk (some 29) none false (X.call (O.k (V.fn 50 [] [])) [(O.t 28)])), (I.mk (some 30) none false (X.v (A.mx [(O.t 25), (O.t 29)]))), (I.mk (some 8) none false (X.v (A.mov (O.t 30))))] [])
def A19_5 : AC := (AC.reg [] [(I.mk (some 31) none false (X.v (A.bin BinOp.add (O.t 21) (O.k (V.int IntKind.i64 (Int.ofNat 1)))))), (I.mk (some 21) none false (X.v (A.mov (O.t 31))))] [])
def A19_3 : AC := (AC.seq (AC.block 1 (AC.seq (AC.reg [.clr [10]] [(I.mk (some 23) none false (X.v (A.idx (O.t 19) (O.t 21) 2))), (I.mk (some 24) none false (X.v (A.load (Sh.ag [Sh.s, Sh.s]) (O.t 23)))), (I.mk (some 10) none false (X.alloc (V.agg [(V.int IntKind.i64 (Int.ofNat 0)), (V.int IntKind.i64 (Int.ofNat 0))]))), (I.mk none none false (X.store (Sh.ag [Sh.s, Sh.s]) (O.t 10) (O.t 24)))] []) A19_4)) A19_5)
def A19_2 : AC := (AC.seq (AC.cond (O.t 22) AC.skip (AC.exit 0)) A19_3)
def A19_1 : AC := (AC.seq (AC.reg [] [(I.mk (some 22) none false (X.v (A.bin BinOp.lss (O.t 21) (O.t 20))))] []) A19_2)
def A19_6 : AC := (AC.seq (AC.reg [] [(I.mk (some 32) none false (X.v (A.mov (O.t 8)))), (I.mk (some 4) none false (X.v (A.mov (O.t 32)))), (I.mk (some 5) none false (X.v (A.mov (O.k (V.bool true)))))] []) AC.ret)
def A19_9 : AC := (AC.cond (O.t 18) (AC.seq (AC.reg [] [(I.mk (some 4) none false (X.v (A.mov (O.k (V.int IntKind.i64 (Int.ofNat 0)))))), (I.mk (some 5) none false (X.v (A.mov (O.k (V.bool false)))))] []) AC.ret) AC.skip)
def A19_12 : AC := (AC.block 0 (AC.loop A19_1))
def A19_11 : AC := (AC.seq (AC.seq (AC.reg [] [(I.mk (some 19) none false (X.v (A.mov (O.t 6)))), (I.mk (some 20) none false (X.v (A.len (O.t 19)))), (I.mk (some 21) none false (X.v (A.mov (O.k (V.int IntKind.i64 (Int.ofNat 0))))))] []) A19_12) A19_6)
def A19_10 : AC := (AC.seq (AC.reg [] [(I.mk (some 8) none false (X.v (A.mov (O.k (V.int IntKind.i64 (Int.ofNat 0))))))] []) A19_11)
def A19_8 : AC := (AC.seq (AC.seq (AC.reg [] [(I.mk (some 17) none false (X.v (A.mov (O.t 7)))), (I.mk (some 18) none false (X.v (A.un UnOp.not (O.t 17))))] []) A19_9) A19_10)
def A19_7 : AC := (AC.seq (AC.reg [] [(I.mk (some 12) none false (X.v (A.load (Sh.ag [Sh.s, Sh.p]) (O.t 2)))), (I.mk (some 13) none false (X.v (A.mov (O.t 1)))), (I.mk (some 14) none false (X.call (O.k (V.fn 47 [] [])) [(O.t 12), (O.t 13)])), (I.mk (some 11) none false (X.v (A.mov (O.t 14)))), (I.mk (some 15) none false (X.v (A.ext (O.t 11) 0))), (I.mk (some 16) none false (X.v (A.extS (O.t 11) 1))), (I.mk (some 6) none false (X.v (A.mov (O.t 15)))), (I.mk (some 7) none false (X.v (A.mov (O.t 16))))] []) A19_8)
def A19 : AC := (AC.seq (AC.reg [.clr [2]] [(I.mk (some 2) none false (X.box (O.t 0))), (I.mk (some 4) none false (X.v (A.mov (O.k (V.int IntKind.i64 (Int.ofNat 0)))))), (I.mk (some 5) none false (X.v (A.mov (O.k (V.bool false)))))] []) A19_7)
def an19 : List An := [{ id := 0, pre := [.clr [2]], ep := [], lin := [], sp := [] }, { id := 7, pre := [.clr [10]], ep := [], lin := [], sp := [] }]
theorem c19 : cC Try.prog Try.f19.ntmps an19 (Try.f19.body.getD .skip) = some A19 := by kernel_rfl
structure H19 (D : Den) (σ : Sig) (F : Nat) : Prop where
  c47 : ∀ (x0 : (Int × (List (Int × Int)))) (x1 : (List Int)) r, i_programOf F x0 x1 = some r → D 47 [Enc.enc x0, Enc.enc x1] = some (.tup [Enc.enc (r.1 : (List (Int × Int))), Enc.enc (r.2 : Bool)])
  g47 : σ 47 = some (0, true)
  c50 : ∀ (x0 : (Kd .u64)) r, bits_OnesCount F x0 = some r → D 50 [Enc.enc x0] = some (Enc.enc (r : Int))
  g50 : σ 50 = some (0, false)
abbrev R19 (r : (Int × Bool)) : (Nat → V) → Prop := RR Try.prog [.tmp 4, .tmp 5] 0 false (.tup [Enc.enc (r.1 : Int), Enc.enc (r.2 : Bool)])
section
variable {D : Den} {σ : Sig} {F : Nat} {r : (Int × Bool)}
def i_SearchersUsed_l1 (F : Nat) (r_3 : ((List (Int × Int)) × Bool))  : Nat → Int → Int → Option (Int × Bool)
  | 0, _, _ => none
  | k + 1, most_6, t21_7 =>
    bif decide (t21_7 < (r_3.1.length : Int)) then
      (idx r_3.1 t21_7).bind fun e_10 =>
      (bits_OnesCount F (Kd.mk (IntKind.u64.wrap e_10.1) : Kd .u64)).bind fun r_11 =>
      (i_SearchersUsed_l1 F r_3 k) (if r_11 > most_6 then r_11 else most_6) (w64 (t21_7 + 1))
    else
      some (most_6, true)
theorem t_f19_l1 (H : H19 D σ F) (r_3 : ((List (Int × Int)) × Bool))  : ∀ (k : Nat) (most_6 : Int) (t21_7 : Int) (s : Nat → V), Facts [(4, (.int .i64 0)), (5, (.bool false)), (8, (.int .i64 most_6)), (19, (Enc.enc (r_3.1 : List (Int × Int)))), (20, (.int .i64 (r_3.1.length : Int))), (21, (.int .i64 t21_7))] s → i_SearchersUsed_l1 F r_3 k most_6 t21_7 = some r → Run D σ (R19 r) (.run A19_1 [.lp A19_1, .bk 0, .sq A19_6]) s := by
  intro k
  induction k with
  | zero => intro most_6 t21_7 s _ h; exact nomatch (h : (none : Option _) = some r)
  | succ k ih =>
    intro most_6 t21_7 s hs h
    rw [i_SearchersUsed_l1] at h
    obtain ⟨h4, h5, h8, h19, h20, h21⟩ := hs
    refine .seq ?_
    refine run_reg ?_
    refine e_end ?_
    refine g_v2 (t1 := 21) (t2 := 20) (u1 := (.int .i64 t21_7)) (u2 := (.int .i64 (r_3.1.length : Int))) (.bool (decide (t21_7 < (r_3.1.length : Int)))) h21 h20 rfl rfl ?_
    refine g_end ?_
    refine e_end ?_
    refine renew [(4, (.int .i64 0)), (5, (.bool false)), (8, (.int .i64 most_6)), (19, (Enc.enc (r_3.1 : List (Int × Int)))), (20, (.int .i64 (r_3.1.length : Int))), (21, (.int .i64 t21_7)), (22, (.bool (decide (t21_7 < (r_3.1.length : Int)))))] ⟨h4, h5, h8, h19, h20, h21, rfl⟩ ?_
    rintro s ⟨h4, h5, h8, h19, h20, h21, h22⟩
    refine .nsq ?_
    refine .seq ?_
    refine run_cond (t := decide (t21_7 < (r_3.1.length : Int))) h22 h (fun h => ?_) (fun h => ?_)
    · refine .skip ?_
      refine .nsq ?_
      refine .seq ?_
      refine .block ?_
      refine .seq ?_
      refine run_reg ?_
      refine e_clr ?_
      refine e_end ?_
      obtain ⟨e_10, E_e_10, h⟩ := bind_some h
      refine g_v (.ref .sh 0 [] (.agg [(.int .i64 e_10.1), (.int .i64 e_10.2)])) (ev_idx (t := .sh) (lo := 0) (xs := r_3.1) (keep_clear (s := s) (pk := [10]) h19 rfl (Enc.map_enc _ (r_3.1 : List (Int × Int)))) (keep_clear (s := s) (pk := [10]) h21 rfl rfl) E_e_10 rfl rfl) ?_
      refine g_v1 (t := 23) (u := (.ref .sh 0 [] (.agg [(.int .i64 e_10.1), (.int .i64 e_10.2)]))) (.agg [(.int .i64 e_10.1), (.int .i64 e_10.2)]) rfl rfl rfl ?_
      refine g_alloc (gone_clear (s := s) (pk := [10]) (t := 10) rfl) ?_
      refine g_store (.agg [(.int .i64 e_10.1), (.int .i64 e_10.2)]) (rd_of rfl rfl) (rd_of rfl rfl) (by refine ⟨by decide, by decide, rfl, rfl, rfl, ?_⟩; first | rfl | simp [V.toks, V.tokss, Enc.toks_enc]) ?_
      refine g_end ?_
      refine e_end ?_
      refine renew [(4, (.int .i64 0)), (5, (.bool false)), (8, (.int .i64 most_6)), (10, (.ref (.bx 10) 0 [] (.agg [(.int .i64 e_10.1), (.int .i64 e_10.2)]))), (19, (Enc.enc (r_3.1 : List (Int × Int)))), (20, (.int .i64 (r_3.1.length : Int))), (21, (.int .i64 t21_7))] ⟨(keep_mut (keep_clear (s := s) (pk := [10]) h4 rfl rfl) rfl), (keep_mut (keep_clear (s := s) (pk := [10]) h5 rfl rfl) rfl), (keep_mut (keep_clear (s := s) (pk := [10]) h8 rfl rfl) rfl), (keep_mut rfl rfl), (keep_mut (keep_clear (s := s) (pk := [10]) h19 rfl (Enc.map_enc _ (r_3.1 : List (Int × Int)))) (Enc.mut_enc _ _ _ _ (r_3.1 : List (Int × Int)))), (keep_mut (keep_clear (s := s) (pk := [10]) h20 rfl rfl) rfl), (keep_mut (keep_clear (s := s) (pk := [10]) h21 rfl rfl) rfl)⟩ ?_
      rintro s ⟨h4, h5, h8, h10, h19, h20, h21⟩
      refine .nsq ?_
      refine run_reg ?_
      refine e_end ?_
      refine g_v1 (t := 8) (u := (.int .i64 most_6)) (.int .i64 most_6) h8 rfl rfl ?_
      refine g_v1 (t := 10) (u := (.ref (.bx 10) 0 [] (.agg [(.int .i64 e_10.1), (.int .i64 e_10.2)]))) (.ref (.bx 10) 0 [0] (.int .i64 e_10.1)) h10 rfl rfl ?_
      refine g_v1 (t := 26) (u := (.ref (.bx 10) 0 [0] (.int .i64 e_10.1))) (.int .i64 e_10.1) rfl rfl rfl ?_
      refine g_v1 (t := 27) (u := (.int .i64 e_10.1)) (.int .u64 (IntKind.u64.wrap e_10.1)) rfl rfl rfl ?_
      obtain ⟨r_11, E_r_11, h⟩ := bind_some h
      refine g_call (m := 0) (al := false) (r := (Enc.enc (r_11 : Int))) [Enc.enc ((Kd.mk (IntKind.u64.wrap e_10.1) : Kd .u64) : (Kd .u64))] (ta_cons (v := (.int .u64 (IntKind.u64.wrap e_10.1))) rfl rfl rfl ta_nil) (H.c50 _ _ E_r_11) H.g50 rfl rfl rfl rfl ?_
      refine g_v2 (t1 := 25) (t2 := 29) (u1 := (.int .i64 most_6)) (u2 := (.int .i64 r_11)) (.int .i64 (if r_11 > most_6 then r_11 else most_6)) rfl rfl rfl rfl ?_
      refine g_v1 (t := 30) (u := (.int .i64 (if r_11 > most_6 then r_11 else most_6))) (.int .i64 (if r_11 > most_6 then r_11 else most_6)) rfl rfl rfl ?_
      refine g_end ?_
      refine e_end ?_
      refine renew [(4, (.int .i64 0)), (5, (.bool false)), (8, (.int .i64 (if r_11 > most_6 then r_11 else most_6))), (19, (Enc.enc (r_3.1 : List (Int × Int)))), (20, (.int .i64 (r_3.1.length : Int))), (21, (.int .i64 t21_7))] ⟨h4, h5, rfl, h19, h20, h21⟩ ?_
      rintro s ⟨h4, h5, h8, h19, h20, h21⟩
      refine .nbk ?_
      refine .nsq ?_
      refine run_reg ?_
      refine e_end ?_
      refine g_v1 (t := 21) (u := (.int .i64 t21_7)) (.int .i64 (w64 (t21_7 + 1))) h21 rfl rfl ?_
      refine g_v1 (t := 31) (u := (.int .i64 (w64 (t21_7 + 1)))) (.int .i64 (w64 (t21_7 + 1))) rfl rfl rfl ?_
      refine g_end ?_
      refine e_end ?_
      refine renew [(4, (.int .i64 0)), (5, (.bool false)), (8, (.int .i64 (if r_11 > most_6 then r_11 else most_6))), (19, (Enc.enc (r_3.1 : List (Int × Int)))), (20, (.int .i64 (r_3.1.length : Int))), (21, (.int .i64 (w64 (t21_7 + 1))))] ⟨h4, h5, h8, h19, h20, rfl⟩ ?_
      rintro s ⟨h4, h5, h8, h19, h20, h21⟩
      refine .nlp ?_
      exact ih (if r_11 > most_6 then r_11 else most_6) (w64 (t21_7 + 1)) _ ⟨h4, h5, h8, h19, h20, h21⟩ h
    · refine .exit ?_
      refine .esq ?_
      refine .elp ?_
      refine .ebk ?_
      refine .nsq ?_
      refine .seq ?_
      refine run_reg ?_
      refine e_end ?_
      refine g_v1 (t := 8) (u := (.int .i64 most_6)) (.int .i64 most_6) h8 rfl rfl ?_
      refine g_v1 (t := 32) (u := (.int .i64 most_6)) (.int .i64 most_6) rfl rfl rfl ?_
      refine g_v0 (.bool true) rfl rfl ?_
      refine g_end ?_
      refine e_end ?_
      refine renew [(4, (.int .i64 most_6)), (5, (.bool true))] ⟨rfl, rfl⟩ ?_
      rintro s ⟨h4, h5⟩
      refine .nsq ?_
      refine .ret ?_
      have hr := Option.some.inj h
      subst hr
      exact rrB (res_tmp h4) (res_tmp h5) rfl
def i_SearchersUsed (F : Nat) (g_1 : (Int × (List (Int × Int)))) (program_2 : (List Int)) : Option (Int × Bool) :=
  (i_programOf F g_1 program_2).bind fun r_3 =>
  bif (!r_3.2) then
    some (0, false)
  else
    i_SearchersUsed_l1 F r_3 F 0 0
theorem t19 (H : H19 D σ F) (g_1 : (Int × (List (Int × Int)))) (program_2 : (List Int)) (s : Nat → V) (hs : Facts [(0, (.agg [(.int .i64 g_1.1), (Enc.enc (g_1.2 : List (Int × Int)))])), (1, (Enc.enc (program_2 : List Int)))] s) (h : i_SearchersUsed F g_1 program_2 = some r) : Run D σ (R19 r) (.run A19 []) s := by
  unfold i_SearchersUsed at h
  obtain ⟨h0, h1⟩ := hs
  refine .seq ?_
  refine run_reg ?_
  refine e_clr ?_
  refine e_end ?_
  refine g_box (.agg [(.int .i64 g_1.1), (Enc.enc (g_1.2 : List (Int × Int)))]) (rd_of (keep_clear (s := s) (pk := [2]) h0 rfl (map_agg (maps_cons rfl (maps_cons (Enc.map_enc _ (g_1.2 : List (Int × Int))) maps_nil)))) rfl) (gone_clear (s := s) (pk := [2]) (t := 2) rfl) rfl ?_
  refine g_v0 (.int .i64 0) rfl rfl ?_
  refine g_v0 (.bool false) rfl rfl ?_
  refine g_end ?_
  refine e_end ?_
  refine renew [(1, (Enc.enc (program_2 : List Int))), (2, (.ref (.bx 2) 0 [] (.agg [(.int .i64 g_1.1), (Enc.enc (g_1.2 : List (Int × Int)))]))), (4, (.int .i64 0)), (5, (.bool false))] ⟨(keep_clear (s := s) (pk := [2]) h1 rfl (Enc.map_enc _ (program_2 : List Int))), rfl, rfl, rfl⟩ ?_
  rintro s ⟨h1, h2, h4, h5⟩
  refine .nsq ?_
  refine .seq ?_
  refine run_reg ?_
  refine e_end ?_
  refine g_v1 (t := 2) (u := (.ref (.bx 2) 0 [] (.agg [(.int .i64 g_1.1), (Enc.enc (g_1.2 : List (Int × Int)))]))) (.agg [(.int .i64 g_1.1), (Enc.enc (g_1.2 : List (Int × Int)))]) h2 rfl rfl ?_
  refine g_v1 (t := 1) (u := (Enc.enc (program_2 : List Int))) (Enc.enc (program_2 : List Int)) h1 rfl rfl ?_
  obtain ⟨r_3, E_r_3, h⟩ := bind_some h
  refine g_call (m := 0) (al := true) (r := (.tup [Enc.enc (r_3.1 : (List (Int × Int))), Enc.enc (r_3.2 : Bool)])) [Enc.enc (g_1 : (Int × (List (Int × Int)))), Enc.enc (program_2 : (List Int))] (ta_cons (v := (.agg [(.int .i64 g_1.1), (Enc.enc (g_1.2 : List (Int × Int)))])) rfl rfl (Enc.erase_enc (g_1 : (Int × (List (Int × Int))))) (ta_cons (v := (Enc.enc (program_2 : List Int))) rfl rfl (Enc.erase_enc (program_2 : (List Int))) ta_nil)) (H.c47 _ _ _ E_r_3) H.g47 (hal_of (ht_cons (v := (.agg [(.int .i64 g_1.1), (Enc.enc (g_1.2 : List (Int × Int)))])) rfl rfl rfl (ht_cons (v := (Enc.enc (program_2 : List Int))) rfl rfl rfl ht_nil))) rfl rfl rfl ?_
  refine g_v1 (t := 14) (u := (.tup [(Enc.enc (r_3.1 : List (Int × Int))), (.bool r_3.2)])) (.tup [(Enc.enc (r_3.1 : List (Int × Int))), (.bool r_3.2)]) rfl rfl rfl ?_
  refine g_v1 (t := 11) (u := (.tup [(Enc.enc (r_3.1 : List (Int × Int))), (.bool r_3.2)])) (Enc.enc (r_3.1 : List (Int × Int))) rfl rfl rfl ?_
  refine g_v1 (t := 11) (u := (.tup [(Enc.enc (r_3.1 : List (Int × Int))), (.bool r_3.2)])) (.bool r_3.2) rfl rfl rfl ?_
  refine g_v1 (t := 15) (u := (Enc.enc (r_3.1 : List (Int × Int)))) (Enc.enc (r_3.1 : List (Int × Int))) rfl rfl rfl ?_
  refine g_v1 (t := 16) (u := (.bool r_3.2)) (.bool r_3.2) rfl rfl rfl ?_
  refine g_end ?_
  refine e_end ?_
  refine renew [(4, (.int .i64 0)), (5, (.bool false)), (6, (Enc.enc (r_3.1 : List (Int × Int)))), (7, (.bool r_3.2))] ⟨h4, h5, rfl, rfl⟩ ?_
  rintro s ⟨h4, h5, h6, h7⟩
  refine .nsq ?_
  refine .seq ?_
  refine .seq ?_
  refine run_reg ?_
  refine e_end ?_
  refine g_v1 (t := 7) (u := (.bool r_3.2)) (.bool r_3.2) h7 rfl rfl ?_
  refine g_v1 (t := 17) (u := (.bool r_3.2)) (.bool (!r_3.2)) rfl rfl rfl ?_
  refine g_end ?_
  refine e_end ?_
  refine renew [(4, (.int .i64 0)), (5, (.bool false)), (6, (Enc.enc (r_3.1 : List (Int × Int)))), (18, (.bool (!r_3.2)))] ⟨h4, h5, h6, rfl⟩ ?_
  rintro s ⟨h4, h5, h6, h18⟩
  refine .nsq ?_
  refine run_cond (t := (!r_3.2)) h18 h (fun h => ?_) (fun h => ?_)
  · refine .seq ?_
    refine run_reg ?_
    refine e_end ?_
    refine g_v0 (.int .i64 0) rfl rfl ?_
    refine g_v0 (.bool false) rfl rfl ?_
    refine g_end ?_
    refine e_end ?_
    refine renew [(4, (.int .i64 0)), (5, (.bool false)), (6, (Enc.enc (r_3.1 : List (Int × Int))))] ⟨rfl, rfl, h6⟩ ?_
    rintro s ⟨h4, h5, h6⟩
    refine .nsq ?_
    refine .ret ?_
    have hr := Option.some.inj h
    subst hr
    exact rrB (res_tmp h4) (res_tmp h5) rfl
  · refine .skip ?_
    refine .nsq ?_
    refine .seq ?_
    refine run_reg ?_
    refine e_end ?_
    refine g_v0 (.int .i64 0) rfl rfl ?_
    refine g_end ?_
    refine e_end ?_
    refine renew [(4, (.int .i64 0)), (5, (.bool false)), (6, (Enc.enc (r_3.1 : List (Int × Int)))), (8, (.int .i64 0))] ⟨h4, h5, h6, rfl⟩ ?_
    rintro s ⟨h4, h5, h6, h8⟩
    refine .nsq ?_
    refine .seq ?_
    refine .seq ?_
    refine run_reg ?_
    refine e_end ?_
    refine g_v1 (t := 6) (u := (Enc.enc (r_3.1 : List (Int × Int)))) (Enc.enc (r_3.1 : List (Int × Int))) h6 rfl rfl ?_
    refine g_v (.int .i64 (r_3.1.length : Int)) (ev_len (xs := r_3.1) rfl) ?_
    refine g_v0 (.int .i64 0) rfl rfl ?_
    refine g_end ?_
    refine e_end ?_
    refine renew [(4, (.int .i64 0)), (5, (.bool false)), (8, (.int .i64 0)), (19, (Enc.enc (r_3.1 : List (Int × Int)))), (20, (.int .i64 (r_3.1.length : Int))), (21, (.int .i64 0))] ⟨h4, h5, h8, rfl, rfl, rfl⟩ ?_
    rintro s ⟨h4, h5, h8, h19, h20, h21⟩
    refine .nsq ?_
    refine .block ?_
    refine .loop ?_
    exact t_f19_l1 H r_3 F 0 0 _ ⟨h4, h5, h8, h19, h20, h21⟩ h
end
def e19 (F : Nat) : Ent := ⟨19, da (fun (x : ((Int × (List (Int × Int))) × (List Int) × Unit)) => i_SearchersUsed F x.1 x.2.1) (fun (r : (Int × Bool)) => (.tup [Enc.enc (r.1 : Int), Enc.enc (r.2 : Bool)])), 0, false, selF []⟩
theorem p19 {F : Nat} {x0 : (Int × (List (Int × Int)))} {x1 : (List Int)} {r : (Int × Bool)} (h : i_SearchersUsed F x0 x1 = some r) : (e19 F).den [Enc.enc x0, Enc.enc x1] = some (.tup [Enc.enc (r.1 : Int), Enc.enc (r.2 : Bool)]) := da_put (f := fun (x : ((Int × (List (Int × Int))) × (List Int) × Unit)) => i_SearchersUsed F x.1 x.2.1) (t := fun (r : (Int × Bool)) => (.tup [Enc.enc (r.1 : Int), Enc.enc (r.2 : Bool)])) (x0, x1, ()) h
theorem o19 {D : Den} {σ : Sig} {F : Nat} (hF : Fits2 Try.prog D σ) (H : H19 D σ F) : (e19 F).Ok Try.prog := by
  refine ⟨fun args r h => ?_, ⟨Try.f19, Try.func19, rfl, rfl⟩⟩
  obtain ⟨⟨x0, x1, _⟩, y, rfl, hy, rfl⟩ := da_open h
  exact contract_run hF (by kernel_rfl) Try.func19 rfl c19 (show 2 ≤ Try.f19.ntmps by decide) (t19 H x0 x1 _ ⟨rfl, rfl⟩ hy)
/- loop.example/g01109/laws.eqIntA2 -/
def A75_2 : AC := (AC.cond (O.t 7) AC.skip (AC.exit 0))
def A75_4 : AC := (AC.cond (O.t 16) (AC.seq (AC.reg [] [(I.mk (some 4) none false (X.v (A.mov (O.k (V.bool false)))))] []) AC.ret) AC.skip)
def A75_5 : AC := (AC.reg [] [(I.mk (some 8) none false (X.v (A.mov (O.t 5)))), (I.mk (some 9) none false (X.v (A.bin BinOp.add (O.t 8) (O.k (V.int IntKind.i64 (Int.ofNat 1)))))), (I.mk (some 5) none false (X.v (A.mov (O.t 9))))] [])
def A75_3 : AC := (AC.seq (AC.block 1 (AC.seq (AC.reg [] [(I.mk (some 10) none false (X.v (A.mov (O.t 5)))), (I.mk (some 11) none false (X.v (A.idxA (O.t 2) (O.t 10) 2 1))), (I.mk (some 12) none false (X.v (A.load Sh.s (O.t 11)))), (I.mk (some 13) none false (X.v (A.mov (O.t 5)))), (I.mk (some 14) none false (X.v (A.idxA (O.t 3) (O.t 13) 2 1))), (I.mk (some 15) none false (X.v (A.load Sh.s (O.t 14)))), (I.mk (some 16) none false (X.v (A.bin BinOp.neq (O.t 12) (O.t 15))))] []) A75_4)) A75_5)
def A75_1 : AC := (AC.seq (AC.seq (AC.reg [] [(I.mk (some 6) none false (X.v (A.mov (O.t 5)))), (I.mk (some 7) none false (X.v (A.bin BinOp.lss (O.t 6) (O.k (V.int IntKind.i64 (Int.ofNat 2))))))] []) A75_2) A75_3)
def A75_6 : AC := (AC.seq (AC.reg [] [(I.mk (some 4) none false (X.v (A.mov (O.k (V.bool true)))))] []) AC.ret)
def A75_8 : AC := (AC.block 0 (AC.loop A75_1))
def A75_7 : AC := (AC.seq (AC.seq (AC.reg [] [(I.mk (some 5) none false (X.v (A.mov (O.k (V.int IntKind.i64 (Int.ofNat 0))))))] []) A75_8) A75_6)
def A75 : AC := (AC.seq (AC.reg [.clr [2, 3]] [(I.mk (some 2) none false (X.box (O.t 0))), (I.mk (some 3) none false (X.box (O.t 1))), (I.mk (some 4) none false (X.v (A.mov (O.k (V.bool false)))))] []) A75_7)
def an75 : List An := [{ id := 0, pre := [.clr [2, 3]], ep := [], lin := [], sp := [] }]
theorem c75 : cC Try.prog Try.f75.ntmps an75 (Try.f75.body.getD .skip) = some A75 := by kernel_rfl
structure H75 (D : Den) (σ : Sig) (F : Nat) : Prop where
  mk ::
abbrev R75 (r : Bool) : (Nat → V) → Prop := RR Try.prog [.tmp 4] 0 false (Enc.enc (r : Bool))
section
variable {D : Den} {σ : Sig} {F : Nat} {r : Bool}
def w_eqIntA2_l1 (F : Nat) (a_1 : (Int × Int)) (b_2 : (Int × Int))  : Nat → Int → Option Bool
  | 0, _ => none
  | k + 1, i_3 =>
    bif decide (i_3 < 2) then
      (idx [a_1.1, a_1.2] i_3).bind fun e_6 =>
      (idx [b_2.1, b_2.2] i_3).bind fun e_7 =>
      bif (e_6 != e_7) then
        some false
      else
        (w_eqIntA2_l1 F a_1 b_2 k) (w64 (i_3 + 1))
    else
      some true
theorem t_f75_l1 (H : H75 D σ F) (a_1 : (Int × Int)) (b_2 : (Int × Int))  : ∀ (k : Nat) (i_3 : Int) (s : Nat → V), Facts [(2, (.ref (.bx 2) 0 [] (.agg [(.int .i64 a_1.1), (.int .i64 a_1.2)]))), (3, (.ref (.bx 3) 0 [] (.agg [(.int .i64 b_2.1), (.int .i64 b_2.2)]))), (4, (.bool false)), (5, (.int .i64 i_3))] s → w_eqIntA2_l1 F a_1 b_2 k i_3 = some r → Run D σ (R75 r) (.run A75_1 [.lp A75_1, .bk 0, .sq A75_6]) s := by
  intro k
  induction k with
  | zero => intro i_3 s _ h; exact nomatch (h : (none : Option _) = some r)
  | succ k ih =>
    intro i_3 s hs h
    rw [w_eqIntA2_l1] at h
    obtain ⟨h2, h3, h4, h5⟩ := hs
    refine .seq ?_
    refine .seq ?_
    refine run_reg ?_
    refine e_end ?_
    refine g_v1 (t := 5) (u := (.int .i64 i_3)) (.int .i64 i_3) h5 rfl rfl ?_
    refine g_v1 (t := 6) (u := (.int .i64 i_3)) (.bool (decide (i_3 < 2))) rfl rfl rfl ?_
    refine g_end ?_
    refine e_end ?_
    refine renew [(2, (.ref (.bx 2) 0 [] (.agg [(.int .i64 a_1.1), (.int .i64 a_1.2)]))), (3, (.ref (.bx 3) 0 [] (.agg [(.int .i64 b_2.1), (.int .i64 b_2.2)]))), (4, (.bool false)), (5, (.int .i64 i_3)), (7, (.bool (decide (i_3 < 2))))] ⟨h2, h3, h4, h5, rfl⟩ ?_
    rintro s ⟨h2, h3, h4, h5, h7⟩
    refine .nsq ?_
    refine run_cond (t := decide (i_3 < 2)) h7 h (fun h => ?_) (fun h => ?_)
    · refine .skip ?_
      refine .nsq ?_
      refine .seq ?_
      refine .block ?_
      refine .seq ?_
      refine run_reg ?_
      refine e_end ?_
      refine g_v1 (t := 5) (u := (.int .i64 i_3)) (.int .i64 i_3) h5 rfl rfl ?_
      obtain ⟨e_6, E_e_6, h⟩ := bind_some h
      refine g_v (.ref (.bx 2) 0 [i_3.toNat] (.int .i64 e_6)) (ev_idxA (xs := [a_1.1, a_1.2]) (a := e_6) (n := i_3) (q := []) h2 rfl E_e_6 rfl rfl rfl) ?_
      refine g_v1 (t := 11) (u := (.ref (.bx 2) 0 [i_3.toNat] (.int .i64 e_6))) (.int .i64 e_6) rfl rfl rfl ?_
      refine g_v1 (t := 5) (u := (.int .i64 i_3)) (.int .i64 i_3) h5 rfl rfl ?_
      obtain ⟨e_7, E_e_7, h⟩ := bind_some h
      refine g_v (.ref (.bx 3) 0 [i_3.toNat] (.int .i64 e_7)) (ev_idxA (xs := [b_2.1, b_2.2]) (a := e_7) (n := i_3) (q := []) h3 rfl E_e_7 rfl rfl rfl) ?_
      refine g_v1 (t := 14) (u := (.ref (.bx 3) 0 [i_3.toNat] (.int .i64 e_7))) (.int .i64 e_7) rfl rfl rfl ?_
      refine g_v2 (t1 := 12) (t2 := 15) (u1 := (.int .i64 e_6)) (u2 := (.int .i64 e_7)) (.bool (e_6 != e_7)) rfl rfl rfl rfl ?_
      refine g_end ?_
      refine e_end ?_
      refine renew [(2, (.ref (.bx 2) 0 [] (.agg [(.int .i64 a_1.1), (.int .i64 a_1.2)]))), (3, (.ref (.bx 3) 0 [] (.agg [(.int .i64 b_2.1), (.int .i64 b_2.2)]))), (4, (.bool false)), (5, (.int .i64 i_3)), (16, (.bool (e_6 != e_7)))] ⟨h2, h3, h4, h5, rfl⟩ ?_
      rintro s ⟨h2, h3, h4, h5, h16⟩
      refine .nsq ?_
      refine run_cond (t := (e_6 != e_7)) h16 h (fun h => ?_) (fun h => ?_)
      · refine .seq ?_
        refine run_reg ?_
        refine e_end ?_
        refine g_v0 (.bool false) rfl rfl ?_
        refine g_end ?_
        refine e_end ?_
        refine renew [(2, (.ref (.bx 2) 0 [] (.agg [(.int .i64 a_1.1), (.int .i64 a_1.2)]))), (3, (.ref (.bx 3) 0 [] (.agg [(.int .i64 b_2.1), (.int .i64 b_2.2)]))), (4, (.bool false)), (5, (.int .i64 i_3))] ⟨h2, h3, rfl, h5⟩ ?_
        rintro s ⟨h2, h3, h4, h5⟩
        refine .nsq ?_
        refine .ret ?_
        have hr := Option.some.inj h
        subst hr
        exact rrA (res_tmp h4) rfl
      · refine .skip ?_
        refine .nbk ?_
        refine .nsq ?_
        refine run_reg ?_
        refine e_end ?_
        refine g_v1 (t := 5) (u := (.int .i64 i_3)) (.int .i64 i_3) h5 rfl rfl ?_
        refine g_v1 (t := 8) (u := (.int .i64 i_3)) (.int .i64 (w64 (i_3 + 1))) rfl rfl rfl ?_
        refine g_v1 (t := 9) (u := (.int .i64 (w64 (i_3 + 1)))) (.int .i64 (w64 (i_3 + 1))) rfl rfl rfl ?_
        refine g_end ?_
        refine e_end ?_
        refine renew [(2, (.ref (.bx 2) 0 [] (.agg [(.int .i64 a_1.1), (.int .i64 a_1.2)]))), (3, (.ref (.bx 3) 0 [] (.agg [(.int .i64 b_2.1), (.int .i64 b_2.2)]))), (4, (.bool false)), (5, (.int .i64 (w64 (i_3 + 1))))] ⟨h2, h3, h4, rfl⟩ ?_
        rintro s ⟨h2, h3, h4, h5⟩
        refine .nlp ?_
        exact ih (w64 (i_3 + 1)) _ ⟨h2, h3, h4, h5⟩ h
    · refine .exit ?_
      refine .esq ?_
      refine .elp ?_
      refine .ebk ?_
      refine .nsq ?_
      refine .seq ?_
      refine run_reg ?_
      refine e_end ?_
      refine g_v0 (.bool true) rfl rfl ?_
      refine g_end ?_
      refine e_end ?_
      refine renew [(4, (.bool true))] rfl ?_
      rintro s h4
      refine .nsq ?_
      refine .ret ?_
      have hr := Option.some.inj h
      subst hr
      exact rrA (res_tmp h4) rfl
def w_eqIntA2 (F : Nat) (a_1 : (Int × Int)) (b_2 : (Int × Int)) : Option Bool :=
  w_eqIntA2_l1 F a_1 b_2 F 0
theorem t75 (H : H75 D σ F) (a_1 : (Int × Int)) (b_2 : (Int × Int)) (s : Nat → V) (hs : Facts [(0, (.agg [(.int .i64 a_1.1), (.int .i64 a_1.2)])), (1, (.agg [(.int .i64 b_2.1), (.int .i64 b_2.2)]))] s) (h : w_eqIntA2 F a_1 b_2 = some r) : Run D σ (R75 r) (.run A75 []) s := by
  unfold w_eqIntA2 at h
  obtain ⟨h0, h1⟩ := hs
  refine .seq ?_
  refine run_reg ?_
  refine e_clr ?_
  refine e_end ?_
  refine g_box (.agg [(.int .i64 a_1.1), (.int .i64 a_1.2)]) (rd_of (keep_clear (s := s) (pk := [2, 3]) h0 rfl (map_agg (maps_cons rfl (maps_cons rfl maps_nil)))) rfl) (gone_clear (s := s) (pk := [2, 3]) (t := 2) rfl) rfl ?_
  refine g_box (.agg [(.int .i64 b_2.1), (.int .i64 b_2.2)]) (rd_of (keep_clear (s := s) (pk := [2, 3]) h1 rfl (map_agg (maps_cons rfl (maps_cons rfl maps_nil)))) rfl) (gone_clear (s := s) (pk := [2, 3]) (t := 3) rfl) rfl ?_
  refine g_v0 (.bool false) rfl rfl ?_
  refine g_end ?_
  refine e_end ?_
  refine renew [(2, (.ref (.bx 2) 0 [] (.agg [(.int .i64 a_1.1), (.int .i64 a_1.2)]))), (3, (.ref (.bx 3) 0 [] (.agg [(.int .i64 b_2.1), (.int .i64 b_2.2)]))), (4, (.bool false))] ⟨rfl, rfl, rfl⟩ ?_
  rintro s ⟨h2, h3, h4⟩
  refine .nsq ?_
  refine .seq ?_
  refine .seq ?_
  refine run_reg ?_
  refine e_end ?_
  refine g_v0 (.int .i64 0) rfl rfl ?_
  refine g_end ?_
  refine e_end ?_
  refine renew [(2, (.ref (.bx 2) 0 [] (.agg [(.int .i64 a_1.1), (.int .i64 a_1.2)]))), (3, (.ref (.bx 3) 0 [] (.agg [(.int .i64 b_2.1), (.int .i64 b_2.2)]))), (4, (.bool false)), (5, (.int .i64 0))] ⟨h2, h3, h4, rfl⟩ ?_
  rintro s ⟨h2, h3, h4, h5⟩
  refine .nsq ?_
  refine .block ?_
  refine .loop ?_
  exact t_f75_l1 H a_1 b_2 F 0 _ ⟨h2, h3, h4, h5⟩ h
end
def e75 (F : Nat) : Ent := ⟨75, da (fun (x : ((Int × Int) × (Int × Int) × Unit)) => w_eqIntA2 F x.1 x.2.1) (fun (r : Bool) => (Enc.enc (r : Bool))), 0, false, selF []⟩
theorem p75 {F : Nat} {x0 : (Int × Int)} {x1 : (Int × Int)} {r : Bool} (h : w_eqIntA2 F x0 x1 = some r) : (e75 F).den [Enc.enc x0, Enc.enc x1] = some (Enc.enc (r : Bool)) := da_put (f := fun (x : ((Int × Int) × (Int × Int) × Unit)) => w_eqIntA2 F x.1 x.2.1) (t := fun (r : Bool) => (Enc.enc (r : Bool))) (x0, x1, ()) h
theorem o75 {D : Den} {σ : Sig} {F : Nat} (hF : Fits2 Try.prog D σ) (H : H75 D σ F) : (e75 F).Ok Try.prog := by
  refine ⟨fun args r h => ?_, ⟨Try.f75, Try.func75, rfl, rfl⟩⟩
  obtain ⟨⟨x0, x1, _⟩, y, rfl, hy, rfl⟩ := da_open h
  exact contract_run hF (by kernel_rfl) Try.func75 rfl c75 (show 2 ≤ Try.f75.ntmps by decide) (t75 H x0 x1 _ ⟨rfl, rfl⟩ hy)
/- loop.example/g01109/laws.eqIntA2S -/
def A48_2 : AC := (AC.cond (O.t 14) AC.skip (AC.exit 0))
def A48_4 : AC := (AC.cond (O.t 26) (AC.seq (AC.reg [] [(I.mk (some 4) none false (X.v (A.mov (O.k (V.bool false)))))] []) AC.ret) AC.skip)
def A48_5 : AC := (AC.reg [] [(I.mk (some 15) none false (X.v (A.mov (O.t 5)))), (I.mk (some 16) none false (X.v (A.bin BinOp.add (O.t 15) (O.k (V.int IntKind.i64 (Int.ofNat 1)))))), (I.mk (some 5) none false (X.v (A.mov (O.t 16))))] [])
def A48_3 : AC := (AC.seq (AC.block 1 (AC.seq (AC.reg [] [(I.mk (some 17) none false (X.v (A.mov (O.t 0)))), (I.mk (some 18) none false (X.v (A.mov (O.t 5)))), (I.mk (some 19) none false (X.v (A.idx (O.t 17) (O.t 18) 2))), (I.mk (some 20) none false (X.v (A.load (Sh.ag [Sh.s, Sh.s]) (O.t 19)))), (I.mk (some 21) none false (X.v (A.mov (O.t 1)))), (I.mk (some 22) none false (X.v (A.mov (O.t 5)))), (I.mk (some 23) none false (X.v (A.idx (O.t 21) (O.t 22) 2))), (I.mk (some 24) none false (X.v (A.load (Sh.ag [Sh.s, Sh.s]) (O.t 23)))), (I.mk (some 25) none false (X.call (O.k (V.fn 75 [] [])) [(O.t 20), (O.t 24)])), (I.mk (some 26) none false (X.v (A.un UnOp.not (O.t 25))))] []) A48_4)) A48_5)
def A48_1 : AC := (AC.seq (AC.seq (AC.reg [] [(I.mk (some 11) none false (X.v (A.mov (O.t 5)))), (I.mk (some 12) none false (X.v (A.mov (O.t 0)))), (I.mk (some 13) none false (X.v (A.len (O.t 12)))), (I.mk (some 14) none false (X.v (A.bin BinOp.lss (O.t 11) (O.t 13))))] []) A48_2) A48_3)
def A48_6 : AC := (AC.seq (AC.reg [] [(I.mk (some 4) none false (X.v (A.mov (O.k (V.bool true)))))] []) AC.ret)
def A48_8 : AC := (AC.cond (O.t 10) (AC.seq (AC.reg [] [(I.mk (some 4) none false (X.v (A.mov (O.k (V.bool false)))))] []) AC.ret) AC.skip)
def A48_10 : AC := (AC.block 0 (AC.loop A48_1))
def A48_9 : AC := (AC.seq (AC.seq (AC.reg [] [(I.mk (some 5) none false (X.v (A.mov (O.k (V.int IntKind.i64 (Int.ofNat 0))))))] []) A48_10) A48_6)
def A48_7 : AC := (AC.seq (AC.seq (AC.reg [] [(I.mk (some 6) none false (X.v (A.mov (O.t 0)))), (I.mk (some 7) none false (X.v (A.len (O.t 6)))), (I.mk (some 8) none false (X.v (A.mov (O.t 1)))), (I.mk (some 9) none false (X.v (A.len (O.t 8)))), (I.mk (some 10) none false (X.v (A.bin BinOp.neq (O.t 7) (O.t 9))))] []) A48_8) A48_9)
def A48 : AC := (AC.seq (AC.reg [] [(I.mk (some 4) none false (X.v (A.mov (O.k (V.bool false)))))] []) A48_7)
def an48 : List An := []
theorem c48 : cC Try.prog Try.f48.ntmps an48 (Try.f48.body.getD .skip) = some A48 := by kernel_rfl
structure H48 (D : Den) (σ : Sig) (F : Nat) : Prop where
  c75 : ∀ (x0 : (Int × Int)) (x1 : (Int × Int)) r, w_eqIntA2 F x0 x1 = some r → D 75 [Enc.enc x0, Enc.enc x1] = some (Enc.enc (r : Bool))
  g75 : σ 75 = some (0, false)
abbrev R48 (r : Bool) : (Nat → V) → Prop := RR Try.prog [.tmp 4] 0 false (Enc.enc (r : Bool))
section
variable {D : Den} {σ : Sig} {F : Nat} {r : Bool}
def w_eqIntA2S_l1 (F : Nat) (a_1 : (List (Int × Int))) (b_2 : (List (Int × Int)))  : Nat → Int → Option Bool
  | 0, _ => none
  | k + 1, i_6 =>
    bif decide (i_6 < (a_1.length : Int)) then
      (idx a_1 i_6).bind fun e_10 =>
      (idx b_2 i_6).bind fun e_11 =>
      (w_eqIntA2 F e_10 e_11).bind fun r_12 =>
      bif (!r_12) then
        some false
      else
        (w_eqIntA2S_l1 F a_1 b_2 k) (w64 (i_6 + 1))
    else
      some true
theorem t_f48_l1 (H : H48 D σ F) (a_1 : (List (Int × Int))) (b_2 : (List (Int × Int)))  : ∀ (k : Nat) (i_6 : Int) (s : Nat → V), Facts [(0, (Enc.enc (a_1 : List (Int × Int)))), (1, (Enc.enc (b_2 : List (Int × Int)))), (4, (.bool false)), (5, (.int .i64 i_6))] s → w_eqIntA2S_l1 F a_1 b_2 k i_6 = some r → Run D σ (R48 r) (.run A48_1 [.lp A48_1, .bk 0, .sq A48_6]) s := by
  intro k
  induction k with
  | zero => intro i_6 s _ h; exact nomatch (h : (none : Option _) = some r)
  | succ k ih =>
    intro i_6 s hs h
    rw [w_eqIntA2S_l1] at h
    obtain ⟨h0, h1, h4, h5⟩ := hs
    refine .seq ?_
    refine .seq ?_
    refine run_reg ?_
    refine e_end ?_
    refine g_v1 (t := 5) (u := (.int .i64 i_6)) (.int .i64 i_6) h5 rfl rfl ?_
    refine g_v1 (t := 0) (u := (Enc.enc (a_1 : List (Int × Int)))) (Enc.enc (a_1 : List (Int × Int))) h0 rfl rfl ?_
    refine g_v (.int .i64 (a_1.length : Int)) (ev_len (xs := a_1) rfl) ?_
    refine g_v2 (t1 := 11) (t2 := 13) (u1 := (.int .i64 i_6)) (u2 := (.int .i64 (a_1.length : Int))) (.bool (decide (i_6 < (a_1.length : Int)))) rfl rfl rfl rfl ?_
    refine g_end ?_
    refine e_end ?_
    refine renew [(0, (Enc.enc (a_1 : List (Int × Int)))), (1, (Enc.enc (b_2 : List (Int × Int)))), (4, (.bool false)), (5, (.int .i64 i_6)), (14, (.bool (decide (i_6 < (a_1.length : Int)))))] ⟨h0, h1, h4, h5, rfl⟩ ?_
    rintro s ⟨h0, h1, h4, h5, h14⟩
    refine .nsq ?_
    refine run_cond (t := decide (i_6 < (a_1.length : Int))) h14 h (fun h => ?_) (fun h => ?_)
    · refine .skip ?_
      refine .nsq ?_
      refine .seq ?_
      refine .block ?_
      refine .seq ?_
      refine run_reg ?_
      refine e_end ?_
      refine g_v1 (t := 0) (u := (Enc.enc (a_1 : List (Int × Int)))) (Enc.enc (a_1 : List (Int × Int))) h0 rfl rfl ?_
      refine g_v1 (t := 5) (u := (.int .i64 i_6)) (.int .i64 i_6) h5 rfl rfl ?_
      obtain ⟨e_10, E_e_10, h⟩ := bind_some h
      refine g_v (.ref .sh 0 [] (.agg [(.int .i64 e_10.1), (.int .i64 e_10.2)])) (ev_idx (t := .sh) (lo := 0) (xs := a_1) rfl rfl E_e_10 rfl rfl) ?_
      refine g_v1 (t := 19) (u := (.ref .sh 0 [] (.agg [(.int .i64 e_10.1), (.int .i64 e_10.2)]))) (.agg [(.int .i64 e_10.1), (.int .i64 e_10.2)]) rfl rfl rfl ?_
      refine g_v1 (t := 1) (u := (Enc.enc (b_2 : List (Int × Int)))) (Enc.enc (b_2 : List (Int × Int))) h1 rfl rfl ?_
      refine g_v1 (t := 5) (u := (.int .i64 i_6)) (.int .i64 i_6) h5 rfl rfl ?_
      obtain ⟨e_11, E_e_11, h⟩ := bind_some h
      refine g_v (.ref .sh 0 [] (.agg [(.int .i64 e_11.1), (.int .i64 e_11.2)])) (ev_idx (t := .sh) (lo := 0) (xs := b_2) rfl rfl E_e_11 rfl rfl) ?_
      refine g_v1 (t := 23) (u := (.ref .sh 0 [] (.agg [(.int .i64 e_11.1), (.int .i64 e_11.2)]))) (.agg [(.int .i64 e_11.1), (.int .i64 e_11.2)]) rfl rfl rfl ?_
      obtain ⟨r_12, E_r_12, h⟩ := bind_some h
      refine g_call (m := 0) (al := false) (r := (Enc.enc (r_12 : Bool))) [Enc.enc (e_10 : (Int × Int)), Enc.enc (e_11 : (Int × Int))] (ta_cons (v := (.agg [(.int .i64 e_10.1), (.int .i64 e_10.2)])) rfl rfl (Enc.erase_enc (e_10 : (Int × Int))) (ta_cons (v := (.agg [(.int .i64 e_11.1), (.int .i64 e_11.2)])) rfl rfl (Enc.erase_enc (e_11 : (Int × Int))) ta_nil)) (H.c75 _ _ _ E_r_12) H.g75 rfl rfl rfl rfl ?_
      refine g_v1 (t := 25) (u := (.bool r_12)) (.bool (!r_12)) rfl rfl rfl ?_
      refine g_end ?_
      refine e_end ?_
      refine renew [(0, (Enc.enc (a_1 : List (Int × Int)))), (1, (Enc.enc (b_2 : List (Int × Int)))), (4, (.bool false)), (5, (.int .i64 i_6)), (26, (.bool (!r_12)))] ⟨h0, h1, h4, h5, rfl⟩ ?_
      rintro s ⟨h0, h1, h4, h5, h26⟩
      refine .nsq ?_
      refine run_cond (t := (!r_12)) h26 h (fun h => ?_) (fun h => ?_)
      · refine .seq ?_
        refine run_reg ?_
        refine e_end ?_
        refine g_v0 (.bool false) rfl rfl ?_
        refine g_end ?_
        refine e_end ?_
        refine renew [(0, (Enc.enc (a_1 : List (Int × Int)))), (1, (Enc.enc (b_2 : List (Int × Int)))), (4, (.bool false)), (5, (.int .i64 i_6))] ⟨h0, h1, rfl, h5⟩ ?_
        rintro s ⟨h0, h1, h4, h5⟩
        refine .nsq ?_
        refine .ret ?_
        have hr := Option.some.inj h
        subst hr
        exact rrA (res_tmp h4) rfl
      · refine .skip ?_
        refine .nbk ?_
        refine .nsq ?_
        refine run_reg ?_
        refine e_end ?_
        refine g_v1 (t := 5) (u := (.int .i64 i_6)) (.int .i64 i_6) h5 rfl rfl ?_
        refine g_v1 (t := 15) (u := (.int .i64 i_6)) (.int .i64 (w64 (i_6 + 1))) rfl rfl rfl ?_
        refine g_v1 (t := 16) (u := (.int .i64 (w64 (i_6 + 1)))) (.int .i64 (w64 (i_6 + 1))) rfl rfl rfl ?_
        refine g_end ?_
        refine e_end ?_
        refine renew [(0, (Enc.enc (a_1 : List (Int × Int)))), (1, (Enc.enc (b_2 : List (Int × Int)))), (4, (.bool false)), (5, (.int .i64 (w64 (i_6 + 1))))] ⟨h0, h1, h4, rfl⟩ ?_
        rintro s ⟨h0, h1, h4, h5⟩
        refine .nlp ?_
        exact ih (w64 (i_6 + 1)) _ ⟨h0, h1, h4, h5⟩ h
    · refine .exit ?_
      refine .esq ?_
      refine .elp ?_
      refine .ebk ?_
      refine .nsq ?_
      refine .seq ?_
      refine run_reg ?_
      refine e_end ?_
      refine g_v0 (.bool true) rfl rfl ?_
      refine g_end ?_
      refine e_end ?_
      refine renew [(4, (.bool true))] rfl ?_
      rintro s h4
      refine .nsq ?_
      refine .ret ?_
      have hr := Option.some.inj h
      subst hr
      exact rrA (res_tmp h4) rfl
def w_eqIntA2S (F : Nat) (a_1 : (List (Int × Int))) (b_2 : (List (Int × Int))) : Option Bool :=
  bif ((a_1.length : Int) != (b_2.length : Int)) then
    some false
  else
    w_eqIntA2S_l1 F a_1 b_2 F 0
theorem t48 (H : H48 D σ F) (a_1 : (List (Int × Int))) (b_2 : (List (Int × Int))) (s : Nat → V) (hs : Facts [(0, (Enc.enc (a_1 : List (Int × Int)))), (1, (Enc.enc (b_2 : List (Int × Int))))] s) (h : w_eqIntA2S F a_1 b_2 = some r) : Run D σ (R48 r) (.run A48 []) s := by
  unfold w_eqIntA2S at h
  obtain ⟨h0, h1⟩ := hs
  refine .seq ?_
  refine run_reg ?_
  refine e_end ?_
  refine g_v0 (.bool false) rfl rfl ?_
  refine g_end ?_
  refine e_end ?_
  refine renew [(0, (Enc.enc (a_1 : List (Int × Int)))), (1, (Enc.enc (b_2 : List (Int × Int)))), (4, (.bool false))] ⟨h0, h1, rfl⟩ ?_
  rintro s ⟨h0, h1, h4⟩
  refine .nsq ?_
  refine .seq ?_
  refine .seq ?_
  refine run_reg ?_
  refine e_end ?_
  refine g_v1 (t := 0) (u := (Enc.enc (a_1 : List (Int × Int)))) (Enc.enc (a_1 : List (Int × Int))) h0 rfl rfl ?_
  refine g_v (.int .i64 (a_1.length : Int)) (ev_len (xs := a_1) rfl) ?_
  refine g_v1 (t := 1) (u := (Enc.enc (b_2 : List (Int × Int)))) (Enc.enc (b_2 : List (Int × Int))) h1 rfl rfl ?_
  refine g_v (.int .i64 (b_2.length : Int)) (ev_len (xs := b_2) rfl) ?_
  refine g_v2 (t1 := 7) (t2 := 9) (u1 := (.int .i64 (a_1.length : Int))) (u2 := (.int .i64 (b_2.length : Int))) (.bool ((a_1.length : Int) != (b_2.length : Int))) rfl rfl rfl rfl ?_
  refine g_end ?_
  refine e_end ?_
  refine renew [(0, (Enc.enc (a_1 : List (Int × Int)))), (1, (Enc.enc (b_2 : List (Int × Int)))), (4, (.bool false)), (10, (.bool ((a_1.length : Int) != (b_2.length : Int))))] ⟨h0, h1, h4, rfl⟩ ?_
  rintro s ⟨h0, h1, h4, h10⟩
  refine .nsq ?_
  refine run_cond (t := ((a_1.length : Int) != (b_2.length : Int))) h10 h (fun h => ?_) (fun h => ?_)
  · refine .seq ?_
    refine run_reg ?_
    refine e_end ?_
    refine g_v0 (.bool false) rfl rfl ?_
    refine g_end ?_
    refine e_end ?_
    refine renew [(0, (Enc.enc (a_1 : List (Int × Int)))), (1, (Enc.enc (b_2 : List (Int × Int)))), (4, (.bool false))] ⟨h0, h1, rfl⟩ ?_
    rintro s ⟨h0, h1, h4⟩
    refine .nsq ?_
    refine .ret ?_
    have hr := Option.some.inj h
    subst hr
    exact rrA (res_tmp h4) rfl
  · refine .skip ?_
    refine .nsq ?_
    refine .seq ?_
    refine .seq ?_
    refine run_reg ?_
    refine e_end ?_
    refine g_v0 (.int .i64 0) rfl rfl ?_
    refine g_end ?_
    refine e_end ?_
    refine renew [(0, (Enc.enc (a_1 : List (Int × Int)))), (1, (Enc.enc (b_2 : List (Int × Int)))), (4, (.bool false)), (5, (.int .i64 0))] ⟨h0, h1, h4, rfl⟩ ?_
    rintro s ⟨h0, h1, h4, h5⟩
    refine .nsq ?_
    refine .block ?_
    refine .loop ?_
    exact t_f48_l1 H a_1 b_2 F 0 _ ⟨h0, h1, h4, h5⟩ h
end
def e48 (F : Nat) : Ent := ⟨48, da (fun (x : ((List (Int × Int)) × (List (Int × Int)) × Unit)) => w_eqIntA2S F x.1 x.2.1) (fun (r : Bool) => (Enc.enc (r : Bool))), 0, false, selF []⟩
theorem p48 {F : Nat} {x0 : (List (Int × Int))} {x1 : (List (Int × Int))} {r : Bool} (h : w_eqIntA2S F x0 x1 = some r) : (e48 F).den [Enc.enc x0, Enc.enc x1] = some (Enc.enc (r : Bool)) := da_put (f := fun (x : ((List (Int × Int)) × (List (Int × Int)) × Unit)) => w_eqIntA2S F x.1 x.2.1) (t := fun (r : Bool) => (Enc.enc (r : Bool))) (x0, x1, ()) h
theorem o48 {D : Den} {σ : Sig} {F : Nat} (hF : Fits2 Try.prog D σ) (H : H48 D σ F) : (e48 F).Ok Try.prog := by
  refine ⟨fun args r h => ?_, ⟨Try.f48, Try.func48, rfl, rfl⟩⟩
  obtain ⟨⟨x0, x1, _⟩, y, rfl, hy, rfl⟩ := da_open h
  exact contract_run hF (by kernel_rfl) Try.func48 rfl c48 (show 2 ≤ Try.f48.ntmps by decide) (t48 H x0 x1 _ ⟨rfl, rfl⟩ hy)
/- loop.example/g01109/laws.eqGraph -/
def A16_2 : AC := (AC.cond (O.t 9) (AC.seq (AC.reg [] [(I.mk (some 4) none false (X.v (A.mov (O.k (V.bool false)))))] []) AC.ret) AC.skip)
def A16_4 : AC := (AC.cond (O.t 15) (AC.seq (AC.reg [] [(I.mk (some 4) none false (X.v (A.mov (O.k (V.bool false)))))] []) AC.ret) AC.skip)
def A16_5 : AC := (AC.seq (AC.reg [] [(I.mk (some 4) none false (X.v (A.mov (O.k (V.bool true)))))] []) AC.ret)
def A16_3 : AC := (AC.seq (AC.seq (AC.reg [] [(I.mk (some 10) none false (X.v (A.fld (O.t 2) 1 1))), (I.mk (some 11) none false (X.v (A.load Sh.p (O.t 10)))), (I.mk (some 12) none false (X.v (A.fld (O.t 3) 1 1))), (I.mk (some 13) none false (X.v (A.load Sh.p (O.t 12)))), (I.mk (some 14) none false (X.call (O.k (V.fn 48 [] [])) [(O.t 11), (O.t 13)])), (I.mk (some 15) none false (X.v (A.un UnOp.not (O.t 14))))] []) A16_4) A16_5)
def A16_1 : AC := (AC.seq (AC.seq (AC.reg [] [(I.mk (some 5) none false (X.v (A.fld (O.t 2) 0 0))), (I.mk (some 6) none false (X.v (A.load Sh.s (O.t 5)))), (I.mk (some 7) none false (X.v (A.fld (O.t 3) 0 0))), (I.mk (some 8) none false (X.v (A.load Sh.s (O.t 7)))), (I.mk (some 9) none false (X.v (A.bin BinOp.neq (O.t 6) (O.t 8))))] []) A16_2) A16_3)
def A16 : AC := (AC.seq (AC.reg [.clr [2, 3]] [(I.mk (some 2) none false (X.box (O.t 0))), (I.mk (some 3) none false (X.box (O.t 1))), (I.mk (some 4) none false (X.v (A.mov (O.k (V.bool false)))))] []) A16_1)
def an16 : List An := [{ id := 0, pre := [.clr [2, 3]], ep := [], lin := [], sp := [] }]
theorem c16 : cC Try.prog Try.f16.ntmps an16 (Try.f16.body.getD .skip) = some A16 := by kernel_rfl
structure H16 (D : Den) (σ : Sig) (F : Nat) : Prop where
  c48 : ∀ (x0 : (List (Int × Int))) (x1 : (List (Int × Int))) r, w_eqIntA2S F x0 x1 = some r → D 48 [Enc.enc x0, Enc.enc x1] = some (Enc.enc (r : Bool))
  g48 : σ 48 = some (0, false)
abbrev R16 (r : Bool) : (Nat → V) → Prop := RR Try.prog [.tmp 4] 0 false (Enc.enc (r : Bool))
section
variable {D : Den} {σ : Sig} {F : Nat} {r : Bool}
def w_eqGraph (F : Nat) (a_1 : (Int × (List (Int × Int)))) (b_2 : (Int × (List (Int × Int)))) : Option Bool :=
  bif (a_1.1 != b_2.1) then
    some false
  else
    (w_eqIntA2S F a_1.2 b_2.2).bind fun r_3 =>
    bif (!r_3) then
      some false
    else
      some true
theorem t16 (H : H16 D σ F) (a_1 : (Int × (List (Int × Int)))) (b_2 : (Int × (List (Int × Int)))) (s : Nat → V) (hs : Facts [(0, (.agg [(.int .i64 a_1.1), (Enc.enc (a_1.2 : List (Int × Int)))])), (1, (.agg [(.int .i64 b_2.1), (Enc.enc (b_2.2 : List (Int × Int)))]))] s) (h : w_eqGraph F a_1 b_2 = some r) : Run D σ (R16 r) (.run A16 []) s := by
  unfold w_eqGraph at h
  obtain ⟨h0, h1⟩ := hs
  refine .seq ?_
  refine run_reg ?_
  refine e_clr ?_
  refine e_end ?_
  refine g_box (.agg [(.int .i64 a_1.1), (Enc.enc (a_1.2 : List (Int × Int)))]) (rd_of (keep_clear (s := s) (pk := [2, 3]) h0 rfl (map_agg (maps_cons rfl (maps_cons (Enc.map_enc _ (a_1.2 : List (Int × Int))) maps_nil)))) rfl) (gone_clear (s := s) (pk := [2, 3]) (t := 2) rfl) rfl ?_
  refine g_box (.agg [(.int .i64 b_2.1), (Enc.enc (b_2.2 : List (Int × Int)))]) (rd_of (keep_clear (s := s) (pk := [2, 3]) h1 rfl (map_agg (maps_cons rfl (maps_cons (Enc.map_enc _ (b_2.2 : List (Int × Int))) maps_nil)))) rfl) (gone_clear (s := s) (pk := [2, 3]) (t := 3) rfl) rfl ?_
  refine g_v0 (.bool false) rfl rfl ?_
  refine g_end ?_
  refine e_end ?_
  refine renew [(2, (.ref (.bx 2) 0 [] (.agg [(.int .i64 a_1.1), (Enc.enc (a_1.2 : List (Int × Int)))]))), (3, (.ref (.bx 3) 0 [] (.agg [(.int .i64 b_2.1), (Enc.enc (b_2.2 : List (Int × Int)))]))), (4, (.bool false))] ⟨rfl, rfl, rfl⟩ ?_
  rintro s ⟨h2, h3, h4⟩
  refine .nsq ?_
  refine .seq ?_
  refine .seq ?_
  refine run_reg ?_
  refine e_end ?_
  refine g_v1 (t := 2) (u := (.ref (.bx 2) 0 [] (.agg [(.int .i64 a_1.1), (Enc.enc (a_1.2 : List (Int × Int)))]))) (.ref (.bx 2) 0 [0] (.int .i64 a_1.1)) h2 rfl rfl ?_
  refine g_v1 (t := 5) (u := (.ref (.bx 2) 0 [0] (.int .i64 a_1.1))) (.int .i64 a_1.1) rfl rfl rfl ?_
  refine g_v1 (t := 3) (u := (.ref (.bx 3) 0 [] (.agg [(.int .i64 b_2.1), (Enc.enc (b_2.2 : List (Int × Int)))]))) (.ref (.bx 3) 0 [0] (.int .i64 b_2.1)) h3 rfl rfl ?_
  refine g_v1 (t := 7) (u := (.ref (.bx 3) 0 [0] (.int .i64 b_2.1))) (.int .i64 b_2.1) rfl rfl rfl ?_
  refine g_v2 (t1 := 6) (t2 := 8) (u1 := (.int .i64 a_1.1)) (u2 := (.int .i64 b_2.1)) (.bool (a_1.1 != b_2.1)) rfl rfl rfl rfl ?_
  refine g_end ?_
  refine e_end ?_
  refine renew [(2, (.ref (.bx 2) 0 [] (.agg [(.int .i64 a_1.1), (Enc.enc (a_1.2 : List (Int × Int)))]))), (3, (.ref (.bx 3) 0 [] (.agg [(.int .i64 b_2.1), (Enc.enc (b_2.2 : List (Int × Int)))]))), (4, (.bool false)), (9, (.bool (a_1.1 != b_2.1)))] ⟨h2, h3, h4, rfl⟩ ?_
  rintro s ⟨h2, h3, h4, h9⟩
  refine .nsq ?_
  refine run_cond (t := (a_1.1 != b_2.1)) h9 h (fun h => ?_) (fun h => ?_)
  · refine .seq ?_
    refine run_reg ?_
    refine e_end ?_
    refine g_v0 (.bool false) rfl rfl ?_
    refine g_end ?_
    refine e_end ?_
    refine renew [(2, (.ref (.bx 2) 0 [] (.agg [(.int .i64 a_1.1), (Enc.enc (a_1.2 : List (Int × Int)))]))), (3, (.ref (.bx 3) 0 [] (.agg [(.int .i64 b_2.1), (Enc.enc (b_2.2 : List (Int × Int)))]))), (4, (.bool false))] ⟨h2, h3, rfl⟩ ?_
    rintro s ⟨h2, h3, h4⟩
    refine .nsq ?_
    refine .ret ?_
    have hr := Option.some.inj h
    subst hr
    exact rrA (res_tmp h4) rfl
  · refine .skip ?_
    refine .nsq ?_
    refine .seq ?_
    refine .seq ?_
    refine run_reg ?_
    refine e_end ?_
    refine g_v1 (t := 2) (u := (.ref (.bx 2) 0 [] (.agg [(.int .i64 a_1.1), (Enc.enc (a_1.2 : List (Int × Int)))]))) (.ref (.bx 2) 0 [1] (Enc.enc (a_1.2 : List (Int × Int)))) h2 rfl rfl ?_
    refine g_v1 (t := 10) (u := (.ref (.bx 2) 0 [1] (Enc.enc (a_1.2 : List (Int × Int))))) (Enc.enc (a_1.2 : List (Int × Int))) rfl rfl rfl ?_
    refine g_v1 (t := 3) (u := (.ref (.bx 3) 0 [] (.agg [(.int .i64 b_2.1), (Enc.enc (b_2.2 : List (Int × Int)))]))) (.ref (.bx 3) 0 [1] (Enc.enc (b_2.2 : List (Int × Int)))) h3 rfl rfl ?_
    refine g_v1 (t := 12) (u := (.ref (.bx 3) 0 [1] (Enc.enc (b_2.2 : List (Int × Int))))) (Enc.enc (b_2.2 : List (Int × Int))) rfl rfl rfl ?_
    obtain ⟨r_3, E_r_3, h⟩ := bind_some h
    refine g_call (m := 0) (al := false) (r := (Enc.enc (r_3 : Bool))) [Enc.enc (a_1.2 : (List (Int × Int))), Enc.enc (b_2.2 : (List (Int × Int)))] (ta_cons (v := (Enc.enc (a_1.2 : List (Int × Int)))) rfl rfl (Enc.erase_enc (a_1.2 : (List (Int × Int)))) (ta_cons (v := (Enc.enc (b_2.2 : List (Int × Int)))) rfl rfl (Enc.erase_enc (b_2.2 : (List (Int × Int)))) ta_nil)) (H.c48 _ _ _ E_r_3) H.g48 rfl rfl rfl rfl ?_
    refine g_v1 (t := 14) (u := (.bool r_3)) (.bool (!r_3)) rfl rfl rfl ?_
    refine g_end ?_
    refine e_end ?_
    refine renew [(4, (.bool false)), (15, (.bool (!r_3)))] ⟨h4, rfl⟩ ?_
    rintro s ⟨h4, h15⟩
    refine .nsq ?_
    refine run_cond (t := (!r_3)) h15 h (fun h => ?_) (fun h => ?_)
    · refine .seq ?_
      refine run_reg ?_
      refine e_end ?_
      refine g_v0 (.bool false) rfl rfl ?_
      refine g_end ?_
      refine e_end ?_
      refine renew [(4, (.bool false))] rfl ?_
      rintro s h4
      refine .nsq ?_
      refine .ret ?_
      have hr := Option.some.inj h
      subst hr
      exact rrA (res_tmp h4) rfl
    · refine .skip ?_
      refine .nsq ?_
      refine .seq ?_
      refine run_reg ?_
      refine e_end ?_
      refine g_v0 (.bool true) rfl rfl ?_
      refine g_end ?_
      refine e_end ?_
      refine renew [(4, (.bool true))] rfl ?_
      rintro s h4
      refine .nsq ?_
      refine .ret ?_
      have hr := Option.some.inj h
      subst hr
      exact rrA (res_tmp h4) rfl
end
def e16 (F : Nat) : Ent := ⟨16, da (fun (x : ((Int × (List (Int × Int))) × (Int × (List (Int × Int))) × Unit)) => w_eqGraph F x.1 x.2.1) (fun (r : Bool) => (Enc.enc (r : Bool))), 0, false, selF []⟩
theorem p16 {F : Nat} {x0 : (Int × (List (Int × Int)))} {x1 : (Int × (List (Int × Int)))} {r : Bool} (h : w_eqGraph F x0 x1 = some r) : (e16 F).den [Enc.enc x0, Enc.enc x1] = some (Enc.enc (r : Bool)) := da_put (f := fun (x : ((Int × (List (Int × Int))) × (Int × (List (Int × Int))) × Unit)) => w_eqGraph F x.1 x.2.1) (t := fun (r : Bool) => (Enc.enc (r : Bool))) (x0, x1, ()) h
theorem o16 {D : Den} {σ : Sig} {F : Nat} (hF : Fits2 Try.prog D σ) (H : H16 D σ F) : (e16 F).Ok Try.prog := by
  refine ⟨fun args r h => ?_, ⟨Try.f16, Try.func16, rfl, rfl⟩⟩
  obtain ⟨⟨x0, x1, _⟩, y, rfl, hy, rfl⟩ := da_open h
  exact contract_run hF (by kernel_rfl) Try.func16 rfl c16 (show 2 ≤ Try.f16.ntmps by decide) (t16 H x0 x1 _ ⟨rfl, rfl⟩ hy)
end Go.Zq
