/- Functions of the program as typed functions, and that the machine runs as they say (part 2). No further condition. -/
import Derived.Test.YtonidecbmdpfhaaK3
import Derived.Test.YtonidecbmdpfhaaKC
import Derived.Test.YtonidecbmdpfhaaProg
import Derived.Test.YtonidecbmdpfhaaChecked
import Derived.KernelRfl
import Derived.Test.YtonidecbmdpfhaaG1
set_option linter.unusedVariables false
set_option linter.unusedSimpArgs false
/- Functions of the program, as typed functions, and that the machine runs as they say. -/
namespace Go.Zq
open Go.Proofs Go.Shelf
/- loop.example/g01109/impl.IsGraph -/
def A51_5 : AC := (AC.cond (O.t 48) (AC.seq (AC.reg [] [(I.mk (some 2) none false (X.v (A.mov (O.k (V.bool false)))))] []) AC.ret) AC.skip)
def A51_4 : AC := (AC.seq (AC.reg [] [(I.mk (some 17) none false (X.v (A.idxA (O.t 4) (O.k (V.int IntKind.i64 (Int.ofNat 0))) 2 1))), (I.mk (some 18) none false (X.v (A.load Sh.s (O.t 17)))), (I.mk (some 19) none false (X.v (A.bin BinOp.lss (O.t 18) (O.k (V.int IntKind.i64 (Int.ofNat 0)))))), (I.mk (some 20) none false (X.v (A.mov (O.t 19)))), (I.mk (some 21) (some (20, false)) false (X.v (A.idxA (O.t 4) (O.k (V.int IntKind.i64 (Int.ofNat 0))) 2 1))), (I.mk (some 22) (some (20, false)) false (X.v (A.load Sh.s (O.t 21)))), (I.mk (some 23) (some (20, false)) false (X.v (A.idxA (O.t 4) (O.k (V.int IntKind.i64 (Int.ofNat 1))) 2 1))), (I.mk (some 24) (some (20, false)) false (X.v (A.load Sh.s (O.t 23)))), (I.mk (some 25) (some (20, false)) false (X.v (A.bin BinOp.geq (O.t 22) (O.t 24)))), (I.mk (some 26) none false (X.v (A.pick (O.t 20) (O.k (V.bool true)) (O.t 25)))), (I.mk (some 27) none false (X.v (A.mov (O.t 26)))), (I.mk (some 28) (some (27, false)) false (X.v (A.idxA (O.t 4) (O.k (V.int IntKind.i64 (Int.ofNat 1))) 2 1))), (I.mk (some 29) (some (27, false)) false (X.v (A.load Sh.s (O.t 28)))), (I.mk (some 30) (some (27, false)) false (X.v (A.fld (O.t 1) 0 0))), (I.mk (some 31) (some (27, false)) false (X.v (A.load Sh.s (O.t 30)))), (I.mk (some 32) (some (27, false)) false (X.v (A.bin BinOp.geq (O.t 29) (O.t 31)))), (I.mk (some 33) none false (X.v (A.pick (O.t 27) (O.k (V.bool true)) (O.t 32)))), (I.mk (some 34) none false (X.v (A.mov (O.t 33)))), (I.mk (some 35) (some (34, false)) false (X.v (A.mov (O.t 3)))), (I.mk (some 36) (some (34, false)) false (X.v (A.bin BinOp.gtr (O.t 35) (O.k (V.int IntKind.i64 (Int.ofNat 0)))))), (I.mk (some 37) (some (34, false)) false (X.v (A.mov (O.t 36)))), (I.mk (some 38) (some (37, true)) false (X.v (A.fld (O.t 1) 1 1))), (I.mk (some 39) (some (37, true)) false (X.v (A.load Sh.p (O.t 38)))), (I.mk (some 40) (some (37, true)) false (X.v (A.mov (O.t 3)))), (I.mk (some 41) (some (37, true)) false (X.v (A.bin BinOp.sub (O.t 40) (O.k (V.int IntKind.i64 (Int.ofNat 1)))))), (I.mk (some 42) (some (37, true)) false (X.v (A.idx (O.t 39) (O.t 41) 2))), (I.mk (some 43) (some (37, true)) false (X.v (A.sliceA (O.t 42) 2 Sh.s))), (I.mk (some 44) (some (37, true)) false (X.v (A.sliceA (O.t 4) 2 Sh.s))), (I.mk (some 45) (some (37, true)) false (X.call (O.k (V.fn 101 [] [])) [(O.t 43), (O.t 44)])), (I.mk (some 46) (some (37, true)) false (X.v (A.bin BinOp.geq (O.t 45) (O.k (V.int IntKind.i64 (Int.ofNat 0)))))), (I.mk (some 47) (some (34, false)) false (X.v (A.pick (O.t 37) (O.t 46) (O.k (V.bool false))))), (I.mk (some 48) none false (X.v (A.pick (O.t 34) (O.k (V.bool true)) (O.t 47))))] []) A51_5)
def A51_6 : AC := (AC.reg [] [(I.mk (some 49) none false (X.v (A.bin BinOp.add (O.t 12) (O.k (V.int IntKind.i64 (Int.ofNat 1)))))), (I.mk (some 12) none false (X.v (A.mov (O.t 49))))] [])
def A51_3 : AC := (AC.seq (AC.block 1 (AC.seq (AC.reg [.clr [4]] [(I.mk (some 14) none false (X.v (A.mov (O.t 12)))), (I.mk (some 15) none false (X.v (A.idx (O.t 10) (O.t 12) 2))), (I.mk (some 16) none false (X.v (A.load (Sh.ag [Sh.s, Sh.s]) (O.t 15)))), (I.mk (some 4) none false (X.alloc (V.agg [(V.int IntKind.i64 (Int.ofNat 0)), (V.int IntKind.i64 (Int.ofNat 0))]))), (I.mk (some 3) none false (X.v (A.mov (O.t 14)))), (I.mk none none false (X.store (Sh.ag [Sh.s, Sh.s]) (O.t 4) (O.t 16)))] []) A51_4)) A51_6)
def A51_2 : AC := (AC.seq (AC.cond (O.t 13) AC.skip (AC.exit 0)) A51_3)
def A51_1 : AC := (AC.seq (AC.reg [] [(I.mk (some 13) none false (X.v (A.bin BinOp.lss (O.t 12) (O.t 11))))] []) A51_2)
def A51_7 : AC := (AC.seq (AC.reg [] [(I.mk (some 2) none false (X.v (A.mov (O.k (V.bool true)))))] []) AC.ret)
def A51_9 : AC := (AC.cond (O.t 8) (AC.seq (AC.reg [] [(I.mk (some 2) none false (X.v (A.mov (O.k (V.bool false)))))] []) AC.ret) AC.skip)
def A51_11 : AC := (AC.block 0 (AC.loop A51_1))
def A51_10 : AC := (AC.seq (AC.seq (AC.reg [] [(I.mk (some 9) none false (X.v (A.fld (O.t 1) 1 1))), (I.mk (some 10) none false (X.v (A.load Sh.p (O.t 9)))), (I.mk (some 11) none false (X.v (A.len (O.t 10)))), (I.mk (some 12) none false (X.v (A.mov (O.k (V.int IntKind.i64 (Int.ofNat 0))))))] []) A51_11) A51_7)
def A51_8 : AC := (AC.seq (AC.seq (AC.reg [] [(I.mk (some 5) none false (X.v (A.fld (O.t 1) 0 0))), (I.mk (some 6) none false (X.v (A.load Sh.s (O.t 5)))), (I.mk (some 7) none false (X.call (O.k (V.fn 100 [] [])) [(O.t 6), (O.k (V.int IntKind.i64 (Int.ofNat 0))), (O.k (V.int IntKind.i64 (Int.ofNat 8)))])), (I.mk (some 8) none false (X.v (A.un UnOp.not (O.t 7))))] []) A51_9) A51_10)
def A51 : AC := (AC.seq (AC.reg [.clr [1]] [(I.mk (some 1) none false (X.box (O.t 0))), (I.mk (some 2) none false (X.v (A.mov (O.k (V.bool false)))))] []) A51_8)
def an51 : List An := [{ id := 0, pre := [.clr [1]], ep := [], lin := [], sp := [] }, { id := 5, pre := [.clr [4]], ep := [], lin := [], sp := [] }]
theorem c51 : cC Try.prog Try.f51.ntmps an51 (Try.f51.body.getD .skip) = some A51 := by kernel_rfl
structure H51 (D : Den) (σ : Sig) (F : Nat) : Prop where
  c100 : ∀ (x0 : Int) (x1 : Int) (x2 : Int) r, i_within F x0 x1 x2 = some r → D 100 [Enc.enc x0, Enc.enc x1, Enc.enc x2] = some (Enc.enc (r : Bool))
  g100 : σ 100 = some (0, false)
  c101 : ∀ (x0 : (List Int)) (x1 : (List Int)) r, slices_Compare F x0 x1 = some r → D 101 [Enc.enc x0, Enc.enc x1] = some (Enc.enc (r : Int))
  g101 : σ 101 = some (0, false)
abbrev R51 (r : Bool) : (Nat → V) → Prop := RR Try.prog [.tmp 2] 0 false (Enc.enc (r : Bool))
section
variable {D : Den} {σ : Sig} {F : Nat} {r : Bool}
def i_IsGraph_j1 (F : Nat) (g_1 : (Int × (List (Int × Int)))) (t12_9 : Int) (c1 : Int → Option Bool) (t48_19 : Bool) : Option Bool :=
  bif t48_19 then
    some false
  else
    c1 (w64 (t12_9 + 1))
theorem t_f51_j1 (H : H51 D σ F) (g_1 : (Int × (List (Int × Int)))) (t12_9 : Int) (c1 : Int → Option Bool) (Hc1 : ∀ (t12_9 : Int) (s : Nat → V), Facts [(1, (.ref (.bx 1) 0 [] (.agg [(.int .i64 g_1.1), (Enc.enc (g_1.2 : List (Int × Int)))]))), (2, (.bool false)), (10, (Enc.enc (g_1.2 : List (Int × Int)))), (11, (.int .i64 (g_1.2.length : Int))), (12, (.int .i64 t12_9))] s → c1 t12_9 = some r → Run D σ (R51 r) (.run A51_1 [.lp A51_1, .bk 0, .sq A51_7]) s) (t48_19 : Bool) (s : Nat → V) (hs : Facts [(1, (.ref (.bx 1) 0 [] (.agg [(.int .i64 g_1.1), (Enc.enc (g_1.2 : List (Int × Int)))]))), (2, (.bool false)), (10, (Enc.enc (g_1.2 : List (Int × Int)))), (11, (.int .i64 (g_1.2.length : Int))), (12, (.int .i64 t12_9)), (48, (.bool t48_19))] s) (h : i_IsGraph_j1 F g_1 t12_9 c1 t48_19 = some r) : Run D σ (R51 r) (.nrm [.sq A51_5, .bk 1, .sq A51_6, .lp A51_1, .bk 0, .sq A51_7]) s := by
  unfold i_IsGraph_j1 at h
  obtain ⟨h1, h2, h10, h11, h12, h48⟩ := hs
  refine .nsq ?_
  refine run_cond (t := t48_19) h48 h (fun h => ?_) (fun h => ?_)
  · refine .seq ?_
    refine run_reg ?_
    refine e_end ?_
    refine g_v0 (.bool false) rfl rfl ?_
    refine g_end ?_
    refine e_end ?_
    refine renew [(1, (.ref (.bx 1) 0 [] (.agg [(.int .i64 g_1.1), (Enc.enc (g_1.2 : List (Int × Int)))]))), (2, (.bool false)), (10, (Enc.enc (g_1.2 : List (Int × Int)))), (11, (.int .i64 (g_1.2.length : Int))), (12, (.int .i64 t12_9))] ⟨h1, rfl, h10, h11, h12⟩ ?_
    rintro s ⟨h1, h2, h10, h11, h12⟩
    refine .nsq ?_
    refine .ret ?_
    have hr := Option.some.inj h
    subst hr
    exact rrA (res_tmp h2) rfl
  · refine .skip ?_
    refine .nbk ?_
    refine .nsq ?_
    refine run_reg ?_
    refine e_end ?_
    refine g_v1 (t := 12) (u := (.int .i64 t12_9)) (.int .i64 (w64 (t12_9 + 1))) h12 rfl rfl ?_
    refine g_v1 (t := 49) (u := (.int .i64 (w64 (t12_9 + 1)))) (.int .i64 (w64 (t12_9 + 1))) rfl rfl rfl ?_
    refine g_end ?_
    refine e_end ?_
    refine renew [(1, (.ref (.bx 1) 0 [] (.agg [(.int .i64 g_1.1), (Enc.enc (g_1.2 : List (Int × Int)))]))), (2, (.bool false)), (10, (Enc.enc (g_1.2 : List (Int × Int)))), (11, (.int .i64 (g_1.2.length : Int))), (12, (.int .i64 (w64 (t12_9 + 1))))] ⟨h1, h2, h10, h11, rfl⟩ ?_
    rintro s ⟨h1, h2, h10, h11, h12⟩
    refine .nlp ?_
    exact Hc1 (w64 (t12_9 + 1)) _ ⟨h1, h2, h10, h11, h12⟩ h
def i_IsGraph_l1 (F : Nat) (g_1 : (Int × (List (Int × Int))))  : Nat → Int → Option Bool
  | 0, _ => none
  | k + 1, t12_9 =>
    bif decide (t12_9 < (g_1.2.length : Int)) then
      (idx g_1.2 t12_9).bind fun e_16 =>
      bif decide (e_16.1 < 0) then
        i_IsGraph_j1 F g_1 t12_9 (i_IsGraph_l1 F g_1 k) true
      else
        bif decide (e_16.1 ≥ e_16.2) then
          i_IsGraph_j1 F g_1 t12_9 (i_IsGraph_l1 F g_1 k) true
        else
          bif decide (e_16.2 ≥ g_1.1) then
            i_IsGraph_j1 F g_1 t12_9 (i_IsGraph_l1 F g_1 k) true
          else
            bif decide (t12_9 > 0) then
              (idx g_1.2 (w64 (t12_9 - 1))).bind fun e_20 =>
              (slices_Compare F [e_20.1, e_20.2] [e_16.1, e_16.2]).bind fun r_21 =>
              i_IsGraph_j1 F g_1 t12_9 (i_IsGraph_l1 F g_1 k) (decide (r_21 ≥ 0))
            else
              i_IsGraph_j1 F g_1 t12_9 (i_IsGraph_l1 F g_1 k) false
    else
      some true
theorem t_f51_l1 (H : H51 D σ F) (g_1 : (Int × (List (Int × Int))))  : ∀ (k : Nat) (t12_9 : Int) (s : Nat → V), Facts [(1, (.ref (.bx 1) 0 [] (.agg [(.int .i64 g_1.1), (Enc.enc (g_1.2 : List (Int × Int)))]))), (2, (.bool false)), (10, (Enc.enc (g_1.2 : List (Int × Int)))), (11, (.int .i64 (g_1.2.length : Int))), (12, (.int .i64 t12_9))] s → i_IsGraph_l1 F g_1 k t12_9 = some r → Run D σ (R51 r) (.run A51_1 [.lp A51_1, .bk 0, .sq A51_7]) s := by
  intro k
  induction k with
  | zero => intro t12_9 s _ h; exact nomatch (h : (none : Option _) = some r)
  | succ k ih =>
    intro t12_9 s hs h
    rw [i_IsGraph_l1] at h
    obtain ⟨h1, h2, h10, h11, h12⟩ := hs
    refine .seq ?_
    refine run_reg ?_
    refine e_end ?_
    refine g_v2 (t1 := 12) (t2 := 11) (u1 := (.int .i64 t12_9)) (u2 := (.int .i64 (g_1.2.length : Int))) (.bool (decide (t12_9 < (g_1.2.length : Int)))) h12 h11 rfl rfl ?_
    refine g_end ?_
    refine e_end ?_
    refine renew [(1, (.ref (.bx 1) 0 [] (.agg [(.int .i64 g_1.1), (Enc.enc (g_1.2 : List (Int × Int)))]))), (2, (.bool false)), (10, (Enc.enc (g_1.2 : List (Int × Int)))), (11, (.int .i64 (g_1.2.length : Int))), (12, (.int .i64 t12_9)), (13, (.bool (decide (t12_9 < (g_1.2.length : Int)))))] ⟨h1, h2, h10, h11, h12, rfl⟩ ?_
    rintro s ⟨h1, h2, h10, h11, h12, h13⟩
    refine .nsq ?_
    refine .seq ?_
    refine run_cond (t := decide (t12_9 < (g_1.2.length : Int))) h13 h (fun h => ?_) (fun h => ?_)
    · refine .skip ?_
      refine .nsq ?_
      refine .seq ?_
      refine .block ?_
      refine .seq ?_
      refine run_reg ?_
      refine e_clr ?_
      refine e_end ?_
      refine g_v1 (t := 12) (u := (.int .i64 t12_9)) (.int .i64 t12_9) (keep_clear (s := s) (pk := [4]) h12 rfl rfl) rfl rfl ?_
      obtain ⟨e_16, E_e_16, h⟩ := bind_some h
      refine g_v (.ref .sh 0 [] (.agg [(.int .i64 e_16.1), (.int .i64 e_16.2)])) (ev_idx (t := .sh) (lo := 0) (xs := g_1.2) (keep_clear (s := s) (pk := [4]) h10 rfl (Enc.map_enc _ (g_1.2 : List (Int × Int)))) (keep_clear (s := s) (pk := [4]) h12 rfl rfl) E_e_16 rfl rfl) ?_
      refine g_v1 (t := 15) (u := (.ref .sh 0 [] (.agg [(.int .i64 e_16.1), (.int .i64 e_16.2)]))) (.agg [(.int .i64 e_16.1), (.int .i64 e_16.2)]) rfl rfl rfl ?_
      refine g_alloc (gone_clear (s := s) (pk := [4]) (t := 4) rfl) ?_
      refine g_v1 (t := 14) (u := (.int .i64 t12_9)) (.int .i64 t12_9) rfl rfl rfl ?_
      refine g_store (.agg [(.int .i64 e_16.1), (.int .i64 e_16.2)]) (rd_of rfl rfl) (rd_of rfl rfl) (by refine ⟨by decide, by decide, rfl, rfl, rfl, ?_⟩; first | rfl | simp [V.toks, V.tokss, Enc.toks_enc]) ?_
      refine g_end ?_
      refine e_end ?_
      refine renew [(1, (.ref (.bx 1) 0 [] (.agg [(.int .i64 g_1.1), (Enc.enc (g_1.2 : List (Int × Int)))]))), (2, (.bool false)), (3, (.int .i64 t12_9)), (4, (.ref (.bx 4) 0 [] (.agg [(.int .i64 e_16.1), (.int .i64 e_16.2)]))), (10, (Enc.enc (g_1.2 : List (Int × Int)))), (11, (.int .i64 (g_1.2.length : Int))), (12, (.int .i64 t12_9))] ⟨(keep_mut (keep_clear (s := s) (pk := [4]) h1 rfl (map_bx rfl (map_agg (maps_cons rfl (maps_cons (Enc.map_enc _ (g_1.2 : List (Int × Int))) maps_nil))))) (mut_ref_ne rfl rfl (mut_agg (muts_cons rfl (muts_cons (Enc.mut_enc _ _ _ _ (g_1.2 : List (Int × Int))) rfl))))), (keep_mut (keep_clear (s := s) (pk := [4]) h2 rfl rfl) rfl), (keep_mut rfl rfl), (keep_mut rfl rfl), (keep_mut (keep_clear (s := s) (pk := [4]) h10 rfl (Enc.map_enc _ (g_1.2 : List (Int × Int)))) (Enc.mut_enc _ _ _ _ (g_1.2 : List (Int × Int)))), (keep_mut (keep_clear (s := s) (pk := [4]) h11 rfl rfl) rfl), (keep_mut (keep_clear (s := s) (pk := [4]) h12 rfl rfl) rfl)⟩ ?_
      rintro s ⟨h1, h2, h3, h4, h10, h11, h12⟩
      refine .nsq ?_
      refine .seq ?_
      refine run_reg ?_
      refine e_end ?_
      refine g_v1 (t := 4) (u := (.ref (.bx 4) 0 [] (.agg [(.int .i64 e_16.1), (.int .i64 e_16.2)]))) (.ref (.bx 4) 0 [0] (.int .i64 e_16.1)) h4 rfl rfl ?_
      refine g_v1 (t := 17) (u := (.ref (.bx 4) 0 [0] (.int .i64 e_16.1))) (.int .i64 e_16.1) rfl rfl rfl ?_
      refine g_v1 (t := 18) (u := (.int .i64 e_16.1)) (.bool (decide (e_16.1 < 0))) rfl rfl rfl ?_
      refine g_v1 (t := 19) (u := (.bool (decide (e_16.1 < 0)))) (.bool (decide (e_16.1 < 0))) rfl rfl rfl ?_
      refine split_on (c := decide (e_16.1 < 0)) h (fun hg4 h => ?_) (fun hg4 h => ?_)
      · refine g_no (Eq.trans (b := .bool (decide (e_16.1 < 0))) rfl (congrArg V.bool hg4)) ?_
        refine g_no (Eq.trans (b := .bool (decide (e_16.1 < 0))) rfl (congrArg V.bool hg4)) ?_
        refine g_no (Eq.trans (b := .bool (decide (e_16.1 < 0))) rfl (congrArg V.bool hg4)) ?_
        refine g_no (Eq.trans (b := .bool (decide (e_16.1 < 0))) rfl (congrArg V.bool hg4)) ?_
        refine g_no (Eq.trans (b := .bool (decide (e_16.1 < 0))) rfl (congrArg V.bool hg4)) ?_
        refine g_v2 (t1 := 20) (t2 := 25) (u1 := (.bool true)) (u2 := (.tup [])) (.bool true) (Eq.trans (b := .bool (decide (e_16.1 < 0))) rfl (congrArg V.bool hg4)) rfl rfl rfl ?_
        refine g_v1 (t := 26) (u := (.bool true)) (.bool true) rfl rfl rfl ?_
        refine g_no rfl ?_
        refine g_no rfl ?_
        refine g_no rfl ?_
        refine g_no rfl ?_
        refine g_no rfl ?_
        refine g_v2 (t1 := 27) (t2 := 32) (u1 := (.bool true)) (u2 := (.tup [])) (.bool true) rfl rfl rfl rfl ?_
        refine g_v1 (t := 33) (u := (.bool true)) (.bool true) rfl rfl rfl ?_
        refine g_no rfl ?_
        refine g_no rfl ?_
        refine g_no rfl ?_
        refine g_skip rfl ?_
        refine g_skip rfl ?_
        refine g_skip rfl ?_
        refine g_skip rfl ?_
        refine g_skip rfl ?_
        refine g_skip rfl ?_
        refine g_skip rfl ?_
        refine g_skip rfl ?_
        refine g_skip rfl ?_
        refine g_no rfl ?_
        refine g_v2 (t1 := 34) (t2 := 47) (u1 := (.bool true)) (u2 := (.tup [])) (.bool true) rfl rfl rfl rfl ?_
        refine g_end ?_
        refine e_end ?_
        refine renew [(1, (.ref (.bx 1) 0 [] (.agg [(.int .i64 g_1.1), (Enc.enc (g_1.2 : List (Int × Int)))]))), (2, (.bool false)), (10, (Enc.enc (g_1.2 : List (Int × Int)))), (11, (.int .i64 (g_1.2.length : Int))), (12, (.int .i64 t12_9)), (48, (.bool true))] ⟨h1, h2, h10, h11, h12, rfl⟩ ?_
        rintro s ⟨h1, h2, h10, h11, h12, h48⟩
        exact t_f51_j1 H g_1 t12_9 (i_IsGraph_l1 F g_1 k) ih true _ ⟨h1, h2, h10, h11, h12, h48⟩ h
      · refine g_yes (Eq.trans (b := .bool (decide (e_16.1 < 0))) rfl (congrArg V.bool hg4)) (g_v1 (t := 4) (u := (.ref (.bx 4) 0 [] (.agg [(.int .i64 e_16.1), (.int .i64 e_16.2)]))) (.ref (.bx 4) 0 [0] (.int .i64 e_16.1)) h4 rfl rfl ?_)
        refine g_yes (Eq.trans (b := .bool (decide (e_16.1 < 0))) rfl (congrArg V.bool hg4)) (g_v1 (t := 21) (u := (.ref (.bx 4) 0 [0] (.int .i64 e_16.1))) (.int .i64 e_16.1) rfl rfl rfl ?_)
        refine g_yes (Eq.trans (b := .bool (decide (e_16.1 < 0))) rfl (congrArg V.bool hg4)) (g_v1 (t := 4) (u := (.ref (.bx 4) 0 [] (.agg [(.int .i64 e_16.1), (.int .i64 e_16.2)]))) (.ref (.bx 4) 0 [1] (.int .i64 e_16.2)) h4 rfl rfl ?_)
        refine g_yes (Eq.trans (b := .bool (decide (e_16.1 < 0))) rfl (congrArg V.bool hg4)) (g_v1 (t := 23) (u := (.ref (.bx 4) 0 [1] (.int .i64 e_16.2))) (.int .i64 e_16.2) rfl rfl rfl ?_)
        refine g_yes (Eq.trans (b := .bool (decide (e_16.1 < 0))) rfl (congrArg V.bool hg4)) (g_v2 (t1 := 22) (t2 := 24) (u1 := (.int .i64 e_16.1)) (u2 := (.int .i64 e_16.2)) (.bool (decide (e_16.1 ≥ e_16.2))) rfl rfl rfl rfl ?_)
        refine g_v2 (t1 := 20) (t2 := 25) (u1 := (.bool false)) (u2 := (.bool (decide (e_16.1 ≥ e_16.2)))) (.bool (decide (e_16.1 ≥ e_16.2))) (Eq.trans (b := .bool (decide (e_16.1 < 0))) rfl (congrArg V.bool hg4)) rfl rfl rfl ?_
        refine g_v1 (t := 26) (u := (.bool (decide (e_16.1 ≥ e_16.2)))) (.bool (decide (e_16.1 ≥ e_16.2))) rfl rfl rfl ?_
        refine split_on (c := decide (e_16.1 ≥ e_16.2)) h (fun hg11 h => ?_) (fun hg11 h => ?_)
        · refine g_no (Eq.trans (b := .bool (decide (e_16.1 ≥ e_16.2))) rfl (congrArg V.bool hg11)) ?_
          refine g_no (Eq.trans (b := .bool (decide (e_16.1 ≥ e_16.2))) rfl (congrArg V.bool hg11)) ?_
          refine g_no (Eq.trans (b := .bool (decide (e_16.1 ≥ e_16.2))) rfl (congrArg V.bool hg11)) ?_
          refine g_no (Eq.trans (b := .bool (decide (e_16.1 ≥ e_16.2))) rfl (congrArg V.bool hg11)) ?_
          refine g_no (Eq.trans (b := .bool (decide (e_16.1 ≥ e_16.2))) rfl (congrArg V.bool hg11)) ?_
          refine g_v2 (t1 := 27) (t2 := 32) (u1 := (.bool true)) (u2 := (.tup [])) (.bool true) (Eq.trans (b := .bool (decide (e_16.1 ≥ e_16.2))) rfl (congrArg V.bool hg11)) rfl rfl rfl ?_
          refine g_v1 (t := 33) (u := (.bool true)) (.bool true) rfl rfl rfl ?_
          refine g_no rfl ?_
          refine g_no rfl ?_
          refine g_no rfl ?_
          refine g_skip rfl ?_
          refine g_skip rfl ?_
          refine g_skip rfl ?_
          refine g_skip rfl ?_
          refine g_skip rfl ?_
          refine g_skip rfl ?_
          refine g_skip rfl ?_
          refine g_skip rfl ?_
          refine g_skip rfl ?_
          refine g_no rfl ?_
          refine g_v2 (t1 := 34) (t2 := 47) (u1 := (.bool true)) (u2 := (.tup [])) (.bool true) rfl rfl rfl rfl ?_
          refine g_end ?_
          refine e_end ?_
          refine renew [(1, (.ref (.bx 1) 0 [] (.agg [(.int .i64 g_1.1), (Enc.enc (g_1.2 : List (Int × Int)))]))), (2, (.bool false)), (10, (Enc.enc (g_1.2 : List (Int × Int)))), (11, (.int .i64 (g_1.2.length : Int))), (12, (.int .i64 t12_9)), (48, (.bool true))] ⟨h1, h2, h10, h11, h12, rfl⟩ ?_
          rintro s ⟨h1, h2, h10, h11, h12, h48⟩
          exact t_f51_j1 H g_1 t12_9 (i_IsGraph_l1 F g_1 k) ih true _ ⟨h1, h2, h10, h11, h12, h48⟩ h
        · refine g_yes (Eq.trans (b := .bool (decide (e_16.1 ≥ e_16.2))) rfl (congrArg V.bool hg11)) (g_v1 (t := 4) (u := (.ref (.bx 4) 0 [] (.agg [(.int .i64 e_16.1), (.int .i64 e_16.2)]))) (.ref (.bx 4) 0 [1] (.int .i64 e_16.2)) h4 rfl rfl ?_)
          refine g_yes (Eq.trans (b := .bool (decide (e_16.1 ≥ e_16.2))) rfl (congrArg V.bool hg11)) (g_v1 (t := 28) (u := (.ref (.bx 4) 0 [1] (.int .i64 e_16.2))) (.int .i64 e_16.2) rfl rfl rfl ?_)
          refine g_yes (Eq.trans (b := .bool (decide (e_16.1 ≥ e_16.2))) rfl (congrArg V.bool hg11)) (g_v1 (t := 1) (u := (.ref (.bx 1) 0 [] (.agg [(.int .i64 g_1.1), (Enc.enc (g_1.2 : List (Int × Int)))]))) (.ref (.bx 1) 0 [0] (.int .i64 g_1.1)) h1 rfl rfl ?_)
          refine g_yes (Eq.trans (b := .bool (decide (e_16.1 ≥ e_16.2))) rfl (congrArg V.bool hg11)) (g_v1 (t := 30) (u := (.ref (.bx 1) 0 [0] (.int .i64 g_1.1))) (.int .i64 g_1.1) rfl rfl rfl ?_)
          refine g_yes (Eq.trans (b := .bool (decide (e_16.1 ≥ e_16.2))) rfl (congrArg V.bool hg11)) (g_v2 (t1 := 29) (t2 := 31) (u1 := (.int .i64 e_16.2)) (u2 := (.int .i64 g_1.1)) (.bool (decide (e_16.2 ≥ g_1.1))) rfl rfl rfl rfl ?_)
          refine g_v2 (t1 := 27) (t2 := 32) (u1 := (.bool false)) (u2 := (.bool (decide (e_16.2 ≥ g_1.1)))) (.bool (decide (e_16.2 ≥ g_1.1))) (Eq.trans (b := .bool (decide (e_16.1 ≥ e_16.2))) rfl (congrArg V.bool hg11)) rfl rfl rfl ?_
          refine g_v1 (t := 33) (u := (.bool (decide (e_16.2 ≥ g_1.1)))) (.bool (decide (e_16.2 ≥ g_1.1))) rfl rfl rfl ?_
          refine split_on (c := decide (e_16.2 ≥ g_1.1)) h (fun hg18 h => ?_) (fun hg18 h => ?_)
          · refine g_no (Eq.trans (b := .bool (decide (e_16.2 ≥ g_1.1))) rfl (congrArg V.bool hg18)) ?_
            refine g_no (Eq.trans (b := .bool (decide (e_16.2 ≥ g_1.1))) rfl (congrArg V.bool hg18)) ?_
            refine g_no (Eq.trans (b := .bool (decide (e_16.2 ≥ g_1.1))) rfl (congrArg V.bool hg18)) ?_
            refine g_skip rfl ?_
            refine g_skip rfl ?_
            refine g_skip rfl ?_
            refine g_skip rfl ?_
            refine g_skip rfl ?_
            refine g_skip rfl ?_
            refine g_skip rfl ?_
            refine g_skip rfl ?_
            refine g_skip rfl ?_
            refine g_no (Eq.trans (b := .bool (decide (e_16.2 ≥ g_1.1))) rfl (congrArg V.bool hg18)) ?_
            refine g_v2 (t1 := 34) (t2 := 47) (u1 := (.bool true)) (u2 := (.tup [])) (.bool true) (Eq.trans (b := .bool (decide (e_16.2 ≥ g_1.1))) rfl (congrArg V.bool hg18)) rfl rfl rfl ?_
            refine g_end ?_
            refine e_end ?_
            refine renew [(1, (.ref (.bx 1) 0 [] (.agg [(.int .i64 g_1.1), (Enc.enc (g_1.2 : List (Int × Int)))]))), (2, (.bool false)), (10, (Enc.enc (g_1.2 : List (Int × Int)))), (11, (.int .i64 (g_1.2.length : Int))), (12, (.int .i64 t12_9)), (48, (.bool true))] ⟨h1, h2, h10, h11, h12, rfl⟩ ?_
            rintro s ⟨h1, h2, h10, h11, h12, h48⟩
            exact t_f51_j1 H g_1 t12_9 (i_IsGraph_l1 F g_1 k) ih true _ ⟨h1, h2, h10, h11, h12, h48⟩ h
          · refine g_yes (Eq.trans (b := .bool (decide (e_16.2 ≥ g_1.1))) rfl (congrArg V.bool hg18)) (g_v1 (t := 3) (u := (.int .i64 t12_9)) (.int .i64 t12_9) h3 rfl rfl ?_)
            refine g_yes (Eq.trans (b := .bool (decide (e_16.2 ≥ g_1.1))) rfl (congrArg V.bool hg18)) (g_v1 (t := 35) (u := (.int .i64 t12_9)) (.bool (decide (t12_9 > 0))) rfl rfl rfl ?_)
            refine g_yes (Eq.trans (b := .bool (decide (e_16.2 ≥ g_1.1))) rfl (congrArg V.bool hg18)) (g_v1 (t := 36) (u := (.bool (decide (t12_9 > 0)))) (.bool (decide (t12_9 > 0))) rfl rfl rfl ?_)
            refine split_on (c := decide (t12_9 > 0)) h (fun hg21 h => ?_) (fun hg21 h => ?_)
            · refine g_yes (Eq.trans (b := .bool (decide (t12_9 > 0))) rfl (congrArg V.bool hg21)) (g_v1 (t := 1) (u := (.ref (.bx 1) 0 [] (.agg [(.int .i64 g_1.1), (Enc.enc (g_1.2 : List (Int × Int)))]))) (.ref (.bx 1) 0 [1] (Enc.enc (g_1.2 : List (Int × Int)))) h1 rfl rfl ?_)
              refine g_yes (Eq.trans (b := .bool (decide (t12_9 > 0))) rfl (congrArg V.bool hg21)) (g_v1 (t := 38) (u := (.ref (.bx 1) 0 [1] (Enc.enc (g_1.2 : List (Int × Int))))) (Enc.enc (g_1.2 : List (Int × Int))) rfl rfl rfl ?_)
              refine g_yes (Eq.trans (b := .bool (decide (t12_9 > 0))) rfl (congrArg V.bool hg21)) (g_v1 (t := 3) (u := (.int .i64 t12_9)) (.int .i64 t12_9) h3 rfl rfl ?_)
              refine g_yes (Eq.trans (b := .bool (decide (t12_9 > 0))) rfl (congrArg V.bool hg21)) (g_v1 (t := 40) (u := (.int .i64 t12_9)) (.int .i64 (w64 (t12_9 - 1))) rfl rfl rfl ?_)
              obtain ⟨e_20, E_e_20, h⟩ := bind_some h
              refine g_yes (Eq.trans (b := .bool (decide (t12_9 > 0))) rfl (congrArg V.bool hg21)) (g_v (.ref .sh 0 [] (.agg [(.int .i64 e_20.1), (.int .i64 e_20.2)])) (ev_idx (t := .sh) (lo := 0) (xs := g_1.2) rfl rfl E_e_20 rfl rfl) ?_)
              refine g_yes (Eq.trans (b := .bool (decide (t12_9 > 0))) rfl (congrArg V.bool hg21)) (g_v1 (t := 42) (u := (.ref .sh 0 [] (.agg [(.int .i64 e_20.1), (.int .i64 e_20.2)]))) (Enc.enc ([e_20.1, e_20.2] : List Int)) rfl rfl rfl ?_)
              refine g_yes (Eq.trans (b := .bool (decide (t12_9 > 0))) rfl (congrArg V.bool hg21)) (g_v1 (t := 4) (u := (.ref (.bx 4) 0 [] (.agg [(.int .i64 e_16.1), (.int .i64 e_16.2)]))) (encO (.bx 4) (.of ([e_16.1, e_16.2] : List Int))) h4 rfl rfl ?_)
              obtain ⟨r_21, E_r_21, h⟩ := bind_some h
              refine g_yes (Eq.trans (b := .bool (decide (t12_9 > 0))) rfl (congrArg V.bool hg21)) (g_call (m := 0) (al := false) (r := (Enc.enc (r_21 : Int))) [Enc.enc ([e_20.1, e_20.2] : (List Int)), Enc.enc ([e_16.1, e_16.2] : (List Int))] (ta_cons (v := (Enc.enc ([e_20.1, e_20.2] : List Int))) rfl rfl (Enc.erase_enc ([e_20.1, e_20.2] : (List Int))) (ta_cons (v := (encO (.bx 4) (.of ([e_16.1, e_16.2] : List Int)))) rfl rfl (erase_encO (o := .of [e_16.1, e_16.2])) ta_nil)) (H.c101 _ _ _ E_r_21) H.g101 rfl rfl rfl rfl ?_)
              refine g_yes (Eq.trans (b := .bool (decide (t12_9 > 0))) rfl (congrArg V.bool hg21)) (g_v1 (t := 45) (u := (.int .i64 r_21)) (.bool (decide (r_21 ≥ 0))) rfl rfl rfl ?_)
              refine g_yes (Eq.trans (b := .bool (decide (e_16.2 ≥ g_1.1))) rfl (congrArg V.bool hg18)) (g_v2 (t1 := 37) (t2 := 46) (u1 := (.bool true)) (u2 := (.bool (decide (r_21 ≥ 0)))) (.bool (decide (r_21 ≥ 0))) (Eq.trans (b := .bool (decide (t12_9 > 0))) rfl (congrArg V.bool hg21)) rfl rfl rfl ?_)
              refine g_v2 (t1 := 34) (t2 := 47) (u1 := (.bool false)) (u2 := (.bool (decide (r_21 ≥ 0)))) (.bool (decide (r_21 ≥ 0))) (Eq.trans (b := .bool (decide (e_16.2 ≥ g_1.1))) rfl (congrArg V.bool hg18)) rfl rfl rfl ?_
              refine g_end ?_
              refine e_end ?_
              refine renew [(1, (.ref (.bx 1) 0 [] (.agg [(.int .i64 g_1.1), (Enc.enc (g_1.2 : List (Int × Int)))]))), (2, (.bool false)), (10, (Enc.enc (g_1.2 : List (Int × Int)))), (11, (.int .i64 (g_1.2.length : Int))), (12, (.int .i64 t12_9)), (48, (.bool (decide (r_21 ≥ 0))))] ⟨h1, h2, h10, h11, h12, rfl⟩ ?_
              rintro s ⟨h1, h2, h10, h11, h12, h48⟩
              exact t_f51_j1 H g_1 t12_9 (i_IsGraph_l1 F g_1 k) ih (decide (r_21 ≥ 0)) _ ⟨h1, h2, h10, h11, h12, h48⟩ h
            · refine g_no (Eq.trans (b := .bool (decide (t12_9 > 0))) rfl (congrArg V.bool hg21)) ?_
              refine g_no (Eq.trans (b := .bool (decide (t12_9 > 0))) rfl (congrArg V.bool hg21)) ?_
              refine g_no (Eq.trans (b := .bool (decide (t12_9 > 0))) rfl (congrArg V.bool hg21)) ?_
              refine g_no (Eq.trans (b := .bool (decide (t12_9 > 0))) rfl (congrArg V.bool hg21)) ?_
              refine g_no (Eq.trans (b := .bool (decide (t12_9 > 0))) rfl (congrArg V.bool hg21)) ?_
              refine g_no (Eq.trans (b := .bool (decide (t12_9 > 0))) rfl (congrArg V.bool hg21)) ?_
              refine g_no (Eq.trans (b := .bool (decide (t12_9 > 0))) rfl (congrArg V.bool hg21)) ?_
              refine g_no (Eq.trans (b := .bool (decide (t12_9 > 0))) rfl (congrArg V.bool hg21)) ?_
              refine g_no (Eq.trans (b := .bool (decide (t12_9 > 0))) rfl (congrArg V.bool hg21)) ?_
              refine g_yes (Eq.trans (b := .bool (decide (e_16.2 ≥ g_1.1))) rfl (congrArg V.bool hg18)) (g_v2 (t1 := 37) (t2 := 46) (u1 := (.bool false)) (u2 := (.tup [])) (.bool false) (Eq.trans (b := .bool (decide (t12_9 > 0))) rfl (congrArg V.bool hg21)) rfl rfl rfl ?_)
              refine g_v2 (t1 := 34) (t2 := 47) (u1 := (.bool false)) (u2 := (.bool false)) (.bool false) (Eq.trans (b := .bool (decide (e_16.2 ≥ g_1.1))) rfl (congrArg V.bool hg18)) rfl rfl rfl ?_
              refine g_end ?_
              refine e_end ?_
              refine renew [(1, (.ref (.bx 1) 0 [] (.agg [(.int .i64 g_1.1), (Enc.enc (g_1.2 : List (Int × Int)))]))), (2, (.bool false)), (10, (Enc.enc (g_1.2 : List (Int × Int)))), (11, (.int .i64 (g_1.2.length : Int))), (12, (.int .i64 t12_9)), (48, (.bool false))] ⟨h1, h2, h10, h11, h12, rfl⟩ ?_
              rintro s ⟨h1, h2, h10, h11, h12, h48⟩
              exact t_f51_j1 H g_1 t12_9 (i_IsGraph_l1 F g_1 k) ih false _ ⟨h1, h2, h10, h11, h12, h48⟩ h
    · refine .exit ?_
      refine .esq ?_
      refine .elp ?_
      refine .ebk ?_
      refine .nsq ?_
      refine .seq ?_
      refine run_reg ?_
      refine e_end ?_
      refine g_v0 (.bool true) rfl rfl ?_
      refine g_end ?_
      refine e_end ?_
      refine renew [(2, (.bool true))] rfl ?_
      rintro s h2
      refine .nsq ?_
      refine .ret ?_
      have hr := Option.some.inj h
      subst hr
      exact rrA (res_tmp h2) rfl
def i_IsGraph (F : Nat) (g_1 : (Int × (List (Int × Int)))) : Option Bool :=
  (i_within F g_1.1 0 8).bind fun r_2 =>
  bif (!r_2) then
    some false
  else
    i_IsGraph_l1 F g_1 F 0
theorem t51 (H : H51 D σ F) (g_1 : (Int × (List (Int × Int)))) (s : Nat → V) (hs : Facts [(0, (.agg [(.int .i64 g_1.1), (Enc.enc (g_1.2 : List (Int × Int)))]))] s) (h : i_IsGraph F g_1 = some r) : Run D σ (R51 r) (.run A51 []) s := by
  unfold i_IsGraph at h
  have h0 := hs
  refine .seq ?_
  refine run_reg ?_
  refine e_clr ?_
  refine e_end ?_
  refine g_box (.agg [(.int .i64 g_1.1), (Enc.enc (g_1.2 : List (Int × Int)))]) (rd_of (keep_clear (s := s) (pk := [1]) h0 rfl (map_agg (maps_cons rfl (maps_cons (Enc.map_enc _ (g_1.2 : List (Int × Int))) maps_nil)))) rfl) (gone_clear (s := s) (pk := [1]) (t := 1) rfl) rfl ?_
  refine g_v0 (.bool false) rfl rfl ?_
  refine g_end ?_
  refine e_end ?_
  refine renew [(1, (.ref (.bx 1) 0 [] (.agg [(.int .i64 g_1.1), (Enc.enc (g_1.2 : List (Int × Int)))]))), (2, (.bool false))] ⟨rfl, rfl⟩ ?_
  rintro s ⟨h1, h2⟩
  refine .nsq ?_
  refine .seq ?_
  refine .seq ?_
  refine run_reg ?_
  refine e_end ?_
  refine g_v1 (t := 1) (u := (.ref (.bx 1) 0 [] (.agg [(.int .i64 g_1.1), (Enc.enc (g_1.2 : List (Int × Int)))]))) (.ref (.bx 1) 0 [0] (.int .i64 g_1.1)) h1 rfl rfl ?_
  refine g_v1 (t := 5) (u := (.ref (.bx 1) 0 [0] (.int .i64 g_1.1))) (.int .i64 g_1.1) rfl rfl rfl ?_
  obtain ⟨r_2, E_r_2, h⟩ := bind_some h
  refine g_call (m := 0) (al := false) (r := (Enc.enc (r_2 : Bool))) [Enc.enc (g_1.1 : Int), Enc.enc (0 : Int), Enc.enc (8 : Int)] (ta_cons (v := (.int .i64 g_1.1)) rfl rfl rfl (ta_cons (v := (.int .i64 0)) rfl rfl rfl (ta_cons (v := (.int .i64 8)) rfl rfl rfl ta_nil))) (H.c100 _ _ _ _ E_r_2) H.g100 rfl rfl rfl rfl ?_
  refine g_v1 (t := 7) (u := (.bool r_2)) (.bool (!r_2)) rfl rfl rfl ?_
  refine g_end ?_
  refine e_end ?_
  refine renew [(1, (.ref (.bx 1) 0 [] (.agg [(.int .i64 g_1.1), (Enc.enc (g_1.2 : List (Int × Int)))]))), (2, (.bool false)), (8, (.bool (!r_2)))] ⟨h1, h2, rfl⟩ ?_
  rintro s ⟨h1, h2, h8⟩
  refine .nsq ?_
  refine run_cond (t := (!r_2)) h8 h (fun h => ?_) (fun h => ?_)
  · refine .seq ?_
    refine run_reg ?_
    refine e_end ?_
    refine g_v0 (.bool false) rfl rfl ?_
    refine g_end ?_
    refine e_end ?_
    refine renew [(1, (.ref (.bx 1) 0 [] (.agg [(.int .i64 g_1.1), (Enc.enc (g_1.2 : List (Int × Int)))]))), (2, (.bool false))] ⟨h1, rfl⟩ ?_
    rintro s ⟨h1, h2⟩
    refine .nsq ?_
    refine .ret ?_
    have hr := Option.some.inj h
    subst hr
    exact rrA (res_tmp h2) rfl
  · refine .skip ?_
    refine .nsq ?_
    refine .seq ?_
    refine .seq ?_
    refine run_reg ?_
    refine e_end ?_
    refine g_v1 (t := 1) (u := (.ref (.bx 1) 0 [] (.agg [(.int .i64 g_1.1), (Enc.enc (g_1.2 : List (Int × Int)))]))) (.ref (.bx 1) 0 [1] (Enc.enc (g_1.2 : List (Int × Int)))) h1 rfl rfl ?_
    refine g_v1 (t := 9) (u := (.ref (.bx 1) 0 [1] (Enc.enc (g_1.2 : List (Int × Int))))) (Enc.enc (g_1.2 : List (Int × Int))) rfl rfl rfl ?_
    refine g_v (.int .i64 (g_1.2.length : Int)) (ev_len (xs := g_1.2) rfl) ?_
    refine g_v0 (.int .i64 0) rfl rfl ?_
    refine g_end ?_
    refine e_end ?_
    refine renew [(1, (.ref (.bx 1) 0 [] (.agg [(.int .i64 g_1.1), (Enc.enc (g_1.2 : List (Int × Int)))]))), (2, (.bool false)), (10, (Enc.enc (g_1.2 : List (Int × Int)))), (11, (.int .i64 (g_1.2.length : Int))), (12, (.int .i64 0))] ⟨h1, h2, rfl, rfl, rfl⟩ ?_
    rintro s ⟨h1, h2, h10, h11, h12⟩
    refine .nsq ?_
    refine .block ?_
    refine .loop ?_
    exact t_f51_l1 H g_1 F 0 _ ⟨h1, h2, h10, h11, h12⟩ h
end
def e51 (F : Nat) : Ent := ⟨51, da (fun (x : ((Int × (List (Int × Int))) × Unit)) => i_IsGraph F x.1) (fun (r : Bool) => (Enc.enc (r : Bool))), 0, false, selF []⟩
theorem p51 {F : Nat} {x0 : (Int × (List (Int × Int)))} {r : Bool} (h : i_IsGraph F x0 = some r) : (e51 F).den [Enc.enc x0] = some (Enc.enc (r : Bool)) := da_put (f := fun (x : ((Int × (List (Int × Int))) × Unit)) => i_IsGraph F x.1) (t := fun (r : Bool) => (Enc.enc (r : Bool))) (x0, ()) h
theorem o51 {D : Den} {σ : Sig} {F : Nat} (hF : Fits2 Try.prog D σ) (H : H51 D σ F) : (e51 F).Ok Try.prog := by
  refine ok_of (f := 51) (show unk 51 = 51 from rfl) (fun args r h => ?_) ⟨Try.f51, Try.func51, rfl, rfl⟩
  obtain ⟨⟨x0, _⟩, y, rfl, hy, rfl⟩ := da_open h
  exact contract_run hF (by kernel_rfl) Try.func51 rfl c51 (show 1 ≤ Try.f51.ntmps by decide) (t51 H x0 _ rfl hy)
/- loop.example/g01109/impl.netOf -/
def A52_5 : AC := (AC.reg [] [(I.mk (some 28) none false (X.v (A.fld (O.t 3) 0 0))), (I.mk (some 29) none false (X.v (A.load Sh.p (O.t 28)))), (I.mk (some 30) none false (X.v (A.idxA (O.t 5) (O.k (V.int IntKind.i64 (Int.ofNat 1))) 2 1))), (I.mk (some 31) none false (X.v (A.load Sh.s (O.t 30)))), (I.mk (some 32) none false (X.v (A.idx (O.t 29) (O.t 31) 1))), (I.mk (some 33) none false (X.v (A.load Sh.s (O.t 32)))), (I.mk (some 34) none false (X.v (A.idxA (O.t 5) (O.k (V.int IntKind.i64 (Int.ofNat 0))) 2 1))), (I.mk (some 35) none false (X.v (A.load Sh.s (O.t 34)))), (I.mk (some 36) none false (X.v (A.bin BinOp.shl (O.k (V.int IntKind.i64 (Int.ofNat 1))) (O.t 35)))), (I.mk (some 37) none false (X.v (A.bin BinOp.or (O.t 33) (O.t 36)))), (I.mk (some 38) none false (X.v (A.idx (O.t 29) (O.t 31) 1))), (I.mk none none false (X.store Sh.s (O.t 38) (O.t 37)))] [])
def A52_4 : AC := (AC.seq (AC.reg [] [(I.mk (some 17) none false (X.v (A.fld (O.t 3) 0 0))), (I.mk (some 18) none false (X.v (A.load Sh.p (O.t 17)))), (I.mk (some 19) none false (X.v (A.idxA (O.t 5) (O.k (V.int IntKind.i64 (Int.ofNat 0))) 2 1))), (I.mk (some 20) none false (X.v (A.load Sh.s (O.t 19)))), (I.mk (some 21) none false (X.v (A.idx (O.t 18) (O.t 20) 1))), (I.mk (some 22) none false (X.v (A.load Sh.s (O.t 21)))), (I.mk (some 23) none false (X.v (A.idxA (O.t 5) (O.k (V.int IntKind.i64 (Int.ofNat 1))) 2 1))), (I.mk (some 24) none false (X.v (A.load Sh.s (O.t 23)))), (I.mk (some 25) none false (X.v (A.bin BinOp.shl (O.k (V.int IntKind.i64 (Int.ofNat 1))) (O.t 24)))), (I.mk (some 26) none false (X.v (A.bin BinOp.or (O.t 22) (O.t 25)))), (I.mk (some 27) none false (X.v (A.idx (O.t 18) (O.t 20) 1))), (I.mk none none false (X.store Sh.s (O.t 27) (O.t 26)))] []) A52_5)
def A52_6 : AC := (AC.reg [] [(I.mk (some 39) none false (X.v (A.bin BinOp.add (O.t 13) (O.k (V.int IntKind.i64 (Int.ofNat 1)))))), (I.mk (some 13) none false (X.v (A.mov (O.t 39))))] [])
def A52_3 : AC := (AC.seq (AC.block 1 (AC.seq (AC.reg [.clr [5]] [(I.mk (some 15) none false (X.v (A.idx (O.t 11) (O.t 13) 2))), (I.mk (some 16) none false (X.v (A.load (Sh.ag [Sh.s, Sh.s]) (O.t 15)))), (I.mk (some 5) none false (X.alloc (V.agg [(V.int IntKind.i64 (Int.ofNat 0)), (V.int IntKind.i64 (Int.ofNat 0))]))), (I.mk none none false (X.store (Sh.ag [Sh.s, Sh.s]) (O.t 5) (O.t 16)))] []) A52_4)) A52_6)
def A52_2 : AC := (AC.seq (AC.cond (O.t 14) AC.skip (AC.exit 0)) A52_3)
def A52_1 : AC := (AC.seq (AC.reg [] [(I.mk (some 14) none false (X.v (A.bin BinOp.lss (O.t 13) (O.t 12))))] []) A52_2)
def A52_7 : AC := (AC.seq (AC.reg [] [(I.mk (some 40) none false (X.v (A.load (Sh.ag [Sh.p]) (O.t 3)))), (I.mk none none false (X.store (Sh.ag [Sh.p]) (O.t 2) (O.t 40)))] []) AC.ret)
def A52_10 : AC := (AC.block 0 (AC.loop A52_1))
def A52_9 : AC := (AC.seq (AC.seq (AC.reg [] [(I.mk (some 10) none false (X.v (A.fld (O.t 1) 1 1))), (I.mk (some 11) none false (X.v (A.load Sh.p (O.t 10)))), (I.mk (some 12) none false (X.v (A.len (O.t 11)))), (I.mk (some 13) none false (X.v (A.mov (O.k (V.int IntKind.i64 (Int.ofNat 0))))))] []) A52_10) A52_7)
def A52_8 : AC := (AC.seq (AC.reg [.clr [8, 3]] [(I.mk (some 6) none false (X.v (A.fld (O.t 1) 0 0))), (I.mk (some 7) none false (X.v (A.load Sh.s (O.t 6)))), (I.mk (some 8) none false (X.mk (O.t 7) (V.int IntKind.i64 (Int.ofNat 0)))), (I.mk (some 9) none false (X.v (A.bld (V.agg [(V.sl Tok.nl Sh.s 0 [])]) [(0, 0, (O.t 8))]))), (I.mk (some 3) none false (X.alloc (V.agg [(V.sl Tok.nl Sh.s 0 [])]))), (I.mk none none false (X.store (Sh.ag [Sh.p]) (O.t 3) (O.t 9)))] []) A52_9)
def A52 : AC := (AC.seq (AC.reg [.clr [1, 2]] [(I.mk (some 1) none false (X.box (O.t 0))), (I.mk (some 2) none false (X.alloc (V.agg [(V.sl Tok.nl Sh.s 0 [])])))] []) A52_8)
def an52 : List An := [{ id := 0, pre := [.clr [1, 2]], ep := [], lin := [], sp := [] }, { id := 1, pre := [.clr [8, 3]], ep := [], lin := [], sp := [] }, { id := 4, pre := [.clr [5]], ep := [], lin := [], sp := [] }]
theorem c52 : cC Try.prog Try.f52.ntmps an52 (Try.f52.body.getD .skip) = some A52 := by kernel_rfl
structure H52 (D : Den) (σ : Sig) (F : Nat) : Prop where
  mk ::
abbrev R52 (r : (S1 (List Int))) : (Nat → V) → Prop := RR Try.prog [.cell 2 48] 0 false (Enc.enc (r : (S1 (List Int))))
section
variable {D : Den} {σ : Sig} {F : Nat} {r : (S1 (List Int))}
def i_netOf_l1 (F : Nat) (g_1 : (Int × (List (Int × Int))))  : Nat → (List Int) → Int → Option (S1 (List Int))
  | 0, _, _ => none
  | k + 1, w_10, t13_11 =>
    bif decide (t13_11 < (g_1.2.length : Int)) then
      (idx g_1.2 t13_11).bind fun e_19 =>
      (idx w_10 e_19.1).bind fun e_20 =>
      (shlI .i64 1 e_19.2).bind fun q_21 =>
      (idx w_10 e_19.1).bind fun e_22 =>
      (idx (w_10.set e_19.1.toNat (ior .i64 e_20 q_21)) e_19.2).bind fun e_23 =>
      (shlI .i64 1 e_19.1).bind fun q_24 =>
      (idx (w_10.set e_19.1.toNat (ior .i64 e_20 q_21)) e_19.2).bind fun e_25 =>
      (i_netOf_l1 F g_1 k) ((w_10.set e_19.1.toNat (ior .i64 e_20 q_21)).set e_19.2.toNat (ior .i64 e_23 q_24)) (w64 (t13_11 + 1))
    else
      some (S1.mk w_10)
theorem t_f52_l1 (H : H52 D σ F) (g_1 : (Int × (List (Int × Int))))  : ∀ (k : Nat) (w_10 : (List Int)) (t13_11 : Int) (s : Nat → V), Facts [(2, (.ref (.bx 2) 0 [] (.agg [(.sl .nl (Enc.shp Int) 0 [])]))), (3, (.ref (.bx 3) 0 [] (.agg [(encO (.at 8 []) (.of (w_10 : List Int)))]))), (11, (Enc.enc (g_1.2 : List (Int × Int)))), (12, (.int .i64 (g_1.2.length : Int))), (13, (.int .i64 t13_11))] s → i_netOf_l1 F g_1 k w_10 t13_11 = some r → Run D σ (R52 r) (.run A52_1 [.lp A52_1, .bk 0, .sq A52_7]) s := by
  intro k
  induction k with
  | zero => intro w_10 t13_11 s _ h; exact nomatch (h : (none : Option _) = some r)
  | succ k ih =>
    intro w_10 t13_11 s hs h
    rw [i_netOf_l1] at h
    obtain ⟨h2, h3, h11, h12, h13⟩ := hs
    refine .seq ?_
    refine run_reg ?_
    refine e_end ?_
    refine g_v2 (t1 := 13) (t2 := 12) (u1 := (.int .i64 t13_11)) (u2 := (.int .i64 (g_1.2.length : Int))) (.bool (decide (t13_11 < (g_1.2.length : Int)))) h13 h12 rfl rfl ?_
    refine g_end ?_
    refine e_end ?_
    refine renew [(2, (.ref (.bx 2) 0 [] (.agg [(.sl .nl (Enc.shp Int) 0 [])]))), (3, (.ref (.bx 3) 0 [] (.agg [(encO (.at 8 []) (.of (w_10 : List Int)))]))), (11, (Enc.enc (g_1.2 : List (Int × Int)))), (12, (.int .i64 (g_1.2.length : Int))), (13, (.int .i64 t13_11)), (14, (.bool (decide (t13_11 < (g_1.2.length : Int)))))] ⟨h2, h3, h11, h12, h13, rfl⟩ ?_
    rintro s ⟨h2, h3, h11, h12, h13, h14⟩
    refine .nsq ?_
    refine .seq ?_
    refine run_cond (t := decide (t13_11 < (g_1.2.length : Int))) h14 h (fun h => ?_) (fun h => ?_)
    · refine .skip ?_
      refine .nsq ?_
      refine .seq ?_
      refine .block ?_
      refine .seq ?_
      refine run_reg ?_
      refine e_clr ?_
      refine e_end ?_
      obtain ⟨e_19, E_e_19, h⟩ := bind_some h
      refine g_v (.ref .sh 0 [] (.agg [(.int .i64 e_19.1), (.int .i64 e_19.2)])) (ev_idx (t := .sh) (lo := 0) (xs := g_1.2) (keep_clear (s := s) (pk := [5]) h11 rfl (Enc.map_enc _ (g_1.2 : List (Int × Int)))) (keep_clear (s := s) (pk := [5]) h13 rfl rfl) E_e_19 rfl rfl) ?_
      refine g_v1 (t := 15) (u := (.ref .sh 0 [] (.agg [(.int .i64 e_19.1), (.int .i64 e_19.2)]))) (.agg [(.int .i64 e_19.1), (.int .i64 e_19.2)]) rfl rfl rfl ?_
      refine g_alloc (gone_clear (s := s) (pk := [5]) (t := 5) rfl) ?_
      refine g_store (.agg [(.int .i64 e_19.1), (.int .i64 e_19.2)]) (rd_of rfl rfl) (rd_of rfl rfl) (by refine ⟨by decide, by decide, rfl, rfl, rfl, ?_⟩; first | rfl | simp [V.toks, V.tokss, Enc.toks_enc]) ?_
      refine g_end ?_
      refine e_end ?_
      refine renew [(2, (.ref (.bx 2) 0 [] (.agg [(.sl .nl (Enc.shp Int) 0 [])]))), (3, (.ref (.bx 3) 0 [] (.agg [(encO (.at 8 []) (.of (w_10 : List Int)))]))), (5, (.ref (.bx 5) 0 [] (.agg [(.int .i64 e_19.1), (.int .i64 e_19.2)]))), (11, (Enc.enc (g_1.2 : List (Int × Int)))), (12, (.int .i64 (g_1.2.length : Int))), (13, (.int .i64 t13_11))] ⟨(keep_mut (keep_clear (s := s) (pk := [5]) h2 rfl (map_bx rfl (map_agg (maps_cons rfl maps_nil)))) (mut_ref_ne rfl rfl (mut_agg (muts_cons rfl rfl)))), (keep_mut (keep_clear (s := s) (pk := [5]) h3 rfl (map_bx rfl (map_agg (maps_cons (map_encO (r := 8) (p := []) rfl rfl) maps_nil)))) (mut_ref_ne rfl rfl (mut_agg (muts_cons (mut_own_ne rfl rfl) rfl)))), (keep_mut rfl rfl), (keep_mut (keep_clear (s := s) (pk := [5]) h11 rfl (Enc.map_enc _ (g_1.2 : List (Int × Int)))) (Enc.mut_enc _ _ _ _ (g_1.2 : List (Int × Int)))), (keep_mut (keep_clear (s := s) (pk := [5]) h12 rfl rfl) rfl), (keep_mut (keep_clear (s := s) (pk := [5]) h13 rfl rfl) rfl)⟩ ?_
      rintro s ⟨h2, h3, h5, h11, h12, h13⟩
      refine .nsq ?_
      refine .seq ?_
      refine run_reg ?_
      refine e_end ?_
      refine g_v1 (t := 3) (u := (.ref (.bx 3) 0 [] (.agg [(encO (.at 8 []) (.of (w_10 : List Int)))]))) (.ref (.bx 3) 0 [0] (encO (.at 8 []) (.of (w_10 : List Int)))) h3 rfl rfl ?_
      refine g_v1 (t := 17) (u := (.ref (.bx 3) 0 [0] (encO (.at 8 []) (.of (w_10 : List Int))))) (encO (.at 8 []) (.of (w_10 : List Int))) rfl rfl rfl ?_
      refine g_v1 (t := 5) (u := (.ref (.bx 5) 0 [] (.agg [(.int .i64 e_19.1), (.int .i64 e_19.2)]))) (.ref (.bx 5) 0 [0] (.int .i64 e_19.1)) h5 rfl rfl ?_
      refine g_v1 (t := 19) (u := (.ref (.bx 5) 0 [0] (.int .i64 e_19.1))) (.int .i64 e_19.1) rfl rfl rfl ?_
      obtain ⟨e_20, E_e_20, h⟩ := bind_some h
      refine g_v (.ref (.at 8 []) e_19.1.toNat [] (.int .i64 e_20)) (ev_idxO (o := (.of w_10)) rfl rfl E_e_20 rfl) ?_
      refine g_v1 (t := 21) (u := (.ref (.at 8 []) e_19.1.toNat [] (.int .i64 e_20))) (.int .i64 e_20) rfl rfl rfl ?_
      refine g_v1 (t := 5) (u := (.ref (.bx 5) 0 [] (.agg [(.int .i64 e_19.1), (.int .i64 e_19.2)]))) (.ref (.bx 5) 0 [1] (.int .i64 e_19.2)) h5 rfl rfl ?_
      refine g_v1 (t := 23) (u := (.ref (.bx 5) 0 [1] (.int .i64 e_19.2))) (.int .i64 e_19.2) rfl rfl rfl ?_
      obtain ⟨q_21, E_q_21, h⟩ := bind_some h
      refine g_v (.int .i64 q_21) (ev_shl rfl rfl E_q_21) ?_
      refine g_v2 (t1 := 22) (t2 := 25) (u1 := (.int .i64 e_20)) (u2 := (.int .i64 q_21)) (.int .i64 (ior .i64 e_20 q_21)) rfl rfl rfl rfl ?_
      obtain ⟨e_22, E_e_22, h⟩ := bind_some h
      refine g_v (.ref (.at 8 []) e_19.1.toNat [] (.int .i64 e_22)) (ev_idxO (o := (.of w_10)) rfl rfl E_e_22 rfl) ?_
      refine g_store (.int .i64 (ior .i64 e_20 q_21)) (rd_of rfl rfl) (rd_of rfl rfl) (by refine ⟨by decide, by decide, rfl, rfl, rfl, ?_⟩; first | rfl | simp [V.toks, V.tokss, Enc.toks_enc]) ?_
      refine g_end ?_
      refine e_end ?_
      refine renew [(2, (.ref (.bx 2) 0 [] (.agg [(.sl .nl (Enc.shp Int) 0 [])]))), (3, (.ref (.bx 3) 0 [] (.agg [(encO (.at 8 []) (.of (w_10.set e_19.1.toNat (ior .i64 e_20 q_21) : List Int)))]))), (5, (.ref (.bx 5) 0 [] (.agg [(.int .i64 e_19.1), (.int .i64 e_19.2)]))), (11, (Enc.enc (g_1.2 : List (Int × Int)))), (12, (.int .i64 (g_1.2.length : Int))), (13, (.int .i64 t13_11))] ⟨(keep_mut h2 (mut_ref_ne rfl rfl (mut_agg (muts_cons rfl rfl)))), (keep_mut h3 (mut_ref_ne rfl rfl (mut_agg (muts_cons mut_own rfl)))), (keep_mut h5 rfl), (keep_mut h11 (Enc.mut_enc _ _ _ _ (g_1.2 : List (Int × Int)))), (keep_mut h12 rfl), (keep_mut h13 rfl)⟩ ?_
      rintro s ⟨h2, h3, h5, h11, h12, h13⟩
      refine .nsq ?_
      refine run_reg ?_
      refine e_end ?_
      refine g_v1 (t := 3) (u := (.ref (.bx 3) 0 [] (.agg [(encO (.at 8 []) (.of (w_10.set e_19.1.toNat (ior .i64 e_20 q_21) : List Int)))]))) (.ref (.bx 3) 0 [0] (encO (.at 8 []) (.of (w_10.set e_19.1.toNat (ior .i64 e_20 q_21) : List Int)))) h3 rfl rfl ?_
      refine g_v1 (t := 28) (u := (.ref (.bx 3) 0 [0] (encO (.at 8 []) (.of (w_10.set e_19.1.toNat (ior .i64 e_20 q_21) : List Int))))) (encO (.at 8 []) (.of (w_10.set e_19.1.toNat (ior .i64 e_20 q_21) : List Int))) rfl rfl rfl ?_
      refine g_v1 (t := 5) (u := (.ref (.bx 5) 0 [] (.agg [(.int .i64 e_19.1), (.int .i64 e_19.2)]))) (.ref (.bx 5) 0 [1] (.int .i64 e_19.2)) h5 rfl rfl ?_
      refine g_v1 (t := 30) (u := (.ref (.bx 5) 0 [1] (.int .i64 e_19.2))) (.int .i64 e_19.2) rfl rfl rfl ?_
      obtain ⟨e_23, E_e_23, h⟩ := bind_some h
      refine g_v (.ref (.at 8 []) e_19.2.toNat [] (.int .i64 e_23)) (ev_idxO (o := (.of (w_10.set e_19.1.toNat (ior .i64 e_20 q_21)))) rfl rfl E_e_23 rfl) ?_
      refine g_v1 (t := 32) (u := (.ref (.at 8 []) e_19.2.toNat [] (.int .i64 e_23))) (.int .i64 e_23) rfl rfl rfl ?_
      refine g_v1 (t := 5) (u := (.ref (.bx 5) 0 [] (.agg [(.int .i64 e_19.1), (.int .i64 e_19.2)]))) (.ref (.bx 5) 0 [0] (.int .i64 e_19.1)) h5 rfl rfl ?_
      refine g_v1 (t := 34) (u := (.ref (.bx 5) 0 [0] (.int .i64 e_19.1))) (.int .i64 e_19.1) rfl rfl rfl ?_
      obtain ⟨q_24, E_q_24, h⟩ := bind_some h
      refine g_v (.int .i64 q_24) (ev_shl rfl rfl E_q_24) ?_
      refine g_v2 (t1 := 33) (t2 := 36) (u1 := (.int .i64 e_23)) (u2 := (.int .i64 q_24)) (.int .i64 (ior .i64 e_23 q_24)) rfl rfl rfl rfl ?_
      obtain ⟨e_25, E_e_25, h⟩ := bind_some h
      refine g_v (.ref (.at 8 []) e_19.2.toNat [] (.int .i64 e_25)) (ev_idxO (o := (.of (w_10.set e_19.1.toNat (ior .i64 e_20 q_21)))) rfl rfl E_e_25 rfl) ?_
      refine g_store (.int .i64 (ior .i64 e_23 q_24)) (rd_of rfl rfl) (rd_of rfl rfl) (by refine ⟨by decide, by decide, rfl, rfl, rfl, ?_⟩; first | rfl | simp [V.toks, V.tokss, Enc.toks_enc]) ?_
      refine g_end ?_
      refine e_end ?_
      refine renew [(2, (.ref (.bx 2) 0 [] (.agg [(.sl .nl (Enc.shp Int) 0 [])]))), (3, (.ref (.bx 3) 0 [] (.agg [(encO (.at 8 []) (.of ((w_10.set e_19.1.toNat (ior .i64 e_20 q_21)).set e_19.2.toNat (ior .i64 e_23 q_24) : List Int)))]))), (11, (Enc.enc (g_1.2 : List (Int × Int)))), (12, (.int .i64 (g_1.2.length : Int))), (13, (.int .i64 t13_11))] ⟨(keep_mut h2 (mut_ref_ne rfl rfl (mut_agg (muts_cons rfl rfl)))), (keep_mut h3 (mut_ref_ne rfl rfl (mut_agg (muts_cons mut_own rfl)))), (keep_mut h11 (Enc.mut_enc _ _ _ _ (g_1.2 : List (Int × Int)))), (keep_mut h12 rfl), (keep_mut h13 rfl)⟩ ?_
      rintro s ⟨h2, h3, h11, h12, h13⟩
      refine .nbk ?_
      refine .nsq ?_
      refine run_reg ?_
      refine e_end ?_
      refine g_v1 (t := 13) (u := (.int .i64 t13_11)) (.int .i64 (w64 (t13_11 + 1))) h13 rfl rfl ?_
      refine g_v1 (t := 39) (u := (.int .i64 (w64 (t13_11 + 1)))) (.int .i64 (w64 (t13_11 + 1))) rfl rfl rfl ?_
      refine g_end ?_
      refine e_end ?_
      refine renew [(2, (.ref (.bx 2) 0 [] (.agg [(.sl .nl (Enc.shp Int) 0 [])]))), (3, (.ref (.bx 3) 0 [] (.agg [(encO (.at 8 []) (.of ((w_10.set e_19.1.toNat (ior .i64 e_20 q_21)).set e_19.2.toNat (ior .i64 e_23 q_24) : List Int)))]))), (11, (Enc.enc (g_1.2 : List (Int × Int)))), (12, (.int .i64 (g_1.2.length : Int))), (13, (.int .i64 (w64 (t13_11 + 1))))] ⟨h2, h3, h11, h12, rfl⟩ ?_
      rintro s ⟨h2, h3, h11, h12, h13⟩
      refine .nlp ?_
      exact ih ((w_10.set e_19.1.toNat (ior .i64 e_20 q_21)).set e_19.2.toNat (ior .i64 e_23 q_24)) (w64 (t13_11 + 1)) _ ⟨h2, h3, h11, h12, h13⟩ h
    · refine .exit ?_
      refine .esq ?_
      refine .elp ?_
      refine .ebk ?_
      refine .nsq ?_
      refine .seq ?_
      refine run_reg ?_
      refine e_end ?_
      refine g_v1 (t := 3) (u := (.ref (.bx 3) 0 [] (.agg [(encO (.at 8 []) (.of (w_10 : List Int)))]))) (.agg [(encO (.at 8 []) (.of (w_10 : List Int)))]) h3 rfl rfl ?_
      refine g_store (.agg [(encO (.at 8 []) (.of (w_10 : List Int)))]) (rd_of h2 rfl) (rd_of rfl rfl) (by refine ⟨by decide, by decide, rfl, rfl, rfl, ?_⟩; first | rfl | simp [V.toks, V.tokss, Enc.toks_enc]) ?_
      refine g_end ?_
      refine e_end ?_
      refine renew [(2, (.ref (.bx 2) 0 [] (.agg [(encO (.at 8 []) (.of (w_10 : List Int)))])))] (keep_mut h2 rfl) ?_
      rintro s h2
      refine .nsq ?_
      refine .ret ?_
      have hr := Option.some.inj h
      subst hr
      exact rrA (res_cell h2 (by kernel_rfl)) (fin_retF (fin_agg (fins_cons (fin_own (o := .of w_10)) fins_nil)) (mine_agg (mines_cons (mine_own rfl) mines_nil)))
def i_netOf (F : Nat) (g_1 : (Int × (List (Int × Int)))) : Option (S1 (List Int)) :=
  (mkN g_1.1 (0 : Int)).bind fun mk_2 =>
  i_netOf_l1 F g_1 F mk_2 0
theorem t52 (H : H52 D σ F) (g_1 : (Int × (List (Int × Int)))) (s : Nat → V) (hs : Facts [(0, (.agg [(.int .i64 g_1.1), (Enc.enc (g_1.2 : List (Int × Int)))]))] s) (h : i_netOf F g_1 = some r) : Run D σ (R52 r) (.run A52 []) s := by
  unfold i_netOf at h
  have h0 := hs
  refine .seq ?_
  refine run_reg ?_
  refine e_clr ?_
  refine e_end ?_
  refine g_box (.agg [(.int .i64 g_1.1), (Enc.enc (g_1.2 : List (Int × Int)))]) (rd_of (keep_clear (s := s) (pk := [1, 2]) h0 rfl (map_agg (maps_cons rfl (maps_cons (Enc.map_enc _ (g_1.2 : List (Int × Int))) maps_nil)))) rfl) (gone_clear (s := s) (pk := [1, 2]) (t := 1) rfl) rfl ?_
  refine g_alloc (gone_clear (s := s) (pk := [1, 2]) (t := 2) rfl) ?_
  refine g_end ?_
  refine e_end ?_
  refine renew [(1, (.ref (.bx 1) 0 [] (.agg [(.int .i64 g_1.1), (Enc.enc (g_1.2 : List (Int × Int)))]))), (2, (.ref (.bx 2) 0 [] (.agg [(.sl .nl (Enc.shp Int) 0 [])])))] ⟨rfl, rfl⟩ ?_
  rintro s ⟨h1, h2⟩
  refine .nsq ?_
  refine .seq ?_
  refine run_reg ?_
  refine e_clr ?_
  refine e_end ?_
  refine g_v1 (t := 1) (u := (.ref (.bx 1) 0 [] (.agg [(.int .i64 g_1.1), (Enc.enc (g_1.2 : List (Int × Int)))]))) (.ref (.bx 1) 0 [0] (.int .i64 g_1.1)) (keep_clear (s := s) (pk := [8, 3]) h1 rfl (map_bx rfl (map_agg (maps_cons rfl (maps_cons (Enc.map_enc _ (g_1.2 : List (Int × Int))) maps_nil))))) rfl rfl ?_
  refine g_v1 (t := 6) (u := (.ref (.bx 1) 0 [0] (.int .i64 g_1.1))) (.int .i64 g_1.1) rfl rfl rfl ?_
  obtain ⟨mk_2, E_mk_2, h⟩ := bind_some h
  refine g_mk (0 : Int) rfl rfl (gone_clear (s := s) (pk := [8, 3]) (t := 8) rfl) E_mk_2 ?_
  refine g_v1 (t := 8) (u := (encO (.at 8 []) (.of (mk_2 : List Int)))) (.agg [(encO (.at 8 []) (.of (mk_2 : List Int)))]) rfl rfl rfl ?_
  refine g_alloc (gone_clear (s := s) (pk := [8, 3]) (t := 3) rfl) ?_
  refine g_store (.agg [(encO (.at 8 []) (.of (mk_2 : List Int)))]) (rd_of rfl rfl) (rd_of rfl rfl) (by refine ⟨by decide, by decide, rfl, rfl, rfl, ?_⟩; first | rfl | simp [V.toks, V.tokss, Enc.toks_enc]) ?_
  refine g_end ?_
  refine e_end ?_
  refine renew [(1, (.ref (.bx 1) 0 [] (.agg [(.int .i64 g_1.1), (Enc.enc (g_1.2 : List (Int × Int)))]))), (2, (.ref (.bx 2) 0 [] (.agg [(.sl .nl (Enc.shp Int) 0 [])]))), (3, (.ref (.bx 3) 0 [] (.agg [(encO (.at 8 []) (.of (mk_2 : List Int)))])))] ⟨(keep_mut (keep_clear (s := s) (pk := [8, 3]) h1 rfl (map_bx rfl (map_agg (maps_cons rfl (maps_cons (Enc.map_enc _ (g_1.2 : List (Int × Int))) maps_nil))))) (mut_ref_ne rfl rfl (mut_agg (muts_cons rfl (muts_cons (Enc.mut_enc _ _ _ _ (g_1.2 : List (Int × Int))) rfl))))), (keep_mut (keep_clear (s := s) (pk := [8, 3]) h2 rfl (map_bx rfl (map_agg (maps_cons rfl maps_nil)))) (mut_ref_ne rfl rfl (mut_agg (muts_cons rfl rfl)))), (keep_mut rfl rfl)⟩ ?_
  rintro s ⟨h1, h2, h3⟩
  refine .nsq ?_
  refine .seq ?_
  refine .seq ?_
  refine run_reg ?_
  refine e_end ?_
  refine g_v1 (t := 1) (u := (.ref (.bx 1) 0 [] (.agg [(.int .i64 g_1.1), (Enc.enc (g_1.2 : List (Int × Int)))]))) (.ref (.bx 1) 0 [1] (Enc.enc (g_1.2 : List (Int × Int)))) h1 rfl rfl ?_
  refine g_v1 (t := 10) (u := (.ref (.bx 1) 0 [1] (Enc.enc (g_1.2 : List (Int × Int))))) (Enc.enc (g_1.2 : List (Int × Int))) rfl rfl rfl ?_
  refine g_v (.int .i64 (g_1.2.length : Int)) (ev_len (xs := g_1.2) rfl) ?_
  refine g_v0 (.int .i64 0) rfl rfl ?_
  refine g_end ?_
  refine e_end ?_
  refine renew [(2, (.ref (.bx 2) 0 [] (.agg [(.sl .nl (Enc.shp Int) 0 [])]))), (3, (.ref (.bx 3) 0 [] (.agg [(encO (.at 8 []) (.of (mk_2 : List Int)))]))), (11, (Enc.enc (g_1.2 : List (Int × Int)))), (12, (.int .i64 (g_1.2.length : Int))), (13, (.int .i64 0))] ⟨h2, h3, rfl, rfl, rfl⟩ ?_
  rintro s ⟨h2, h3, h11, h12, h13⟩
  refine .nsq ?_
  refine .block ?_
  refine .loop ?_
  exact t_f52_l1 H g_1 F mk_2 0 _ ⟨h2, h3, h11, h12, h13⟩ h
end
def e52 (F : Nat) : Ent := ⟨52, da (fun (x : ((Int × (List (Int × Int))) × Unit)) => i_netOf F x.1) (fun (r : (S1 (List Int))) => (Enc.enc (r : (S1 (List Int))))), 0, false, selF []⟩
theorem p52 {F : Nat} {x0 : (Int × (List (Int × Int)))} {r : (S1 (List Int))} (h : i_netOf F x0 = some r) : (e52 F).den [Enc.enc x0] = some (Enc.enc (r : (S1 (List Int)))) := da_put (f := fun (x : ((Int × (List (Int × Int))) × Unit)) => i_netOf F x.1) (t := fun (r : (S1 (List Int))) => (Enc.enc (r : (S1 (List Int))))) (x0, ()) h
theorem o52 {D : Den} {σ : Sig} {F : Nat} (hF : Fits2 Try.prog D σ) (H : H52 D σ F) : (e52 F).Ok Try.prog := by
  refine ok_of (f := 52) (show unk 52 = 52 from rfl) (fun args r h => ?_) ⟨Try.f52, Try.func52, rfl, rfl⟩
  obtain ⟨⟨x0, _⟩, y, rfl, hy, rfl⟩ := da_open h
  exact contract_run hF (by kernel_rfl) Try.func52 rfl c52 (show 1 ≤ Try.f52.ntmps by decide) (t52 H x0 _ rfl hy)
/- slices.Clone[[]int,int] -/
shelf_lay Lays2.n15 Nm2 15 at Try as Lay102
structure H102 (D : Den) (σ : Sig) (F : Nat) : Prop where
  mk ::
def slices_Clone (F : Nat) (s_1 : (List Int)) : Option (List Int) :=
  cloneT s_1
def e102 (F : Nat) : Ent := ⟨102, da (fun (x : ((List Int) × Unit)) => slices_Clone F x.1) (fun (r : (List Int)) => (Enc.enc (r : (List Int)))), 0, false, selF []⟩
theorem p102 {F : Nat} {x0 : (List Int)} {r : (List Int)} (h : slices_Clone F x0 = some r) : (e102 F).den [Enc.enc x0] = some (Enc.enc (r : (List Int))) := da_put (f := fun (x : ((List Int) × Unit)) => slices_Clone F x.1) (t := fun (r : (List Int)) => (Enc.enc (r : (List Int)))) (x0, ()) h
theorem o102 {D : Den} {σ : Sig} {F : Nat} (hF : Fits2 Try.prog D σ) (H : H102 D σ F) : (e102 F).Ok Try.prog := by
  refine ok_of (f := 102) (show unk 102 = 102 from rfl) (fun args r h => ?_) ⟨Try.f102, Try.func102, rfl, rfl⟩
  obtain ⟨⟨x0, _⟩, y, rfl, hy, rfl⟩ := da_open h
  exact con_plain (f := 102) (clone_con Lay102 hy) rfl
/- loop.example/g01109/impl.maskOf -/
def A75_4 : AC := (AC.reg [] [(I.mk (some 12) none false (X.v (A.mov (O.t 3)))), (I.mk (some 13) none false (X.v (A.mov (O.t 5)))), (I.mk (some 14) none false (X.v (A.bin BinOp.shl (O.k (V.int IntKind.i64 (Int.ofNat 1))) (O.t 13)))), (I.mk (some 15) none false (X.v (A.bin BinOp.or (O.t 12) (O.t 14)))), (I.mk (some 3) none false (X.v (A.mov (O.t 15))))] [])
def A75_5 : AC := (AC.reg [] [(I.mk (some 16) none false (X.v (A.bin BinOp.add (O.t 8) (O.k (V.int IntKind.i64 (Int.ofNat 1)))))), (I.mk (some 8) none false (X.v (A.mov (O.t 16))))] [])
def A75_3 : AC := (AC.seq (AC.block 1 (AC.seq (AC.reg [] [(I.mk (some 10) none false (X.v (A.idx (O.t 6) (O.t 8) 1))), (I.mk (some 11) none false (X.v (A.load Sh.s (O.t 10)))), (I.mk (some 5) none false (X.v (A.mov (O.t 11))))] []) A75_4)) A75_5)
def A75_2 : AC := (AC.seq (AC.cond (O.t 9) AC.skip (AC.exit 0)) A75_3)
def A75_1 : AC := (AC.seq (AC.reg [] [(I.mk (some 9) none false (X.v (A.bin BinOp.lss (O.t 8) (O.t 7))))] []) A75_2)
def A75_6 : AC := (AC.seq (AC.reg [] [(I.mk (some 17) none false (X.v (A.mov (O.t 3)))), (I.mk (some 2) none false (X.v (A.mov (O.t 17))))] []) AC.ret)
def A75_9 : AC := (AC.block 0 (AC.loop A75_1))
def A75_8 : AC := (AC.seq (AC.seq (AC.reg [] [(I.mk (some 6) none false (X.v (A.mov (O.t 0)))), (I.mk (some 7) none false (X.v (A.len (O.t 6)))), (I.mk (some 8) none false (X.v (A.mov (O.k (V.int IntKind.i64 (Int.ofNat 0))))))] []) A75_9) A75_6)
def A75_7 : AC := (AC.seq (AC.reg [] [(I.mk (some 3) none false (X.v (A.mov (O.k (V.int IntKind.i64 (Int.ofNat 0))))))] []) A75_8)
def A75 : AC := (AC.seq (AC.reg [] [(I.mk (some 2) none false (X.v (A.mov (O.k (V.int IntKind.i64 (Int.ofNat 0))))))] []) A75_7)
def an75 : List An := []
theorem c75 : cC Try.prog Try.f75.ntmps an75 (Try.f75.body.getD .skip) = some A75 := by kernel_rfl
structure H75 (D : Den) (σ : Sig) (F : Nat) : Prop where
  mk ::
abbrev R75 (r : Int) : (Nat → V) → Prop := RR Try.prog [.tmp 2] 0 false (Enc.enc (r : Int))
section
variable {D : Den} {σ : Sig} {F : Nat} {r : Int}
def i_maskOf_l1 (F : Nat) (list_1 : (List Int))  : Nat → Int → Int → Option Int
  | 0, _, _ => none
  | k + 1, set_4, t8_5 =>
    bif decide (t8_5 < (list_1.length : Int)) then
      (idx list_1 t8_5).bind fun e_8 =>
      (shlI .i64 1 e_8).bind fun q_9 =>
      (i_maskOf_l1 F list_1 k) (ior .i64 set_4 q_9) (w64 (t8_5 + 1))
    else
      some set_4
theorem t_f75_l1 (H : H75 D σ F) (list_1 : (List Int))  : ∀ (k : Nat) (set_4 : Int) (t8_5 : Int) (s : Nat → V), Facts [(2, (.int .i64 0)), (3, (.int .i64 set_4)), (6, (Enc.enc (list_1 : List Int))), (7, (.int .i64 (list_1.length : Int))), (8, (.int .i64 t8_5))] s → i_maskOf_l1 F list_1 k set_4 t8_5 = some r → Run D σ (R75 r) (.run A75_1 [.lp A75_1, .bk 0, .sq A75_6]) s := by
  intro k
  induction k with
  | zero => intro set_4 t8_5 s _ h; exact nomatch (h : (none : Option _) = some r)
  | succ k ih =>
    intro set_4 t8_5 s hs h
    rw [i_maskOf_l1] at h
    obtain ⟨h2, h3, h6, h7, h8⟩ := hs
    refine .seq ?_
    refine run_reg ?_
    refine e_end ?_
    refine g_v2 (t1 := 8) (t2 := 7) (u1 := (.int .i64 t8_5)) (u2 := (.int .i64 (list_1.length : Int))) (.bool (decide (t8_5 < (list_1.length : Int)))) h8 h7 rfl rfl ?_
    refine g_end ?_
    refine e_end ?_
    refine renew [(2, (.int .i64 0)), (3, (.int .i64 set_4)), (6, (Enc.enc (list_1 : List Int))), (7, (.int .i64 (list_1.length : Int))), (8, (.int .i64 t8_5)), (9, (.bool (decide (t8_5 < (list_1.length : Int)))))] ⟨h2, h3, h6, h7, h8, rfl⟩ ?_
    rintro s ⟨h2, h3, h6, h7, h8, h9⟩
    refine .nsq ?_
    refine .seq ?_
    refine run_cond (t := decide (t8_5 < (list_1.length : Int))) h9 h (fun h => ?_) (fun h => ?_)
    · refine .skip ?_
      refine .nsq ?_
      refine .seq ?_
      refine .block ?_
      refine .seq ?_
      refine run_reg ?_
      refine e_end ?_
      obtain ⟨e_8, E_e_8, h⟩ := bind_some h
      refine g_v (.ref .sh 0 [] (.int .i64 e_8)) (ev_idx (t := .sh) (lo := 0) (xs := list_1) h6 h8 E_e_8 rfl rfl) ?_
      refine g_v1 (t := 10) (u := (.ref .sh 0 [] (.int .i64 e_8))) (.int .i64 e_8) rfl rfl rfl ?_
      refine g_v1 (t := 11) (u := (.int .i64 e_8)) (.int .i64 e_8) rfl rfl rfl ?_
      refine g_end ?_
      refine e_end ?_
      refine renew [(2, (.int .i64 0)), (3, (.int .i64 set_4)), (5, (.int .i64 e_8)), (6, (Enc.enc (list_1 : List Int))), (7, (.int .i64 (list_1.length : Int))), (8, (.int .i64 t8_5))] ⟨h2, h3, rfl, h6, h7, h8⟩ ?_
      rintro s ⟨h2, h3, h5, h6, h7, h8⟩
      refine .nsq ?_
      refine run_reg ?_
      refine e_end ?_
      refine g_v1 (t := 3) (u := (.int .i64 set_4)) (.int .i64 set_4) h3 rfl rfl ?_
      refine g_v1 (t := 5) (u := (.int .i64 e_8)) (.int .i64 e_8) h5 rfl rfl ?_
      obtain ⟨q_9, E_q_9, h⟩ := bind_some h
      refine g_v (.int .i64 q_9) (ev_shl rfl rfl E_q_9) ?_
      refine g_v2 (t1 := 12) (t2 := 14) (u1 := (.int .i64 set_4)) (u2 := (.int .i64 q_9)) (.int .i64 (ior .i64 set_4 q_9)) rfl rfl rfl rfl ?_
      refine g_v1 (t := 15) (u := (.int .i64 (ior .i64 set_4 q_9))) (.int .i64 (ior .i64 set_4 q_9)) rfl rfl rfl ?_
      refine g_end ?_
      refine e_end ?_
      refine renew [(2, (.int .i64 0)), (3, (.int .i64 (ior .i64 set_4 q_9))), (6, (Enc.enc (list_1 : List Int))), (7, (.int .i64 (list_1.length : Int))), (8, (.int .i64 t8_5))] ⟨h2, rfl, h6, h7, h8⟩ ?_
      rintro s ⟨h2, h3, h6, h7, h8⟩
      refine .nbk ?_
      refine .nsq ?_
      refine run_reg ?_
      refine e_end ?_
      refine g_v1 (t := 8) (u := (.int .i64 t8_5)) (.int .i64 (w64 (t8_5 + 1))) h8 rfl rfl ?_
      refine g_v1 (t := 16) (u := (.int .i64 (w64 (t8_5 + 1)))) (.int .i64 (w64 (t8_5 + 1))) rfl rfl rfl ?_
      refine g_end ?_
      refine e_end ?_
      refine renew [(2, (.int .i64 0)), (3, (.int .i64 (ior .i64 set_4 q_9))), (6, (Enc.enc (list_1 : List Int))), (7, (.int .i64 (list_1.length : Int))), (8, (.int .i64 (w64 (t8_5 + 1))))] ⟨h2, h3, h6, h7, rfl⟩ ?_
      rintro s ⟨h2, h3, h6, h7, h8⟩
      refine .nlp ?_
      exact ih (ior .i64 set_4 q_9) (w64 (t8_5 + 1)) _ ⟨h2, h3, h6, h7, h8⟩ h
    · refine .exit ?_
      refine .esq ?_
      refine .elp ?_
      refine .ebk ?_
      refine .nsq ?_
      refine .seq ?_
      refine run_reg ?_
      refine e_end ?_
      refine g_v1 (t := 3) (u := (.int .i64 set_4)) (.int .i64 set_4) h3 rfl rfl ?_
      refine g_v1 (t := 17) (u := (.int .i64 set_4)) (.int .i64 set_4) rfl rfl rfl ?_
      refine g_end ?_
      refine e_end ?_
      refine renew [(2, (.int .i64 set_4))] rfl ?_
      rintro s h2
      refine .nsq ?_
      refine .ret ?_
      have hr := Option.some.inj h
      subst hr
      exact rrA (res_tmp h2) rfl
def i_maskOf (F : Nat) (list_1 : (List Int)) : Option Int :=
  i_maskOf_l1 F list_1 F 0 0
theorem t75 (H : H75 D σ F) (list_1 : (List Int)) (s : Nat → V) (hs : Facts [(0, (Enc.enc (list_1 : List Int)))] s) (h : i_maskOf F list_1 = some r) : Run D σ (R75 r) (.run A75 []) s := by
  unfold i_maskOf at h
  have h0 := hs
  refine .seq ?_
  refine run_reg ?_
  refine e_end ?_
  refine g_v0 (.int .i64 0) rfl rfl ?_
  refine g_end ?_
  refine e_end ?_
  refine renew [(0, (Enc.enc (list_1 : List Int))), (2, (.int .i64 0))] ⟨h0, rfl⟩ ?_
  rintro s ⟨h0, h2⟩
  refine .nsq ?_
  refine .seq ?_
  refine run_reg ?_
  refine e_end ?_
  refine g_v0 (.int .i64 0) rfl rfl ?_
  refine g_end ?_
  refine e_end ?_
  refine renew [(0, (Enc.enc (list_1 : List Int))), (2, (.int .i64 0)), (3, (.int .i64 0))] ⟨h0, h2, rfl⟩ ?_
  rintro s ⟨h0, h2, h3⟩
  refine .nsq ?_
  refine .seq ?_
  refine .seq ?_
  refine run_reg ?_
  refine e_end ?_
  refine g_v1 (t := 0) (u := (Enc.enc (list_1 : List Int))) (Enc.enc (list_1 : List Int)) h0 rfl rfl ?_
  refine g_v (.int .i64 (list_1.length : Int)) (ev_len (xs := list_1) rfl) ?_
  refine g_v0 (.int .i64 0) rfl rfl ?_
  refine g_end ?_
  refine e_end ?_
  refine renew [(2, (.int .i64 0)), (3, (.int .i64 0)), (6, (Enc.enc (list_1 : List Int))), (7, (.int .i64 (list_1.length : Int))), (8, (.int .i64 0))] ⟨h2, h3, rfl, rfl, rfl⟩ ?_
  rintro s ⟨h2, h3, h6, h7, h8⟩
  refine .nsq ?_
  refine .block ?_
  refine .loop ?_
  exact t_f75_l1 H list_1 F 0 0 _ ⟨h2, h3, h6, h7, h8⟩ h
end
def e75 (F : Nat) : Ent := ⟨75, da (fun (x : ((List Int) × Unit)) => i_maskOf F x.1) (fun (r : Int) => (Enc.enc (r : Int))), 0, false, selF []⟩
theorem p75 {F : Nat} {x0 : (List Int)} {r : Int} (h : i_maskOf F x0 = some r) : (e75 F).den [Enc.enc x0] = some (Enc.enc (r : Int)) := da_put (f := fun (x : ((List Int) × Unit)) => i_maskOf F x.1) (t := fun (r : Int) => (Enc.enc (r : Int))) (x0, ()) h
theorem o75 {D : Den} {σ : Sig} {F : Nat} (hF : Fits2 Try.prog D σ) (H : H75 D σ F) : (e75 F).Ok Try.prog := by
  refine ok_of (f := 75) (show unk 75 = 75 from rfl) (fun args r h => ?_) ⟨Try.f75, Try.func75, rfl, rfl⟩
  obtain ⟨⟨x0, _⟩, y, rfl, hy, rfl⟩ := da_open h
  exact contract_run hF (by kernel_rfl) Try.func75 rfl c75 (show 1 ≤ Try.f75.ntmps by decide) (t75 H x0 _ rfl hy)
/- loop.example/g01109/impl.setOf -/
def A60_2 : AC := (AC.cond (O.t 8) AC.skip (AC.exit 0))
def A60_4 : AC := (AC.cond (O.t 15) (AC.reg [.clr [18, 19]] [(I.mk (some 16) none false (X.v (A.mov (O.t 3)))), (I.mk (some 17) none false (X.v (A.mov (O.t 4)))), (I.mk (some 18) none false (X.lit (V.int IntKind.i64 (Int.ofNat 0)) 1 [(0, 0, (O.t 17))])), (I.mk (some 19) none false (X.app Sh.s (O.t 16) (O.t 18))), (I.mk (some 3) none false (X.v (A.mov (O.t 19))))] [.home 19 3]) AC.skip)
def A60_5 : AC := (AC.reg [] [(I.mk (some 9) none false (X.v (A.mov (O.t 4)))), (I.mk (some 10) none false (X.v (A.bin BinOp.add (O.t 9) (O.k (V.int IntKind.i64 (Int.ofNat 1)))))), (I.mk (some 4) none false (X.v (A.mov (O.t 10))))] [])
def A60_3 : AC := (AC.seq (AC.block 1 (AC.seq (AC.reg [] [(I.mk (some 11) none false (X.v (A.mov (O.t 0)))), (I.mk (some 12) none false (X.v (A.mov (O.t 4)))), (I.mk (some 13) none false (X.v (A.bin BinOp.shr (O.t 11) (O.t 12)))), (I.mk (some 14) none false (X.v (A.bin BinOp.and (O.t 13) (O.k (V.int IntKind.i64 (Int.ofNat 1)))))), (I.mk (some 15) none false (X.v (A.bin BinOp.eql (O.t 14) (O.k (V.int IntKind.i64 (Int.ofNat 1))))))] []) A60_4)) A60_5)
def A60_1 : AC := (AC.seq (AC.seq (AC.reg [] [(I.mk (some 5) none false (X.v (A.mov (O.t 0)))), (I.mk (some 6) none false (X.v (A.mov (O.t 4)))), (I.mk (some 7) none false (X.v (A.bin BinOp.shr (O.t 5) (O.t 6)))), (I.mk (some 8) none false (X.v (A.bin BinOp.neq (O.t 7) (O.k (V.int IntKind.i64 (Int.ofNat 0))))))] []) A60_2) A60_3)
def A60_6 : AC := (AC.seq (AC.reg [] [(I.mk (some 20) none false (X.v (A.mov (O.t 3)))), (I.mk (some 2) none false (X.v (A.mov (O.t 20))))] [.home 3 2]) AC.ret)
def A60_9 : AC := (AC.block 0 (AC.loop A60_1))
def A60_8 : AC := (AC.seq (AC.seq (AC.reg [] [(I.mk (some 4) none false (X.v (A.mov (O.k (V.int IntKind.i64 (Int.ofNat 0))))))] []) A60_9) A60_6)
def A60_7 : AC := (AC.seq (AC.reg [] [(I.mk (some 3) none false (X.v (A.mov (O.k (V.sl Tok.nl Sh.s 0 [])))))] []) A60_8)
def A60 : AC := (AC.seq (AC.reg [] [(I.mk (some 2) none false (X.v (A.mov (O.k (V.sl Tok.nl Sh.s 0 [])))))] []) A60_7)
def an60 : List An := [{ id := 6, pre := [.clr [18, 19]], ep := [.home 19 3], lin := [], sp := [] }, { id := 7, pre := [], ep := [.home 3 2], lin := [], sp := [] }]
theorem c60 : cC Try.prog Try.f60.ntmps an60 (Try.f60.body.getD .skip) = some A60 := by kernel_rfl
structure H60 (D : Den) (σ : Sig) (F : Nat) : Prop where
  mk ::
abbrev R60 (r : (List Int)) : (Nat → V) → Prop := RR Try.prog [.tmp 2] 0 false (Enc.enc (r : (List Int)))
section
variable {D : Den} {σ : Sig} {F : Nat} {r : (List Int)}
def i_setOf_j1 (F : Nat) (set_1 : Int) (x_8 : Int) (c1 : (NL Int) → Int → Option (List Int)) (list_17 : (NL Int)) : Option (List Int) :=
  c1 list_17 (w64 (x_8 + 1))
theorem t_f60_j1 (H : H60 D σ F) (set_1 : Int) (x_8 : Int) (c1 : (NL Int) → Int → Option (List Int)) (Hc1 : ∀ (list_7 : (NL Int)) (x_8 : Int) (s : Nat → V), Facts [(0, (.int .i64 set_1)), (2, (.sl .nl (Enc.shp Int) 0 [])), (3, (encO (.at 3 []) (list_7 : NL Int))), (4, (.int .i64 x_8))] s → c1 list_7 x_8 = some r → Run D σ (R60 r) (.run A60_1 [.lp A60_1, .bk 0, .sq A60_6]) s) (list_17 : (NL Int)) (s : Nat → V) (hs : Facts [(0, (.int .i64 set_1)), (2, (.sl .nl (Enc.shp Int) 0 [])), (3, (encO (.at 3 []) (list_17 : NL Int))), (4, (.int .i64 x_8))] s) (h : i_setOf_j1 F set_1 x_8 c1 list_17 = some r) : Run D σ (R60 r) (.nrm [.bk 1, .sq A60_5, .lp A60_1, .bk 0, .sq A60_6]) s := by
  unfold i_setOf_j1 at h
  obtain ⟨h0, h2, h3, h4⟩ := hs
  refine .nbk ?_
  refine .nsq ?_
  refine run_reg ?_
  refine e_end ?_
  refine g_v1 (t := 4) (u := (.int .i64 x_8)) (.int .i64 x_8) h4 rfl rfl ?_
  refine g_v1 (t := 9) (u := (.int .i64 x_8)) (.int .i64 (w64 (x_8 + 1))) rfl rfl rfl ?_
  refine g_v1 (t := 10) (u := (.int .i64 (w64 (x_8 + 1)))) (.int .i64 (w64 (x_8 + 1))) rfl rfl rfl ?_
  refine g_end ?_
  refine e_end ?_
  refine renew [(0, (.int .i64 set_1)), (2, (.sl .nl (Enc.shp Int) 0 [])), (3, (encO (.at 3 []) (list_17 : NL Int))), (4, (.int .i64 (w64 (x_8 + 1))))] ⟨h0, h2, h3, rfl⟩ ?_
  rintro s ⟨h0, h2, h3, h4⟩
  refine .nlp ?_
  exact Hc1 list_17 (w64 (x_8 + 1)) _ ⟨h0, h2, h3, h4⟩ h
def i_setOf_l1 (F : Nat) (set_1 : Int)  : Nat → (NL Int) → Int → Option (List Int)
  | 0, _, _ => none
  | k + 1, list_7, x_8 =>
    (shrI .i64 set_1 x_8).bind fun q_14 =>
    bif (q_14 != 0) then
      (shrI .i64 set_1 x_8).bind fun q_15 =>
      bif ((iand .i64 q_15 1) == 1) then
        (appL list_7.list [x_8]).bind fun ap_18 =>
        i_setOf_j1 F set_1 x_8 (i_setOf_l1 F set_1 k) (.of ap_18)
      else
        i_setOf_j1 F set_1 x_8 (i_setOf_l1 F set_1 k) list_7
    else
      some list_7.list
theorem t_f60_l1 (H : H60 D σ F) (set_1 : Int)  : ∀ (k : Nat) (list_7 : (NL Int)) (x_8 : Int) (s : Nat → V), Facts [(0, (.int .i64 set_1)), (2, (.sl .nl (Enc.shp Int) 0 [])), (3, (encO (.at 3 []) (list_7 : NL Int))), (4, (.int .i64 x_8))] s → i_setOf_l1 F set_1 k list_7 x_8 = some r → Run D σ (R60 r) (.run A60_1 [.lp A60_1, .bk 0, .sq A60_6]) s := by
  intro k
  induction k with
  | zero => intro list_7 x_8 s _ h; exact nomatch (h : (none : Option _) = some r)
  | succ k ih =>
    intro list_7 x_8 s hs h
    rw [i_setOf_l1] at h
    obtain ⟨h0, h2, h3, h4⟩ := hs
    refine .seq ?_
    refine .seq ?_
    refine run_reg ?_
    refine e_end ?_
    refine g_v1 (t := 0) (u := (.int .i64 set_1)) (.int .i64 set_1) h0 rfl rfl ?_
    refine g_v1 (t := 4) (u := (.int .i64 x_8)) (.int .i64 x_8) h4 rfl rfl ?_
    obtain ⟨q_14, E_q_14, h⟩ := bind_some h
    refine g_v (.int .i64 q_14) (ev_shr rfl rfl E_q_14) ?_
    refine g_v1 (t := 7) (u := (.int .i64 q_14)) (.bool (q_14 != 0)) rfl rfl rfl ?_
    refine g_end ?_
    refine e_end ?_
    refine renew [(0, (.int .i64 set_1)), (2, (.sl .nl (Enc.shp Int) 0 [])), (3, (encO (.at 3 []) (list_7 : NL Int))), (4, (.int .i64 x_8)), (8, (.bool (q_14 != 0)))] ⟨h0, h2, h3, h4, rfl⟩ ?_
    rintro s ⟨h0, h2, h3, h4, h8⟩
    refine .nsq ?_
    refine run_cond (t := (q_14 != 0)) h8 h (fun h => ?_) (fun h => ?_)
    · refine .skip ?_
      refine .nsq ?_
      refine .seq ?_
      refine .block ?_
      refine .seq ?_
      refine run_reg ?_
      refine e_end ?_
      refine g_v1 (t := 0) (u := (.int .i64 set_1)) (.int .i64 set_1) h0 rfl rfl ?_
      refine g_v1 (t := 4) (u := (.int .i64 x_8)) (.int .i64 x_8) h4 rfl rfl ?_
      obtain ⟨q_15, E_q_15, h⟩ := bind_some h
      refine g_v (.int .i64 q_15) (ev_shr rfl rfl E_q_15) ?_
      refine g_v1 (t := 13) (u := (.int .i64 q_15)) (.int .i64 (iand .i64 q_15 1)) rfl rfl rfl ?_
      refine g_v1 (t := 14) (u := (.int .i64 (iand .i64 q_15 1))) (.bool ((iand .i64 q_15 1) == 1)) rfl rfl rfl ?_
      refine g_end ?_
      refine e_end ?_
      refine renew [(0, (.int .i64 set_1)), (2, (.sl .nl (Enc.shp Int) 0 [])), (3, (encO (.at 3 []) (list_7 : NL Int))), (4, (.int .i64 x_8)), (15, (.bool ((iand .i64 q_15 1) == 1)))] ⟨h0, h2, h3, h4, rfl⟩ ?_
      rintro s ⟨h0, h2, h3, h4, h15⟩
      refine .nsq ?_
      refine run_cond (t := ((iand .i64 q_15 1) == 1)) h15 h (fun h => ?_) (fun h => ?_)
      · refine run_reg ?_
        refine e_clr ?_
        refine e_end ?_
        refine g_v (encO (.at 3 []) (list_7 : NL Int)) (ev_mov (keep_clear (s := s) (pk := [18, 19]) h3 rfl (map_encO (r := 3) (p := []) rfl rfl)) ok_encO) ?_
        refine g_v1 (t := 4) (u := (.int .i64 x_8)) (.int .i64 x_8) (keep_clear (s := s) (pk := [18, 19]) h4 rfl rfl) rfl rfl ?_
        refine g_litL [(17, (.int .i64 x_8))] [Enc.enc (x_8 : Int)] rfl rfl rfl (gone_clear (s := s) (pk := [18, 19]) (t := 18) rfl) ?_
        obtain ⟨ap_18, E_ap_18, h⟩ := bind_some h
        refine g_app (q := 3) (p := []) (o := (list_7 : NL Int)) (ys := ([x_8] : List Int)) (t2 := (.at 18 [])) (lo2 := 0) rfl rfl rfl (gone_clear (s := s) (pk := [18, 19]) (t := 19) rfl) (appN_L (o := (list_7 : NL Int)) E_ap_18 (by split <;> simp)) (fun s_17 ha_17 => ?_)
        refine g_v1 (t := 19) (u := (encO (.at 19 []) (.of (ap_18 : List Int)))) (encO (.at 19 []) (.of (ap_18 : List Int))) rfl rfl rfl ?_
        refine g_end ?_
        refine e_home (r := 19) (x := 3) (v := (encO (.at 19 []) (.of (ap_18 : List Int)))) (by exact rfl) rfl (fun s_18 hg_18 => ?_)
        refine e_end ?_
        refine renew [(0, (.int .i64 set_1)), (2, (.sl .nl (Enc.shp Int) 0 [])), (3, (encO (.at 3 []) (.of (ap_18 : List Int)))), (4, (.int .i64 x_8))] ⟨(hg_18 0 (.int .i64 set_1) (.int .i64 set_1) (show s_17 0 = (.int .i64 set_1) from keep_app ha_17 (keep_clear (s := s) (pk := [18, 19]) h0 rfl rfl) rfl) rfl), (hg_18 2 (.sl .nl (Enc.shp Int) 0 []) (.sl .nl (Enc.shp Int) 0 []) (show s_17 2 = (.sl .nl (Enc.shp Int) 0 []) from keep_app ha_17 (keep_clear (s := s) (pk := [18, 19]) h2 rfl rfl) rfl) rfl), (hg_18 3 (encO (.at 19 []) (.of (ap_18 : List Int))) (encO (.at 3 []) (.of (ap_18 : List Int))) rfl (map_encO (r := 19) (p := []) rfl rfl)), (hg_18 4 (.int .i64 x_8) (.int .i64 x_8) (show s_17 4 = (.int .i64 x_8) from keep_app ha_17 (keep_clear (s := s) (pk := [18, 19]) h4 rfl rfl) rfl) rfl)⟩ ?_
        rintro s ⟨h0, h2, h3, h4⟩
        exact t_f60_j1 H set_1 x_8 (i_setOf_l1 F set_1 k) ih (.of ap_18) _ ⟨h0, h2, h3, h4⟩ h
      · refine .skip ?_
        exact t_f60_j1 H set_1 x_8 (i_setOf_l1 F set_1 k) ih list_7 _ ⟨h0, h2, h3, h4⟩ h
    · refine .exit ?_
      refine .esq ?_
      refine .elp ?_
      refine .ebk ?_
      refine .nsq ?_
      refine .seq ?_
      refine run_reg ?_
      refine e_end ?_
      refine g_v (encO (.at 3 []) (list_7 : NL Int)) (ev_mov h3 ok_encO) ?_
      refine g_v (encO (.at 3 []) (list_7 : NL Int)) (ev_mov rfl ok_encO) ?_
      refine g_end ?_
      refine e_home (r := 3) (x := 2) (v := (encO (.at 3 []) (list_7 : NL Int))) (by exact rfl) ok_encO (fun s_19 hg_19 => ?_)
      refine e_end ?_
      refine renew [(2, (encO (.at 2 []) (list_7 : NL Int)))] (hg_19 2 (encO (.at 3 []) (list_7 : NL Int)) (encO (.at 2 []) (list_7 : NL Int)) rfl (map_encO (r := 3) (p := []) rfl rfl)) ?_
      rintro s h2
      refine .nsq ?_
      refine .ret ?_
      have hr := Option.some.inj h
      subst hr
      exact rrA (res_tmp h2) (fin_retF (fin_own (o := list_7)) (mine_own rfl))
def i_setOf (F : Nat) (set_1 : Int) : Option (List Int) :=
  i_setOf_l1 F set_1 F .nil 0
theorem t60 (H : H60 D σ F) (set_1 : Int) (s : Nat → V) (hs : Facts [(0, (.int .i64 set_1))] s) (h : i_setOf F set_1 = some r) : Run D σ (R60 r) (.run A60 []) s := by
  unfold i_setOf at h
  have h0 := hs
  refine .seq ?_
  refine run_reg ?_
  refine e_end ?_
  refine g_v0 (.sl .nl (Enc.shp Int) 0 []) rfl rfl ?_
  refine g_end ?_
  refine e_end ?_
  refine renew [(0, (.int .i64 set_1)), (2, (.sl .nl (Enc.shp Int) 0 []))] ⟨h0, rfl⟩ ?_
  rintro s ⟨h0, h2⟩
  refine .nsq ?_
  refine .seq ?_
  refine run_reg ?_
  refine e_end ?_
  refine g_v0 (.sl .nl (Enc.shp Int) 0 []) rfl rfl ?_
  refine g_end ?_
  refine e_end ?_
  refine renew [(0, (.int .i64 set_1)), (2, (.sl .nl (Enc.shp Int) 0 [])), (3, (.sl .nl (Enc.shp Int) 0 []))] ⟨h0, h2, rfl⟩ ?_
  rintro s ⟨h0, h2, h3⟩
  refine .nsq ?_
  refine .seq ?_
  refine .seq ?_
  refine run_reg ?_
  refine e_end ?_
  refine g_v0 (.int .i64 0) rfl rfl ?_
  refine g_end ?_
  refine e_end ?_
  refine renew [(0, (.int .i64 set_1)), (2, (.sl .nl (Enc.shp Int) 0 [])), (3, (.sl .nl (Enc.shp Int) 0 [])), (4, (.int .i64 0))] ⟨h0, h2, h3, rfl⟩ ?_
  rintro s ⟨h0, h2, h3, h4⟩
  refine .nsq ?_
  refine .block ?_
  refine .loop ?_
  exact t_f60_l1 H set_1 F .nil 0 _ ⟨h0, h2, h3, h4⟩ h
end
def e60 (F : Nat) : Ent := ⟨60, da (fun (x : (Int × Unit)) => i_setOf F x.1) (fun (r : (List Int)) => (Enc.enc (r : (List Int)))), 0, false, selF []⟩
theorem p60 {F : Nat} {x0 : Int} {r : (List Int)} (h : i_setOf F x0 = some r) : (e60 F).den [Enc.enc x0] = some (Enc.enc (r : (List Int))) := da_put (f := fun (x : (Int × Unit)) => i_setOf F x.1) (t := fun (r : (List Int)) => (Enc.enc (r : (List Int)))) (x0, ()) h
theorem o60 {D : Den} {σ : Sig} {F : Nat} (hF : Fits2 Try.prog D σ) (H : H60 D σ F) : (e60 F).Ok Try.prog := by
  refine ok_of (f := 60) (show unk 60 = 60 from rfl) (fun args r h => ?_) ⟨Try.f60, Try.func60, rfl, rfl⟩
  obtain ⟨⟨x0, _⟩, y, rfl, hy, rfl⟩ := da_open h
  exact contract_run hF (by kernel_rfl) Try.func60 rfl c60 (show 1 ≤ Try.f60.ntmps by decide) (t60 H x0 _ rfl hy)
/- slices.Clone[[]int,int] -/
shelf_lay Lays2.n15 Nm2 15 at Try as Lay102o
structure H102o (D : Den) (σ : Sig) (F : Nat) : Prop where
  mk ::
def slices_Clone_o (F : Nat) (s_1 : (List Int)) : Option (NL Int) :=
  cloneO s_1
def e102o (F : Nat) : Ent := ⟨1000000102, da (fun (x : ((List Int) × Unit)) => slices_Clone_o F x.1) (fun (r : (NL Int)) => (encO .sh (r : NL Int))), 1, false, selF []⟩
theorem p102o {F : Nat} {x0 : (List Int)} {r : (NL Int)} (h : slices_Clone_o F x0 = some r) : (e102o F).den [Enc.enc x0] = some (encO .sh (r : NL Int)) := da_put (f := fun (x : ((List Int) × Unit)) => slices_Clone_o F x.1) (t := fun (r : (NL Int)) => (encO .sh (r : NL Int))) (x0, ()) h
theorem o102o {D : Den} {σ : Sig} {F : Nat} (hF : Fits2 Try.prog D σ) (H : H102o D σ F) : (e102o F).Ok Try.prog := by
  refine ok_of (f := 102) (show unk 1000000102 = 102 from rfl) (fun args r h => ?_) ⟨Try.f102, Try.func102, rfl, rfl⟩
  obtain ⟨⟨x0, _⟩, y, rfl, hy, rfl⟩ := da_open h
  exact con_plain (f := 102) (clone_conO Lay102o hy) rfl
/- (loop.example/g01109/impl.net).longerPath -/
def A53_4 : AC := (AC.reg [.clr [37, 39, 40]] [(I.mk (some 35) none false (X.v (A.load (Sh.ag [Sh.p]) (O.t 3)))), (I.mk (some 36) none false (X.v (A.mov (O.t 1)))), (I.mk (some 37) none true (X.callO (O.k (V.fn 102 [] [])) [(O.t 36)])), (I.mk (some 38) none false (X.v (A.mov (O.t 8)))), (I.mk (some 39) none false (X.lit (V.int IntKind.i64 (Int.ofNat 0)) 1 [(0, 0, (O.t 38))])), (I.mk (some 40) none true (X.appS Sh.s (O.t 37) (O.t 39))), (I.mk (some 41) none false (X.v (A.mov (O.t 2)))), (I.mk (some 42) none false (X.call (O.k (V.fn 53 [] [])) [(O.t 35), (O.t 40), (O.t 41)])), (I.mk (some 2) none false (X.v (A.mov (O.t 42))))] [])
def A53_5 : AC := (AC.reg [] [(I.mk (some 43) none false (X.v (A.bin BinOp.add (O.t 31) (O.k (V.int IntKind.i64 (Int.ofNat 1)))))), (I.mk (some 31) none false (X.v (A.mov (O.t 43))))] [])
def A53_3 : AC := (AC.seq (AC.block 1 (AC.seq (AC.reg [] [(I.mk (some 33) none false (X.v (A.idx (O.t 29) (O.t 31) 1))), (I.mk (some 34) none false (X.v (A.load Sh.s (O.t 33)))), (I.mk (some 8) none false (X.v (A.mov (O.t 34))))] []) A53_4)) A53_5)
def A53_2 : AC := (AC.seq (AC.cond (O.t 32) AC.skip (AC.exit 0)) A53_3)
def A53_1 : AC := (AC.seq (AC.reg [] [(I.mk (some 32) none false (X.v (A.bin BinOp.lss (O.t 31) (O.t 30))))] []) A53_2)
def A53_6 : AC := (AC.seq (AC.reg [] [(I.mk (some 44) none false (X.v (A.mov (O.t 2)))), (I.mk (some 6) none false (X.v (A.mov (O.t 44))))] []) AC.ret)
def A53_8 : AC := (AC.block 0 (AC.loop A53_1))
def A53_7 : AC := (AC.seq (AC.seq (AC.reg [] [(I.mk (some 16) none false (X.v (A.fld (O.t 3) 0 0))), (I.mk (some 17) none false (X.v (A.load Sh.p (O.t 16)))), (I.mk (some 18) none false (X.v (A.mov (O.t 1)))), (I.mk (some 19) none false (X.v (A.mov (O.t 1)))), (I.mk (some 20) none false (X.v (A.len (O.t 19)))), (I.mk (some 21) none false (X.v (A.bin BinOp.sub (O.t 20) (O.k (V.int IntKind.i64 (Int.ofNat 1)))))), (I.mk (some 22) none false (X.v (A.idx (O.t 18) (O.t 21) 1))), (I.mk (some 23) none false (X.v (A.load Sh.s (O.t 22)))), (I.mk (some 24) none false (X.v (A.idx (O.t 17) (O.t 23) 1))), (I.mk (some 25) none false (X.v (A.load Sh.s (O.t 24)))), (I.mk (some 26) none false (X.v (A.mov (O.t 1)))), (I.mk (some 27) none false (X.call (O.k (V.fn 75 [] [])) [(O.t 26)])), (I.mk (some 28) none false (X.v (A.bin BinOp.andNot (O.t 25) (O.t 27)))), (I.mk (some 29) none false (X.call (O.k (V.fn 60 [] [])) [(O.t 28)])), (I.mk (some 30) none false (X.v (A.len (O.t 29)))), (I.mk (some 31) none false (X.v (A.mov (O.k (V.int IntKind.i64 (Int.ofNat 0))))))] []) A53_8) A53_6)
def A53_10 : AC := (AC.cond (O.t 13) (AC.reg [] [(I.mk (some 14) none false (X.v (A.mov (O.t 1)))), (I.mk (some 15) none false (X.call (O.k (V.fn 102 [] [])) [(O.t 14)])), (I.mk (some 2) none false (X.v (A.mov (O.t 15))))] []) AC.skip)
def A53_9 : AC := (AC.seq (AC.seq (AC.reg [] [(I.mk (some 9) none false (X.v (A.mov (O.t 1)))), (I.mk (some 10) none false (X.v (A.len (O.t 9)))), (I.mk (some 11) none false (X.v (A.mov (O.t 2)))), (I.mk (some 12) none false (X.v (A.len (O.t 11)))), (I.mk (some 13) none false (X.v (A.bin BinOp.gtr (O.t 10) (O.t 12))))] []) A53_10) A53_7)
def A53 : AC := (AC.seq (AC.reg [.clr [3]] [(I.mk (some 3) none false (X.box (O.t 0))), (I.mk (some 6) none false (X.v (A.mov (O.k (V.sl Tok.nl Sh.s 0 [])))))] []) A53_9)
def an53 : List An := [{ id := 0, pre := [.clr [3]], ep := [], lin := [], sp := [] }, { id := 6, pre := [.clr [37, 39, 40]], ep := [], lin := [2, 5], sp := [5, 1002] }]
theorem c53 : cC Try.prog Try.f53.ntmps an53 (Try.f53.body.getD .skip) = some A53 := by kernel_rfl
structure H53 (D : Den) (σ : Sig) (F : Nat) (rc : (S1 (List Int)) → (List Int) → (List Int) → Option (List Int)) : Prop where
  c102 : ∀ (x0 : (List Int)) r, slices_Clone F x0 = some r → D 102 [Enc.enc x0] = some (Enc.enc (r : (List Int)))
  g102 : σ 102 = some (0, false)
  c75 : ∀ (x0 : (List Int)) r, i_maskOf F x0 = some r → D 75 [Enc.enc x0] = some (Enc.enc (r : Int))
  g75 : σ 75 = some (0, false)
  c60 : ∀ (x0 : Int) r, i_setOf F x0 = some r → D 60 [Enc.enc x0] = some (Enc.enc (r : (List Int)))
  g60 : σ 60 = some (0, false)
  c102o : ∀ (x0 : (List Int)) r, slices_Clone_o F x0 = some r → D 1000000102 [Enc.enc x0] = some (encO .sh (r : NL Int))
  g102o : σ 1000000102 = some (1, false)
  c53 : ∀ (x0 : (S1 (List Int))) (x1 : (List Int)) (x2 : (List Int)) r, rc x0 x1 x2 = some r → D 53 [Enc.enc x0, Enc.enc x1, Enc.enc x2] = some (Enc.enc (r : (List Int)))
  g53 : σ 53 = some (0, true)
abbrev R53 (r : (List Int)) : (Nat → V) → Prop := RR Try.prog [.tmp 6] 0 true (Enc.enc (r : (List Int)))
section
variable {D : Den} {σ : Sig} {F : Nat} {rc : (S1 (List Int)) → (List Int) → (List Int) → Option (List Int)} {r : (List Int)}
def i_net_longerPath_l1 (F : Nat) (rc : (S1 (List Int)) → (List Int) → (List Int) → Option (List Int)) (path_2 : (List Int)) (w_1 : (S1 (List Int))) (r_9 : (List Int))  : Nat → (List Int) → Int → Option (List Int)
  | 0, _, _ => none
  | k + 1, best_14, t31_15 =>
    bif decide (t31_15 < (r_9.length : Int)) then
      (idx r_9 t31_15).bind fun e_20 =>
      (slices_Clone_o F path_2).bind fun r_21 =>
      (appL r_21.list [e_20]).bind fun ap_22 =>
      (rc w_1 ap_22 best_14).bind fun r_23 =>
      (i_net_longerPath_l1 F rc path_2 w_1 r_9 k) r_23 (w64 (t31_15 + 1))
    else
      some best_14
theorem t_f53_l1 (H : H53 D σ F rc) (path_2 : (List Int)) (w_1 : (S1 (List Int))) (r_9 : (List Int))  : ∀ (k : Nat) (best_14 : (List Int)) (t31_15 : Int) (s : Nat → V), Facts [(1, (Enc.enc (path_2 : List Int))), (2, (Enc.enc (best_14 : List Int))), (3, (.ref (.bx 3) 0 [] (.agg [(Enc.enc (w_1.a : List Int))]))), (6, (.sl .nl (Enc.shp Int) 0 [])), (29, (Enc.enc (r_9 : List Int))), (30, (.int .i64 (r_9.length : Int))), (31, (.int .i64 t31_15))] s → i_net_longerPath_l1 F rc path_2 w_1 r_9 k best_14 t31_15 = some r → Run D σ (R53 r) (.run A53_1 [.lp A53_1, .bk 0, .sq A53_6]) s := by
  intro k
  induction k with
  | zero => intro best_14 t31_15 s _ h; exact nomatch (h : (none : Option _) = some r)
  | succ k ih =>
    intro best_14 t31_15 s hs h
    rw [i_net_longerPath_l1] at h
    obtain ⟨h1, h2, h3, h6, h29, h30, h31⟩ := hs
    refine .seq ?_
    refine run_reg ?_
    refine e_end ?_
    refine g_v2 (t1 := 31) (t2 := 30) (u1 := (.int .i64 t31_15)) (u2 := (.int .i64 (r_9.length : Int))) (.bool (decide (t31_15 < (r_9.length : Int)))) h31 h30 rfl rfl ?_
    refine g_end ?_
    refine e_end ?_
    refine renew [(1, (Enc.enc (path_2 : List Int))), (2, (Enc.enc (best_14 : List Int))), (3, (.ref (.bx 3) 0 [] (.agg [(Enc.enc (w_1.a : List Int))]))), (6, (.sl .nl (Enc.shp Int) 0 [])), (29, (Enc.enc (r_9 : List Int))), (30, (.int .i64 (r_9.length : Int))), (31, (.int .i64 t31_15)), (32, (.bool (decide (t31_15 < (r_9.length : Int)))))] ⟨h1, h2, h3, h6, h29, h30, h31, rfl⟩ ?_
    rintro s ⟨h1, h2, h3, h6, h29, h30, h31, h32⟩
    refine .nsq ?_
    refine .seq ?_
    refine run_cond (t := decide (t31_15 < (r_9.length : Int))) h32 h (fun h => ?_) (fun h => ?_)
    · refine .skip ?_
      refine .nsq ?_
      refine .seq ?_
      refine .block ?_
      refine .seq ?_
      refine run_reg ?_
      refine e_end ?_
      obtain ⟨e_20, E_e_20, h⟩ := bind_some h
      refine g_v (.ref .sh 0 [] (.int .i64 e_20)) (ev_idx (t := .sh) (lo := 0) (xs := r_9) h29 h31 E_e_20 rfl rfl) ?_
      refine g_v1 (t := 33) (u := (.ref .sh 0 [] (.int .i64 e_20))) (.int .i64 e_20) rfl rfl rfl ?_
      refine g_v1 (t := 34) (u := (.int .i64 e_20)) (.int .i64 e_20) rfl rfl rfl ?_
      refine g_end ?_
      refine e_end ?_
      refine renew [(1, (Enc.enc (path_2 : List Int))), (2, (Enc.enc (best_14 : List Int))), (3, (.ref (.bx 3) 0 [] (.agg [(Enc.enc (w_1.a : List Int))]))), (6, (.sl .nl (Enc.shp Int) 0 [])), (8, (.int .i64 e_20)), (29, (Enc.enc (r_9 : List Int))), (30, (.int .i64 (r_9.length : Int))), (31, (.int .i64 t31_15))] ⟨h1, h2, h3, h6, rfl, h29, h30, h31⟩ ?_
      rintro s ⟨h1, h2, h3, h6, h8, h29, h30, h31⟩
      refine .nsq ?_
      refine run_reg ?_
      refine e_clr ?_
      refine e_end ?_
      refine g_v1 (t := 3) (u := (.ref (.bx 3) 0 [] (.agg [(Enc.enc (w_1.a : List Int))]))) (.agg [(Enc.enc (w_1.a : List Int))]) (keep_clear (s := s) (pk := [37, 39, 40]) h3 rfl (map_bx rfl (map_agg (maps_cons (Enc.map_enc _ (w_1.a : List Int)) maps_nil)))) rfl rfl ?_
      refine g_v1 (t := 1) (u := (Enc.enc (path_2 : List Int))) (Enc.enc (path_2 : List Int)) (keep_clear (s := s) (pk := [37, 39, 40]) h1 rfl (Enc.map_enc _ (path_2 : List Int))) rfl rfl ?_
      obtain ⟨r_21, E_r_21, h⟩ := bind_some h
      refine g_callOl (m := 1) (al := false) (r := (encO .sh (r_21 : NL Int))) (o := (r_21 : NL Int)) (kk := 1000000102) [Enc.enc (path_2 : (List Int))] (ta_cons (v := (Enc.enc (path_2 : List Int))) rfl rfl (Enc.erase_enc (path_2 : (List Int))) ta_nil) (H.c102o _ _ E_r_21) H.g102o rfl toks_encS tag_encO (gone_clear (s := s) (pk := [37, 39, 40]) (t := 37) rfl) ?_
      refine g_v1 (t := 8) (u := (.int .i64 e_20)) (.int .i64 e_20) (keep_clear (s := s) (pk := [37, 39, 40]) h8 rfl rfl) rfl rfl ?_
      refine g_litL [(38, (.int .i64 e_20))] [Enc.enc (e_20 : Int)] rfl rfl rfl (gone_clear (s := s) (pk := [37, 39, 40]) (t := 39) rfl) ?_
      obtain ⟨ap_22, E_ap_22, h⟩ := bind_some h
      refine g_appSO (o := (r_21 : NL Int)) (ys := ([e_20] : List Int)) (t2 := (.at 39 [])) (lo2 := 0) rfl rfl rfl (gone_clear (s := s) (pk := [37, 39, 40]) (t := 40) rfl) (by simp) E_ap_22 (fun s_7 hl_7 => ?_)
      refine g_v1 (t := 2) (u := (Enc.enc (best_14 : List Int))) (Enc.enc (best_14 : List Int)) (show s_7 2 = (Enc.enc (best_14 : List Int)) from (hl_7 2 (by decide)).trans (keep_clear (s := s) (pk := [37, 39, 40]) h2 rfl (Enc.map_enc _ (best_14 : List Int)))) rfl rfl ?_
      obtain ⟨r_23, E_r_23, h⟩ := bind_some h
      refine g_callS (rl := 40) (m := 0) (al := true) (r := (Enc.enc (r_23 : (List Int)))) [Enc.enc (w_1 : (S1 (List Int))), Enc.enc (ap_22 : (List Int)), Enc.enc (best_14 : (List Int))] (by exact (ta_cons (v := (.agg [(Enc.enc (w_1.a : List Int))])) (show s_7 35 = (.agg [(Enc.enc (w_1.a : List Int))]) from (hl_7 35 (by decide)).trans rfl) rfl (Enc.erase_enc (w_1 : (S1 (List Int)))) (ta_lin (r := 40) (v := (encO (.at 40 []) (.of (ap_22 : List Int)))) rfl (erase_encO (o := .of ap_22)) (ta_cons (v := (Enc.enc (best_14 : List Int))) rfl rfl (Enc.erase_enc (best_14 : (List Int))) ta_nil)))) (H.c53 _ _ _ _ E_r_23) H.g53 (by exact (hal_of (ht_cons (v := (.agg [(Enc.enc (w_1.a : List Int))])) (show s_7 35 = (.agg [(Enc.enc (w_1.a : List Int))]) from (hl_7 35 (by decide)).trans rfl) rfl rfl (ht_lin (r := 40) (o := (.of ap_22 : NL Int)) rfl (ht_cons (v := (Enc.enc (best_14 : List Int))) rfl rfl rfl ht_nil))))) rfl rfl rfl ?_
      refine g_v1 (t := 42) (u := (Enc.enc (r_23 : List Int))) (Enc.enc (r_23 : List Int)) rfl rfl rfl ?_
      refine g_end ?_
      refine e_end ?_
      refine renew [(1, (Enc.enc (path_2 : List Int))), (2, (Enc.enc (r_23 : List Int))), (3, (.ref (.bx 3) 0 [] (.agg [(Enc.enc (w_1.a : List Int))]))), (6, (.sl .nl (Enc.shp Int) 0 [])), (29, (Enc.enc (r_9 : List Int))), (30, (.int .i64 (r_9.length : Int))), (31, (.int .i64 t31_15))] ⟨(show s_7 1 = (Enc.enc (path_2 : List Int)) from (hl_7 1 (by decide)).trans (keep_clear (s := s) (pk := [37, 39, 40]) h1 rfl (Enc.map_enc _ (path_2 : List Int)))), rfl, (show s_7 3 = (.ref (.bx 3) 0 [] (.agg [(Enc.enc (w_1.a : List Int))])) from (hl_7 3 (by decide)).trans (keep_clear (s := s) (pk := [37, 39, 40]) h3 rfl (map_bx rfl (map_agg (maps_cons (Enc.map_enc _ (w_1.a : List Int)) maps_nil))))), (show s_7 6 = (.sl .nl (Enc.shp Int) 0 []) from (hl_7 6 (by decide)).trans (keep_clear (s := s) (pk := [37, 39, 40]) h6 rfl rfl)), (show s_7 29 = (Enc.enc (r_9 : List Int)) from (hl_7 29 (by decide)).trans (keep_clear (s := s) (pk := [37, 39, 40]) h29 rfl (Enc.map_enc _ (r_9 : List Int)))), (show s_7 30 = (.int .i64 (r_9.length : Int)) from (hl_7 30 (by decide)).trans (keep_clear (s := s) (pk := [37, 39, 40]) h30 rfl rfl)), (show s_7 31 = (.int .i64 t31_15) from (hl_7 31 (by decide)).trans (keep_clear (s := s) (pk := [37, 39, 40]) h31 rfl rfl))⟩ ?_
      rintro s ⟨h1, h2, h3, h6, h29, h30, h31⟩
      refine .nbk ?_
      refine .nsq ?_
      refine run_reg ?_
      refine e_end ?_
      refine g_v1 (t := 31) (u := (.int .i64 t31_15)) (.int .i64 (w64 (t31_15 + 1))) h31 rfl rfl ?_
      refine g_v1 (t := 43) (u := (.int .i64 (w64 (t31_15 + 1)))) (.int .i64 (w64 (t31_15 + 1))) rfl rfl rfl ?_
      refine g_end ?_
      refine e_end ?_
      refine renew [(1, (Enc.enc (path_2 : List Int))), (2, (Enc.enc (r_23 : List Int))), (3, (.ref (.bx 3) 0 [] (.agg [(Enc.enc (w_1.a : List Int))]))), (6, (.sl .nl (Enc.shp Int) 0 [])), (29, (Enc.enc (r_9 : List Int))), (30, (.int .i64 (r_9.length : Int))), (31, (.int .i64 (w64 (t31_15 + 1))))] ⟨h1, h2, h3, h6, h29, h30, rfl⟩ ?_
      rintro s ⟨h1, h2, h3, h6, h29, h30, h31⟩
      refine .nlp ?_
      exact ih r_23 (w64 (t31_15 + 1)) _ ⟨h1, h2, h3, h6, h29, h30, h31⟩ h
    · refine .exit ?_
      refine .esq ?_
      refine .elp ?_
      refine .ebk ?_
      refine .nsq ?_
      refine .seq ?_
      refine run_reg ?_
      refine e_end ?_
      refine g_v1 (t := 2) (u := (Enc.enc (best_14 : List Int))) (Enc.enc (best_14 : List Int)) h2 rfl rfl ?_
      refine g_v1 (t := 44) (u := (Enc.enc (best_14 : List Int))) (Enc.enc (best_14 : List Int)) rfl rfl rfl ?_
      refine g_end ?_
      refine e_end ?_
      refine renew [(6, (Enc.enc (best_14 : List Int)))] rfl ?_
      rintro s h6
      refine .nsq ?_
      refine .ret ?_
      have hr := Option.some.inj h
      subst hr
      exact rrA (res_tmp h6) (fin_ret1 (fin_enc (x := (best_14 : (List Int)))))
def i_net_longerPath_j1 (F : Nat) (rc : (S1 (List Int)) → (List Int) → (List Int) → Option (List Int)) (path_2 : (List Int)) (w_1 : (S1 (List Int)))  (best_5 : (List Int)) : Option (List Int) :=
  (idx path_2 (w64 ((path_2.length : Int) - 1))).bind fun e_6 =>
  (idx w_1.a e_6).bind fun e_7 =>
  (i_maskOf F path_2).bind fun r_8 =>
  (i_setOf F (iandNot .i64 e_7 r_8)).bind fun r_9 =>
  i_net_longerPath_l1 F rc path_2 w_1 r_9 F best_5 0
theorem t_f53_j1 (H : H53 D σ F rc) (path_2 : (List Int)) (w_1 : (S1 (List Int)))  (best_5 : (List Int)) (s : Nat → V) (hs : Facts [(1, (Enc.enc (path_2 : List Int))), (2, (Enc.enc (best_5 : List Int))), (3, (.ref (.bx 3) 0 [] (.agg [(Enc.enc (w_1.a : List Int))]))), (6, (.sl .nl (Enc.shp Int) 0 []))] s) (h : i_net_longerPath_j1 F rc path_2 w_1  best_5 = some r) : Run D σ (R53 r) (.nrm [.sq A53_7]) s := by
  unfold i_net_longerPath_j1 at h
  obtain ⟨h1, h2, h3, h6⟩ := hs
  refine .nsq ?_
  refine .seq ?_
  refine .seq ?_
  refine run_reg ?_
  refine e_end ?_
  refine g_v1 (t := 3) (u := (.ref (.bx 3) 0 [] (.agg [(Enc.enc (w_1.a : List Int))]))) (.ref (.bx 3) 0 [0] (Enc.enc (w_1.a : List Int))) h3 rfl rfl ?_
  refine g_v1 (t := 16) (u := (.ref (.bx 3) 0 [0] (Enc.enc (w_1.a : List Int)))) (Enc.enc (w_1.a : List Int)) rfl rfl rfl ?_
  refine g_v1 (t := 1) (u := (Enc.enc (path_2 : List Int))) (Enc.enc (path_2 : List Int)) h1 rfl rfl ?_
  refine g_v1 (t := 1) (u := (Enc.enc (path_2 : List Int))) (Enc.enc (path_2 : List Int)) h1 rfl rfl ?_
  refine g_v (.int .i64 (path_2.length : Int)) (ev_len (xs := path_2) rfl) ?_
  refine g_v1 (t := 20) (u := (.int .i64 (path_2.length : Int))) (.int .i64 (w64 ((path_2.length : Int) - 1))) rfl rfl rfl ?_
  obtain ⟨e_6, E_e_6, h⟩ := bind_some h
  refine g_v (.ref .sh 0 [] (.int .i64 e_6)) (ev_idx (t := .sh) (lo := 0) (xs := path_2) rfl rfl E_e_6 rfl rfl) ?_
  refine g_v1 (t := 22) (u := (.ref .sh 0 [] (.int .i64 e_6))) (.int .i64 e_6) rfl rfl rfl ?_
  obtain ⟨e_7, E_e_7, h⟩ := bind_some h
  refine g_v (.ref .sh 0 [] (.int .i64 e_7)) (ev_idx (t := .sh) (lo := 0) (xs := w_1.a) rfl rfl E_e_7 rfl rfl) ?_
  refine g_v1 (t := 24) (u := (.ref .sh 0 [] (.int .i64 e_7))) (.int .i64 e_7) rfl rfl rfl ?_
  refine g_v1 (t := 1) (u := (Enc.enc (path_2 : List Int))) (Enc.enc (path_2 : List Int)) h1 rfl rfl ?_
  obtain ⟨r_8, E_r_8, h⟩ := bind_some h
  refine g_call (m := 0) (al := false) (r := (Enc.enc (r_8 : Int))) [Enc.enc (path_2 : (List Int))] (ta_cons (v := (Enc.enc (path_2 : List Int))) rfl rfl (Enc.erase_enc (path_2 : (List Int))) ta_nil) (H.c75 _ _ E_r_8) H.g75 rfl rfl rfl rfl ?_
  refine g_v2 (t1 := 25) (t2 := 27) (u1 := (.int .i64 e_7)) (u2 := (.int .i64 r_8)) (.int .i64 (iandNot .i64 e_7 r_8)) rfl rfl rfl rfl ?_
  obtain ⟨r_9, E_r_9, h⟩ := bind_some h
  refine g_call (m := 0) (al := false) (r := (Enc.enc (r_9 : (List Int)))) [Enc.enc (iandNot .i64 e_7 r_8 : Int)] (ta_cons (v := (.int .i64 (iandNot .i64 e_7 r_8))) rfl rfl rfl ta_nil) (H.c60 _ _ E_r_9) H.g60 rfl rfl rfl rfl ?_
  refine g_v (.int .i64 (r_9.length : Int)) (ev_len (xs := r_9) rfl) ?_
  refine g_v0 (.int .i64 0) rfl rfl ?_
  refine g_end ?_
  refine e_end ?_
  refine renew [(1, (Enc.enc (path_2 : List Int))), (2, (Enc.enc (best_5 : List Int))), (3, (.ref (.bx 3) 0 [] (.agg [(Enc.enc (w_1.a : List Int))]))), (6, (.sl .nl (Enc.shp Int) 0 [])), (29, (Enc.enc (r_9 : List Int))), (30, (.int .i64 (r_9.length : Int))), (31, (.int .i64 0))] ⟨h1, h2, h3, h6, rfl, rfl, rfl⟩ ?_
  rintro s ⟨h1, h2, h3, h6, h29, h30, h31⟩
  refine .nsq ?_
  refine .block ?_
  refine .loop ?_
  exact t_f53_l1 H path_2 w_1 r_9 F best_5 0 _ ⟨h1, h2, h3, h6, h29, h30, h31⟩ h
def i_net_longerPath_b (F : Nat) (rc : (S1 (List Int)) → (List Int) → (List Int) → Option (List Int)) (w_1 : (S1 (List Int))) (path_2 : (List Int)) (best_3 : (List Int)) : Option (List Int) :=
  bif decide ((path_2.length : Int) > (best_3.length : Int)) then
    (slices_Clone F path_2).bind fun r_24 =>
    i_net_longerPath_j1 F rc path_2 w_1 r_24
  else
    i_net_longerPath_j1 F rc path_2 w_1 best_3
theorem t53 (H : H53 D σ F rc) (w_1 : (S1 (List Int))) (path_2 : (List Int)) (best_3 : (List Int)) (s : Nat → V) (hs : Facts [(0, (.agg [(Enc.enc (w_1.a : List Int))])), (1, (Enc.enc (path_2 : List Int))), (2, (Enc.enc (best_3 : List Int)))] s) (h : i_net_longerPath_b F rc w_1 path_2 best_3 = some r) : Run D σ (R53 r) (.run A53 []) s := by
  unfold i_net_longerPath_b at h
  obtain ⟨h0, h1, h2⟩ := hs
  refine .seq ?_
  refine run_reg ?_
  refine e_clr ?_
  refine e_end ?_
  refine g_box (.agg [(Enc.enc (w_1.a : List Int))]) (rd_of (keep_clear (s := s) (pk := [3]) h0 rfl (map_agg (maps_cons (Enc.map_enc _ (w_1.a : List Int)) maps_nil))) rfl) (gone_clear (s := s) (pk := [3]) (t := 3) rfl) rfl ?_
  refine g_v0 (.sl .nl (Enc.shp Int) 0 []) rfl rfl ?_
  refine g_end ?_
  refine e_end ?_
  refine renew [(1, (Enc.enc (path_2 : List Int))), (2, (Enc.enc (best_3 : List Int))), (3, (.ref (.bx 3) 0 [] (.agg [(Enc.enc (w_1.a : List Int))]))), (6, (.sl .nl (Enc.shp Int) 0 []))] ⟨(keep_clear (s := s) (pk := [3]) h1 rfl (Enc.map_enc _ (path_2 : List Int))), (keep_clear (s := s) (pk := [3]) h2 rfl (Enc.map_enc _ (best_3 : List Int))), rfl, rfl⟩ ?_
  rintro s ⟨h1, h2, h3, h6⟩
  refine .nsq ?_
  refine .seq ?_
  refine .seq ?_
  refine run_reg ?_
  refine e_end ?_
  refine g_v1 (t := 1) (u := (Enc.enc (path_2 : List Int))) (Enc.enc (path_2 : List Int)) h1 rfl rfl ?_
  refine g_v (.int .i64 (path_2.length : Int)) (ev_len (xs := path_2) rfl) ?_
  refine g_v1 (t := 2) (u := (Enc.enc (best_3 : List Int))) (Enc.enc (best_3 : List Int)) h2 rfl rfl ?_
  refine g_v (.int .i64 (best_3.length : Int)) (ev_len (xs := best_3) rfl) ?_
  refine g_v2 (t1 := 10) (t2 := 12) (u1 := (.int .i64 (path_2.length : Int))) (u2 := (.int .i64 (best_3.length : Int))) (.bool (decide ((path_2.length : Int) > (best_3.length : Int)))) rfl rfl rfl rfl ?_
  refine g_end ?_
  refine e_end ?_
  refine renew [(1, (Enc.enc (path_2 : List Int))), (2, (Enc.enc (best_3 : List Int))), (3, (.ref (.bx 3) 0 [] (.agg [(Enc.enc (w_1.a : List Int))]))), (6, (.sl .nl (Enc.shp Int) 0 [])), (13, (.bool (decide ((path_2.length : Int) > (best_3.length : Int)))))] ⟨h1, h2, h3, h6, rfl⟩ ?_
  rintro s ⟨h1, h2, h3, h6, h13⟩
  refine .nsq ?_
  refine run_cond (t := decide ((path_2.length : Int) > (best_3.length : Int))) h13 h (fun h => ?_) (fun h => ?_)
  · refine run_reg ?_
    refine e_end ?_
    refine g_v1 (t := 1) (u := (Enc.enc (path_2 : List Int))) (Enc.enc (path_2 : List Int)) h1 rfl rfl ?_
    obtain ⟨r_24, E_r_24, h⟩ := bind_some h
    refine g_call (m := 0) (al := false) (r := (Enc.enc (r_24 : (List Int)))) [Enc.enc (path_2 : (List Int))] (ta_cons (v := (Enc.enc (path_2 : List Int))) rfl rfl (Enc.erase_enc (path_2 : (List Int))) ta_nil) (H.c102 _ _ E_r_24) H.g102 rfl rfl rfl rfl ?_
    refine g_v1 (t := 15) (u := (Enc.enc (r_24 : List Int))) (Enc.enc (r_24 : List Int)) rfl rfl rfl ?_
    refine g_end ?_
    refine e_end ?_
    refine renew [(1, (Enc.enc (path_2 : List Int))), (2, (Enc.enc (r_24 : List Int))), (3, (.ref (.bx 3) 0 [] (.agg [(Enc.enc (w_1.a : List Int))]))), (6, (.sl .nl (Enc.shp Int) 0 []))] ⟨h1, rfl, h3, h6⟩ ?_
    rintro s ⟨h1, h2, h3, h6⟩
    exact t_f53_j1 H path_2 w_1 r_24 _ ⟨h1, h2, h3, h6⟩ h
  · refine .skip ?_
    exact t_f53_j1 H path_2 w_1 best_3 _ ⟨h1, h2, h3, h6⟩ h
end
def i_net_longerPath_r (F : Nat) : Nat → (S1 (List Int)) → (List Int) → (List Int) → Option (List Int)
  | 0, _, _, _ => none
  | k + 1, x0, x1, x2 => i_net_longerPath_b F (i_net_longerPath_r F k) x0 x1 x2
def i_net_longerPath (F : Nat) (x0 : (S1 (List Int))) (x1 : (List Int)) (x2 : (List Int)) : Option (List Int) := i_net_longerPath_r F F x0 x1 x2
def e53 (F : Nat) (k : Nat) : Ent := ⟨53, da (fun (x : ((S1 (List Int)) × (List Int) × (List Int) × Unit)) => i_net_longerPath_r F k x.1 x.2.1 x.2.2.1) (fun (r : (List Int)) => (Enc.enc (r : (List Int)))), 0, true, selF []⟩
theorem p53 {F : Nat} {k : Nat} {x0 : (S1 (List Int))} {x1 : (List Int)} {x2 : (List Int)} {r : (List Int)} (h : i_net_longerPath_r F k x0 x1 x2 = some r) : (e53 F k).den [Enc.enc x0, Enc.enc x1, Enc.enc x2] = some (Enc.enc (r : (List Int))) := da_put (f := fun (x : ((S1 (List Int)) × (List Int) × (List Int) × Unit)) => i_net_longerPath_r F k x.1 x.2.1 x.2.2.1) (t := fun (r : (List Int)) => (Enc.enc (r : (List Int)))) (x0, x1, x2, ()) h
theorem z53 {F : Nat} : (e53 F 0).Ok Try.prog := by
  refine ok_of (f := 53) (show unk 53 = 53 from rfl) (fun args r h => ?_) ⟨Try.f53, Try.func53, rfl, rfl⟩
  obtain ⟨⟨x0, x1, x2, _⟩, y, rfl, hy, rfl⟩ := da_open h
  cases hy
theorem o53 {D : Den} {σ : Sig} {F k : Nat} (hF : Fits2 Try.prog D σ) (H : H53 D σ F (i_net_longerPath_r F k)) : (e53 F (k + 1)).Ok Try.prog := by
  refine ok_of (f := 53) (show unk 53 = 53 from rfl) (fun args r h => ?_) ⟨Try.f53, Try.func53, rfl, rfl⟩
  obtain ⟨⟨x0, x1, x2, _⟩, y, rfl, hy, rfl⟩ := da_open h
  exact contract_run hF (by kernel_rfl) Try.func53 rfl c53 (show 3 ≤ Try.f53.ntmps by decide) (t53 H x0 x1 x2 _ ⟨rfl, rfl, rfl⟩ hy)
/- (loop.example/g01109/impl.net).longerPath -/
def A53o_4 : AC := (AC.reg [.clr [37, 39, 40, 42]] [(I.mk (some 35) none false (X.v (A.load (Sh.ag [Sh.p]) (O.t 3)))), (I.mk (some 36) none false (X.v (A.mov (O.t 1)))), (I.mk (some 37) none true (X.callO (O.k (V.fn 102 [] [])) [(O.t 36)])), (I.mk (some 38) none false (X.v (A.mov (O.t 8)))), (I.mk (some 39) none false (X.lit (V.int IntKind.i64 (Int.ofNat 0)) 1 [(0, 0, (O.t 38))])), (I.mk (some 40) none false (X.appS Sh.s (O.t 37) (O.t 39))), (I.mk (some 41) none false (X.v (A.mov (O.t 2)))), (I.mk (some 42) none false (X.callG (O.k (V.fn 53 [] [])) 2 [(O.t 35), (O.t 40), (O.t 41)])), (I.mk (some 2) none false (X.v (A.mov (O.t 42))))] [.home 42 2])
def A53o_5 : AC := (AC.reg [] [(I.mk (some 43) none false (X.v (A.bin BinOp.add (O.t 31) (O.k (V.int IntKind.i64 (Int.ofNat 1)))))), (I.mk (some 31) none false (X.v (A.mov (O.t 43))))] [])
def A53o_3 : AC := (AC.seq (AC.block 1 (AC.seq (AC.reg [] [(I.mk (some 33) none false (X.v (A.idx (O.t 29) (O.t 31) 1))), (I.mk (some 34) none false (X.v (A.load Sh.s (O.t 33)))), (I.mk (some 8) none false (X.v (A.mov (O.t 34))))] []) A53o_4)) A53o_5)
def A53o_2 : AC := (AC.seq (AC.cond (O.t 32) AC.skip (AC.exit 0)) A53o_3)
def A53o_1 : AC := (AC.seq (AC.reg [] [(I.mk (some 32) none false (X.v (A.bin BinOp.lss (O.t 31) (O.t 30))))] []) A53o_2)
def A53o_6 : AC := (AC.seq (AC.reg [] [(I.mk (some 44) none false (X.v (A.mov (O.t 2)))), (I.mk (some 6) none false (X.v (A.mov (O.t 44))))] [.home 2 6]) AC.ret)
def A53o_8 : AC := (AC.block 0 (AC.loop A53o_1))
def A53o_7 : AC := (AC.seq (AC.seq (AC.reg [] [(I.mk (some 16) none false (X.v (A.fld (O.t 3) 0 0))), (I.mk (some 17) none false (X.v (A.load Sh.p (O.t 16)))), (I.mk (some 18) none false (X.v (A.mov (O.t 1)))), (I.mk (some 19) none false (X.v (A.mov (O.t 1)))), (I.mk (some 20) none false (X.v (A.len (O.t 19)))), (I.mk (some 21) none false (X.v (A.bin BinOp.sub (O.t 20) (O.k (V.int IntKind.i64 (Int.ofNat 1)))))), (I.mk (some 22) none false (X.v (A.idx (O.t 18) (O.t 21) 1))), (I.mk (some 23) none false (X.v (A.load Sh.s (O.t 22)))), (I.mk (some 24) none false (X.v (A.idx (O.t 17) (O.t 23) 1))), (I.mk (some 25) none false (X.v (A.load Sh.s (O.t 24)))), (I.mk (some 26) none false (X.v (A.mov (O.t 1)))), (I.mk (some 27) none false (X.call (O.k (V.fn 75 [] [])) [(O.t 26)])), (I.mk (some 28) none false (X.v (A.bin BinOp.andNot (O.t 25) (O.t 27)))), (I.mk (some 29) none false (X.call (O.k (V.fn 60 [] [])) [(O.t 28)])), (I.mk (some 30) none false (X.v (A.len (O.t 29)))), (I.mk (some 31) none false (X.v (A.mov (O.k (V.int IntKind.i64 (Int.ofNat 0))))))] []) A53o_8) A53o_6)
def A53o_10 : AC := (AC.cond (O.t 13) (AC.reg [.clr [15]] [(I.mk (some 14) none false (X.v (A.mov (O.t 1)))), (I.mk (some 15) none false (X.callO (O.k (V.fn 102 [] [])) [(O.t 14)])), (I.mk (some 2) none false (X.v (A.mov (O.t 15))))] [.home 15 2]) AC.skip)
def A53o_9 : AC := (AC.seq (AC.seq (AC.reg [] [(I.mk (some 9) none false (X.v (A.mov (O.t 1)))), (I.mk (some 10) none false (X.v (A.len (O.t 9)))), (I.mk (some 11) none false (X.v (A.mov (O.t 2)))), (I.mk (some 12) none false (X.v (A.len (O.t 11)))), (I.mk (some 13) none false (X.v (A.bin BinOp.gtr (O.t 10) (O.t 12))))] []) A53o_10) A53o_7)
def A53o : AC := (AC.seq (AC.reg [.clr [3]] [(I.mk (some 3) none false (X.box (O.t 0))), (I.mk (some 6) none false (X.v (A.mov (O.k (V.sl Tok.nl Sh.s 0 [])))))] [.home pinR 2]) A53o_9)
def an53o : List An := [{ id := 0, pre := [.clr [3]], ep := [.home pinR 2], lin := [], sp := [] }, { id := 2, pre := [.clr [15]], ep := [.home 15 2], lin := [], sp := [1001] }, { id := 6, pre := [.clr [37, 39, 40, 42]], ep := [.home 42 2], lin := [2], sp := [5, 4007, 1002] }, { id := 8, pre := [], ep := [.home 2 6], lin := [], sp := [] }]
theorem c53o : cC Try.prog Try.f53.ntmps an53o (Try.f53.body.getD .skip) = some A53o := by kernel_rfl
structure H53o (D : Den) (σ : Sig) (F : Nat) (rc : (S1 (List Int)) → (List Int) → (On Int) → Option (NL Int)) : Prop where
  c102o : ∀ (x0 : (List Int)) r, slices_Clone_o F x0 = some r → D 1000000102 [Enc.enc x0] = some (encO .sh (r : NL Int))
  g102o : σ 1000000102 = some (1, false)
  c75 : ∀ (x0 : (List Int)) r, i_maskOf F x0 = some r → D 75 [Enc.enc x0] = some (Enc.enc (r : Int))
  g75 : σ 75 = some (0, false)
  c60 : ∀ (x0 : Int) r, i_setOf F x0 = some r → D 60 [Enc.enc x0] = some (Enc.enc (r : (List Int)))
  g60 : σ 60 = some (0, false)
  c53o : ∀ (x0 : (S1 (List Int))) (x1 : (List Int)) (x2 : (On Int)) r, rc x0 x1 x2 = some r → D 1000000053 [Enc.enc x0, Enc.enc x1, Arg.arg x2] = some (encO .sh (r : NL Int))
  g53o : σ 1000000053 = some (giveM, false)
abbrev R53o (r : (NL Int)) : (Nat → V) → Prop := RR Try.prog [.tmp 6] 1 false (encO .sh (r : NL Int))
section
variable {D : Den} {σ : Sig} {F : Nat} {rc : (S1 (List Int)) → (List Int) → (On Int) → Option (NL Int)} {r : (NL Int)}
def i_net_longerPath_o_l1 (F : Nat) (rc : (S1 (List Int)) → (List Int) → (On Int) → Option (NL Int)) (path_2 : (List Int)) (w_1 : (S1 (List Int))) (r_9 : (List Int))  : Nat → (NL Int) → Int → Option (NL Int)
  | 0, _, _ => none
  | k + 1, best_14, t31_15 =>
    bif decide (t31_15 < (r_9.length : Int)) then
      (idx r_9 t31_15).bind fun e_20 =>
      (slices_Clone_o F path_2).bind fun r_21 =>
      (appL r_21.list [e_20]).bind fun ap_22 =>
      (rc w_1 ap_22 (On.mk best_14 : On Int)).bind fun r_23 =>
      (i_net_longerPath_o_l1 F rc path_2 w_1 r_9 k) r_23 (w64 (t31_15 + 1))
    else
      some best_14
theorem t_f53o_l1 (H : H53o D σ F rc) (path_2 : (List Int)) (w_1 : (S1 (List Int))) (r_9 : (List Int))  : ∀ (k : Nat) (best_14 : (NL Int)) (t31_15 : Int) (s : Nat → V), Facts [(1, (Enc.enc (path_2 : List Int))), (2, (encO (.at 2 []) (best_14 : NL Int))), (3, (.ref (.bx 3) 0 [] (.agg [(Enc.enc (w_1.a : List Int))]))), (6, (.sl .nl (Enc.shp Int) 0 [])), (29, (Enc.enc (r_9 : List Int))), (30, (.int .i64 (r_9.length : Int))), (31, (.int .i64 t31_15))] s → i_net_longerPath_o_l1 F rc path_2 w_1 r_9 k best_14 t31_15 = some r → Run D σ (R53o r) (.run A53o_1 [.lp A53o_1, .bk 0, .sq A53o_6]) s := by
  intro k
  induction k with
  | zero => intro best_14 t31_15 s _ h; exact nomatch (h : (none : Option _) = some r)
  | succ k ih =>
    intro best_14 t31_15 s hs h
    rw [i_net_longerPath_o_l1] at h
    obtain ⟨h1, h2, h3, h6, h29, h30, h31⟩ := hs
    refine .seq ?_
    refine run_reg ?_
    refine e_end ?_
    refine g_v2 (t1 := 31) (t2 := 30) (u1 := (.int .i64 t31_15)) (u2 := (.int .i64 (r_9.length : Int))) (.bool (decide (t31_15 < (r_9.length : Int)))) h31 h30 rfl rfl ?_
    refine g_end ?_
    refine e_end ?_
    refine renew [(1, (Enc.enc (path_2 : List Int))), (2, (encO (.at 2 []) (best_14 : NL Int))), (3, (.ref (.bx 3) 0 [] (.agg [(Enc.enc (w_1.a : List Int))]))), (6, (.sl .nl (Enc.shp Int) 0 [])), (29, (Enc.enc (r_9 : List Int))), (30, (.int .i64 (r_9.length : Int))), (31, (.int .i64 t31_15)), (32, (.bool (decide (t31_15 < (r_9.length : Int)))))] ⟨h1, h2, h3, h6, h29, h30, h31, rfl⟩ ?_
    rintro s ⟨h1, h2, h3, h6, h29, h30, h31, h32⟩
    refine .nsq ?_
    refine .seq ?_
    refine run_cond (t := decide (t31_15 < (r_9.length : Int))) h32 h (fun h => ?_) (fun h => ?_)
    · refine .skip ?_
      refine .nsq ?_
      refine .seq ?_
      refine .block ?_
      refine .seq ?_
      refine run_reg ?_
      refine e_end ?_
      obtain ⟨e_20, E_e_20, h⟩ := bind_some h
      refine g_v (.ref .sh 0 [] (.int .i64 e_20)) (ev_idx (t := .sh) (lo := 0) (xs := r_9) h29 h31 E_e_20 rfl rfl) ?_
      refine g_v1 (t := 33) (u := (.ref .sh 0 [] (.int .i64 e_20))) (.int .i64 e_20) rfl rfl rfl ?_
      refine g_v1 (t := 34) (u := (.int .i64 e_20)) (.int .i64 e_20) rfl rfl rfl ?_
      refine g_end ?_
      refine e_end ?_
      refine renew [(1, (Enc.enc (path_2 : List Int))), (2, (encO (.at 2 []) (best_14 : NL Int))), (3, (.ref (.bx 3) 0 [] (.agg [(Enc.enc (w_1.a : List Int))]))), (6, (.sl .nl (Enc.shp Int) 0 [])), (8, (.int .i64 e_20)), (29, (Enc.enc (r_9 : List Int))), (30, (.int .i64 (r_9.length : Int))), (31, (.int .i64 t31_15))] ⟨h1, h2, h3, h6, rfl, h29, h30, h31⟩ ?_
      rintro s ⟨h1, h2, h3, h6, h8, h29, h30, h31⟩
      refine .nsq ?_
      refine run_reg ?_
      refine e_clr ?_
      refine e_end ?_
      refine g_v1 (t := 3) (u := (.ref (.bx 3) 0 [] (.agg [(Enc.enc (w_1.a : List Int))]))) (.agg [(Enc.enc (w_1.a : List Int))]) (keep_clear (s := s) (pk := [37, 39, 40, 42]) h3 rfl (map_bx rfl (map_agg (maps_cons (Enc.map_enc _ (w_1.a : List Int)) maps_nil)))) rfl rfl ?_
      refine g_v1 (t := 1) (u := (Enc.enc (path_2 : List Int))) (Enc.enc (path_2 : List Int)) (keep_clear (s := s) (pk := [37, 39, 40, 42]) h1 rfl (Enc.map_enc _ (path_2 : List Int))) rfl rfl ?_
      obtain ⟨r_21, E_r_21, h⟩ := bind_some h
      refine g_callOl (m := 1) (al := false) (r := (encO .sh (r_21 : NL Int))) (o := (r_21 : NL Int)) (kk := 1000000102) [Enc.enc (path_2 : (List Int))] (ta_cons (v := (Enc.enc (path_2 : List Int))) rfl rfl (Enc.erase_enc (path_2 : (List Int))) ta_nil) (H.c102o _ _ E_r_21) H.g102o rfl toks_encS tag_encO (gone_clear (s := s) (pk := [37, 39, 40, 42]) (t := 37) rfl) ?_
      refine g_v1 (t := 8) (u := (.int .i64 e_20)) (.int .i64 e_20) (keep_clear (s := s) (pk := [37, 39, 40, 42]) h8 rfl rfl) rfl rfl ?_
      refine g_litL [(38, (.int .i64 e_20))] [Enc.enc (e_20 : Int)] rfl rfl rfl (gone_clear (s := s) (pk := [37, 39, 40, 42]) (t := 39) rfl) ?_
      obtain ⟨ap_22, E_ap_22, h⟩ := bind_some h
      refine g_appSO (o := (r_21 : NL Int)) (ys := ([e_20] : List Int)) (t2 := (.at 39 [])) (lo2 := 0) rfl rfl rfl (gone_clear (s := s) (pk := [37, 39, 40, 42]) (t := 40) rfl) (by simp) E_ap_22 (fun s_14 hl_14 => ?_)
      refine g_v (encO (.at 2 []) (best_14 : NL Int)) (ev_mov (show s_14 2 = (encO (.at 2 []) (best_14 : NL Int)) from (hl_14 2 (by decide)).trans (keep_clear (s := s) (pk := [37, 39, 40, 42]) h2 rfl (map_encO (r := 2) (p := []) rfl rfl))) ok_encO) ?_
      obtain ⟨r_23, E_r_23, h⟩ := bind_some h
      refine g_callG (q := 2) (p := []) (o := (best_14 : NL Int)) (r := (encO .sh (r_23 : NL Int))) (u := (encO (.at 42 []) (r_23 : NL Int))) (kk := 1000000053) [Enc.enc (w_1 : (S1 (List Int))), Enc.enc (ap_22 : (List Int)), .bool true] rfl rfl rfl H.g53o toks_encS tag_encO ok_encP (show s_14 42 = .gone from (hl_14 42 (by decide)).trans (gone_clear (s := s) (pk := [37, 39, 40, 42]) (t := 42) rfl)) (by decide) (fun s_15 ha_15 => ⟨by exact (ta_cons (v := (.agg [(Enc.enc (w_1.a : List Int))])) (show s_15 35 = (.agg [(Enc.enc (w_1.a : List Int))]) from keep_app ha_15 (show s_14 35 = (.agg [(Enc.enc (w_1.a : List Int))]) from (hl_14 35 (by decide)).trans rfl) (map_agg (maps_cons (Enc.map_enc _ (w_1.a : List Int)) maps_nil))) rfl (Enc.erase_enc (w_1 : (S1 (List Int)))) (ta_cons (v := (encO (.at 40 []) (.of (ap_22 : List Int)))) (show s_15 40 = (encO (.at 40 []) (.of (ap_22 : List Int))) from keep_app ha_15 rfl (map_encO (r := 40) (p := []) rfl rfl)) rfl (erase_encO (o := .of ap_22)) (ta_cons (v := (.bool true)) rfl rfl rfl ta_nil))), by exact (H.c53o _ _ _ _ E_r_23), ?_⟩)
      refine g_v (encO (.at 42 []) (r_23 : NL Int)) (ev_mov rfl ok_encO) ?_
      refine g_end ?_
      refine e_home (r := 42) (x := 2) (v := (encO (.at 42 []) (r_23 : NL Int))) (by exact rfl) ok_encO (fun s_16 hg_16 => ?_)
      refine e_end ?_
      refine renew [(1, (Enc.enc (path_2 : List Int))), (2, (encO (.at 2 []) (r_23 : NL Int))), (3, (.ref (.bx 3) 0 [] (.agg [(Enc.enc (w_1.a : List Int))]))), (6, (.sl .nl (Enc.shp Int) 0 [])), (29, (Enc.enc (r_9 : List Int))), (30, (.int .i64 (r_9.length : Int))), (31, (.int .i64 t31_15))] ⟨(hg_16 1 (Enc.enc (path_2 : List Int)) (Enc.enc (path_2 : List Int)) (show s_15 1 = (Enc.enc (path_2 : List Int)) from keep_app ha_15 (show s_14 1 = (Enc.enc (path_2 : List Int)) from (hl_14 1 (by decide)).trans (keep_clear (s := s) (pk := [37, 39, 40, 42]) h1 rfl (Enc.map_enc _ (path_2 : List Int)))) (Enc.map_enc _ (path_2 : List Int))) (Enc.map_enc _ (path_2 : List Int))), (hg_16 2 (encO (.at 42 []) (r_23 : NL Int)) (encO (.at 2 []) (r_23 : NL Int)) rfl (map_encO (r := 42) (p := []) rfl rfl)), (hg_16 3 (.ref (.bx 3) 0 [] (.agg [(Enc.enc (w_1.a : List Int))])) (.ref (.bx 3) 0 [] (.agg [(Enc.enc (w_1.a : List Int))])) (show s_15 3 = (.ref (.bx 3) 0 [] (.agg [(Enc.enc (w_1.a : List Int))])) from keep_app ha_15 (show s_14 3 = (.ref (.bx 3) 0 [] (.agg [(Enc.enc (w_1.a : List Int))])) from (hl_14 3 (by decide)).trans (keep_clear (s := s) (pk := [37, 39, 40, 42]) h3 rfl (map_bx rfl (map_agg (maps_cons (Enc.map_enc _ (w_1.a : List Int)) maps_nil))))) (map_bx rfl (map_agg (maps_cons (Enc.map_enc _ (w_1.a : List Int)) maps_nil)))) (map_bx rfl (map_agg (maps_cons (Enc.map_enc _ (w_1.a : List Int)) maps_nil)))), (hg_16 6 (.sl .nl (Enc.shp Int) 0 []) (.sl .nl (Enc.shp Int) 0 []) (show s_15 6 = (.sl .nl (Enc.shp Int) 0 []) from keep_app ha_15 (show s_14 6 = (.sl .nl (Enc.shp Int) 0 []) from (hl_14 6 (by decide)).trans (keep_clear (s := s) (pk := [37, 39, 40, 42]) h6 rfl rfl)) rfl) rfl), (hg_16 29 (Enc.enc (r_9 : List Int)) (Enc.enc (r_9 : List Int)) (show s_15 29 = (Enc.enc (r_9 : List Int)) from keep_app ha_15 (show s_14 29 = (Enc.enc (r_9 : List Int)) from (hl_14 29 (by decide)).trans (keep_clear (s := s) (pk := [37, 39, 40, 42]) h29 rfl (Enc.map_enc _ (r_9 : List Int)))) (Enc.map_enc _ (r_9 : List Int))) (Enc.map_enc _ (r_9 : List Int))), (hg_16 30 (.int .i64 (r_9.length : Int)) (.int .i64 (r_9.length : Int)) (show s_15 30 = (.int .i64 (r_9.length : Int)) from keep_app ha_15 (show s_14 30 = (.int .i64 (r_9.length : Int)) from (hl_14 30 (by decide)).trans (keep_clear (s := s) (pk := [37, 39, 40, 42]) h30 rfl rfl)) rfl) rfl), (hg_16 31 (.int .i64 t31_15) (.int .i64 t31_15) (show s_15 31 = (.int .i64 t31_15) from keep_app ha_15 (show s_14 31 = (.int .i64 t31_15) from (hl_14 31 (by decide)).trans (keep_clear (s := s) (pk := [37, 39, 40, 42]) h31 rfl rfl)) rfl) rfl)⟩ ?_
      rintro s ⟨h1, h2, h3, h6, h29, h30, h31⟩
      refine .nbk ?_
      refine .nsq ?_
      refine run_reg ?_
      refine e_end ?_
      refine g_v1 (t := 31) (u := (.int .i64 t31_15)) (.int .i64 (w64 (t31_15 + 1))) h31 rfl rfl ?_
      refine g_v1 (t := 43) (u := (.int .i64 (w64 (t31_15 + 1)))) (.int .i64 (w64 (t31_15 + 1))) rfl rfl rfl ?_
      refine g_end ?_
      refine e_end ?_
      refine renew [(1, (Enc.enc (path_2 : List Int))), (2, (encO (.at 2 []) (r_23 : NL Int))), (3, (.ref (.bx 3) 0 [] (.agg [(Enc.enc (w_1.a : List Int))]))), (6, (.sl .nl (Enc.shp Int) 0 [])), (29, (Enc.enc (r_9 : List Int))), (30, (.int .i64 (r_9.length : Int))), (31, (.int .i64 (w64 (t31_15 + 1))))] ⟨h1, h2, h3, h6, h29, h30, rfl⟩ ?_
      rintro s ⟨h1, h2, h3, h6, h29, h30, h31⟩
      refine .nlp ?_
      exact ih r_23 (w64 (t31_15 + 1)) _ ⟨h1, h2, h3, h6, h29, h30, h31⟩ h
    · refine .exit ?_
      refine .esq ?_
      refine .elp ?_
      refine .ebk ?_
      refine .nsq ?_
      refine .seq ?_
      refine run_reg ?_
      refine e_end ?_
      refine g_v (encO (.at 2 []) (best_14 : NL Int)) (ev_mov h2 ok_encO) ?_
      refine g_v (encO (.at 2 []) (best_14 : NL Int)) (ev_mov rfl ok_encO) ?_
      refine g_end ?_
      refine e_home (r := 2) (x := 6) (v := (encO (.at 2 []) (best_14 : NL Int))) (by exact rfl) ok_encO (fun s_17 hg_17 => ?_)
      refine e_end ?_
      refine renew [(6, (encO (.at 6 []) (best_14 : NL Int)))] (hg_17 6 (encO (.at 2 []) (best_14 : NL Int)) (encO (.at 6 []) (best_14 : NL Int)) rfl (map_encO (r := 2) (p := []) rfl rfl)) ?_
      rintro s h6
      refine .nsq ?_
      refine .ret ?_
      have hr := Option.some.inj h
      subst hr
      exact rrA (res_tmp h6) (fin_retO (finO_own (o := (best_14 : NL Int))) rfl (mine_own rfl))
def i_net_longerPath_o_j1 (F : Nat) (rc : (S1 (List Int)) → (List Int) → (On Int) → Option (NL Int)) (path_2 : (List Int)) (w_1 : (S1 (List Int)))  (best_5 : (NL Int)) : Option (NL Int) :=
  (idx path_2 (w64 ((path_2.length : Int) - 1))).bind fun e_6 =>
  (idx w_1.a e_6).bind fun e_7 =>
  (i_maskOf F path_2).bind fun r_8 =>
  (i_setOf F (iandNot .i64 e_7 r_8)).bind fun r_9 =>
  i_net_longerPath_o_l1 F rc path_2 w_1 r_9 F best_5 0
theorem t_f53o_j1 (H : H53o D σ F rc) (path_2 : (List Int)) (w_1 : (S1 (List Int)))  (best_5 : (NL Int)) (s : Nat → V) (hs : Facts [(1, (Enc.enc (path_2 : List Int))), (2, (encO (.at 2 []) (best_5 : NL Int))), (3, (.ref (.bx 3) 0 [] (.agg [(Enc.enc (w_1.a : List Int))]))), (6, (.sl .nl (Enc.shp Int) 0 []))] s) (h : i_net_longerPath_o_j1 F rc path_2 w_1  best_5 = some r) : Run D σ (R53o r) (.nrm [.sq A53o_7]) s := by
  unfold i_net_longerPath_o_j1 at h
  obtain ⟨h1, h2, h3, h6⟩ := hs
  refine .nsq ?_
  refine .seq ?_
  refine .seq ?_
  refine run_reg ?_
  refine e_end ?_
  refine g_v1 (t := 3) (u := (.ref (.bx 3) 0 [] (.agg [(Enc.enc (w_1.a : List Int))]))) (.ref (.bx 3) 0 [0] (Enc.enc (w_1.a : List Int))) h3 rfl rfl ?_
  refine g_v1 (t := 16) (u := (.ref (.bx 3) 0 [0] (Enc.enc (w_1.a : List Int)))) (Enc.enc (w_1.a : List Int)) rfl rfl rfl ?_
  refine g_v1 (t := 1) (u := (Enc.enc (path_2 : List Int))) (Enc.enc (path_2 : List Int)) h1 rfl rfl ?_
  refine g_v1 (t := 1) (u := (Enc.enc (path_2 : List Int))) (Enc.enc (path_2 : List Int)) h1 rfl rfl ?_
  refine g_v (.int .i64 (path_2.length : Int)) (ev_len (xs := path_2) rfl) ?_
  refine g_v1 (t := 20) (u := (.int .i64 (path_2.length : Int))) (.int .i64 (w64 ((path_2.length : Int) - 1))) rfl rfl rfl ?_
  obtain ⟨e_6, E_e_6, h⟩ := bind_some h
  refine g_v (.ref .sh 0 [] (.int .i64 e_6)) (ev_idx (t := .sh) (lo := 0) (xs := path_2) rfl rfl E_e_6 rfl rfl) ?_
  refine g_v1 (t := 22) (u := (.ref .sh 0 [] (.int .i64 e_6))) (.int .i64 e_6) rfl rfl rfl ?_
  obtain ⟨e_7, E_e_7, h⟩ := bind_some h
  refine g_v (.ref .sh 0 [] (.int .i64 e_7)) (ev_idx (t := .sh) (lo := 0) (xs := w_1.a) rfl rfl E_e_7 rfl rfl) ?_
  refine g_v1 (t := 24) (u := (.ref .sh 0 [] (.int .i64 e_7))) (.int .i64 e_7) rfl rfl rfl ?_
  refine g_v1 (t := 1) (u := (Enc.enc (path_2 : List Int))) (Enc.enc (path_2 : List Int)) h1 rfl rfl ?_
  obtain ⟨r_8, E_r_8, h⟩ := bind_some h
  refine g_call (m := 0) (al := false) (r := (Enc.enc (r_8 : Int))) [Enc.enc (path_2 : (List Int))] (ta_cons (v := (Enc.enc (path_2 : List Int))) rfl rfl (Enc.erase_enc (path_2 : (List Int))) ta_nil) (H.c75 _ _ E_r_8) H.g75 rfl rfl rfl rfl ?_
  refine g_v2 (t1 := 25) (t2 := 27) (u1 := (.int .i64 e_7)) (u2 := (.int .i64 r_8)) (.int .i64 (iandNot .i64 e_7 r_8)) rfl rfl rfl rfl ?_
  obtain ⟨r_9, E_r_9, h⟩ := bind_some h
  refine g_call (m := 0) (al := false) (r := (Enc.enc (r_9 : (List Int)))) [Enc.enc (iandNot .i64 e_7 r_8 : Int)] (ta_cons (v := (.int .i64 (iandNot .i64 e_7 r_8))) rfl rfl rfl ta_nil) (H.c60 _ _ E_r_9) H.g60 rfl rfl rfl rfl ?_
  refine g_v (.int .i64 (r_9.length : Int)) (ev_len (xs := r_9) rfl) ?_
  refine g_v0 (.int .i64 0) rfl rfl ?_
  refine g_end ?_
  refine e_end ?_
  refine renew [(1, (Enc.enc (path_2 : List Int))), (2, (encO (.at 2 []) (best_5 : NL Int))), (3, (.ref (.bx 3) 0 [] (.agg [(Enc.enc (w_1.a : List Int))]))), (6, (.sl .nl (Enc.shp Int) 0 [])), (29, (Enc.enc (r_9 : List Int))), (30, (.int .i64 (r_9.length : Int))), (31, (.int .i64 0))] ⟨h1, h2, h3, h6, rfl, rfl, rfl⟩ ?_
  rintro s ⟨h1, h2, h3, h6, h29, h30, h31⟩
  refine .nsq ?_
  refine .block ?_
  refine .loop ?_
  exact t_f53o_l1 H path_2 w_1 r_9 F best_5 0 _ ⟨h1, h2, h3, h6, h29, h30, h31⟩ h
def i_net_longerPath_o_b (F : Nat) (rc : (S1 (List Int)) → (List Int) → (On Int) → Option (NL Int)) (w_1 : (S1 (List Int))) (path_2 : (List Int)) (best_3 : (On Int)) : Option (NL Int) :=
  bif decide ((path_2.length : Int) > (best_3.v.list.length : Int)) then
    (slices_Clone_o F path_2).bind fun r_24 =>
    i_net_longerPath_o_j1 F rc path_2 w_1 r_24
  else
    i_net_longerPath_o_j1 F rc path_2 w_1 best_3.v
theorem t53o (H : H53o D σ F rc) (w_1 : (S1 (List Int))) (path_2 : (List Int)) (best_3 : (On Int)) (s : Nat → V) (hs : Facts [(0, (.agg [(Enc.enc (w_1.a : List Int))])), (1, (Enc.enc (path_2 : List Int))), (2, (encO (.at pinR []) (best_3.v : NL Int)))] s) (h : i_net_longerPath_o_b F rc w_1 path_2 best_3 = some r) : Run D σ (R53o r) (.run A53o []) s := by
  unfold i_net_longerPath_o_b at h
  obtain ⟨h0, h1, h2⟩ := hs
  refine .seq ?_
  refine run_reg ?_
  refine e_clr ?_
  refine e_end ?_
  refine g_box (.agg [(Enc.enc (w_1.a : List Int))]) (rd_of (keep_clear (s := s) (pk := [3]) h0 rfl (map_agg (maps_cons (Enc.map_enc _ (w_1.a : List Int)) maps_nil))) rfl) (gone_clear (s := s) (pk := [3]) (t := 3) rfl) rfl ?_
  refine g_v0 (.sl .nl (Enc.shp Int) 0 []) rfl rfl ?_
  refine g_end ?_
  refine e_home (r := pinR) (x := 2) (v := (encO (.at pinR []) (best_3.v : NL Int))) (by exact (keep_clear (s := s) (pk := [3]) h2 rfl (map_encO (r := pinR) (p := []) rfl rfl))) ok_encO (fun s_2 hg_2 => ?_)
  refine e_end ?_
  refine renew [(1, (Enc.enc (path_2 : List Int))), (2, (encO (.at 2 []) (best_3.v : NL Int))), (3, (.ref (.bx 3) 0 [] (.agg [(Enc.enc (w_1.a : List Int))]))), (6, (.sl .nl (Enc.shp Int) 0 []))] ⟨(hg_2 1 (Enc.enc (path_2 : List Int)) (Enc.enc (path_2 : List Int)) (keep_clear (s := s) (pk := [3]) h1 rfl (Enc.map_enc _ (path_2 : List Int))) (Enc.map_enc _ (path_2 : List Int))), (hg_2 2 (encO (.at pinR []) (best_3.v : NL Int)) (encO (.at 2 []) (best_3.v : NL Int)) (keep_clear (s := s) (pk := [3]) h2 rfl (map_encO (r := pinR) (p := []) rfl rfl)) (map_encO (r := pinR) (p := []) rfl rfl)), (hg_2 3 (.ref (.bx 3) 0 [] (.agg [(Enc.enc (w_1.a : List Int))])) (.ref (.bx 3) 0 [] (.agg [(Enc.enc (w_1.a : List Int))])) rfl (map_bx rfl (map_agg (maps_cons (Enc.map_enc _ (w_1.a : List Int)) maps_nil)))), (hg_2 6 (.sl .nl (Enc.shp Int) 0 []) (.sl .nl (Enc.shp Int) 0 []) rfl rfl)⟩ ?_
  rintro s ⟨h1, h2, h3, h6⟩
  refine .nsq ?_
  refine .seq ?_
  refine .seq ?_
  refine run_reg ?_
  refine e_end ?_
  refine g_v1 (t := 1) (u := (Enc.enc (path_2 : List Int))) (Enc.enc (path_2 : List Int)) h1 rfl rfl ?_
  refine g_v (.int .i64 (path_2.length : Int)) (ev_len (xs := path_2) rfl) ?_
  refine g_v (encO (.at 2 []) (best_3.v : NL Int)) (ev_mov h2 ok_encO) ?_
  refine g_v (.int .i64 (best_3.v.list.length : Int)) (ev_lenO (o := best_3.v) rfl) ?_
  refine g_v2 (t1 := 10) (t2 := 12) (u1 := (.int .i64 (path_2.length : Int))) (u2 := (.int .i64 (best_3.v.list.length : Int))) (.bool (decide ((path_2.length : Int) > (best_3.v.list.length : Int)))) rfl rfl rfl rfl ?_
  refine g_end ?_
  refine e_end ?_
  refine renew [(1, (Enc.enc (path_2 : List Int))), (2, (encO (.at 2 []) (best_3.v : NL Int))), (3, (.ref (.bx 3) 0 [] (.agg [(Enc.enc (w_1.a : List Int))]))), (6, (.sl .nl (Enc.shp Int) 0 [])), (13, (.bool (decide ((path_2.length : Int) > (best_3.v.list.length : Int)))))] ⟨h1, h2, h3, h6, rfl⟩ ?_
  rintro s ⟨h1, h2, h3, h6, h13⟩
  refine .nsq ?_
  refine run_cond (t := decide ((path_2.length : Int) > (best_3.v.list.length : Int))) h13 h (fun h => ?_) (fun h => ?_)
  · refine run_reg ?_
    refine e_clr ?_
    refine e_end ?_
    refine g_v1 (t := 1) (u := (Enc.enc (path_2 : List Int))) (Enc.enc (path_2 : List Int)) (keep_clear (s := s) (pk := [15]) h1 rfl (Enc.map_enc _ (path_2 : List Int))) rfl rfl ?_
    obtain ⟨r_24, E_r_24, h⟩ := bind_some h
    refine g_callO (m := 1) (al := false) (r := (encO .sh (r_24 : NL Int))) (v := (encO (.at 15 []) (r_24 : NL Int))) (kk := 1000000102) [Enc.enc (path_2 : (List Int))] (ta_cons (v := (Enc.enc (path_2 : List Int))) rfl rfl (Enc.erase_enc (path_2 : (List Int))) ta_nil) (H.c102o _ _ E_r_24) H.g102o rfl toks_encS tag_encO ok_encP (gone_clear (s := s) (pk := [15]) (t := 15) rfl) ?_
    refine g_v (encO (.at 15 []) (r_24 : NL Int)) (ev_mov rfl ok_encO) ?_
    refine g_end ?_
    refine e_home (r := 15) (x := 2) (v := (encO (.at 15 []) (r_24 : NL Int))) (by exact rfl) ok_encO (fun s_19 hg_19 => ?_)
    refine e_end ?_
    refine renew [(1, (Enc.enc (path_2 : List Int))), (2, (encO (.at 2 []) (r_24 : NL Int))), (3, (.ref (.bx 3) 0 [] (.agg [(Enc.enc (w_1.a : List Int))]))), (6, (.sl .nl (Enc.shp Int) 0 []))] ⟨(hg_19 1 (Enc.enc (path_2 : List Int)) (Enc.enc (path_2 : List Int)) (keep_clear (s := s) (pk := [15]) h1 rfl (Enc.map_enc _ (path_2 : List Int))) (Enc.map_enc _ (path_2 : List Int))), (hg_19 2 (encO (.at 15 []) (r_24 : NL Int)) (encO (.at 2 []) (r_24 : NL Int)) rfl (map_encO (r := 15) (p := []) rfl rfl)), (hg_19 3 (.ref (.bx 3) 0 [] (.agg [(Enc.enc (w_1.a : List Int))])) (.ref (.bx 3) 0 [] (.agg [(Enc.enc (w_1.a : List Int))])) (keep_clear (s := s) (pk := [15]) h3 rfl (map_bx rfl (map_agg (maps_cons (Enc.map_enc _ (w_1.a : List Int)) maps_nil)))) (map_bx rfl (map_agg (maps_cons (Enc.map_enc _ (w_1.a : List Int)) maps_nil)))), (hg_19 6 (.sl .nl (Enc.shp Int) 0 []) (.sl .nl (Enc.shp Int) 0 []) (keep_clear (s := s) (pk := [15]) h6 rfl rfl) rfl)⟩ ?_
    rintro s ⟨h1, h2, h3, h6⟩
    exact t_f53o_j1 H path_2 w_1 r_24 _ ⟨h1, h2, h3, h6⟩ h
  · refine .skip ?_
    exact t_f53o_j1 H path_2 w_1 best_3.v _ ⟨h1, h2, h3, h6⟩ h
end
def i_net_longerPath_o_r (F : Nat) : Nat → (S1 (List Int)) → (List Int) → (On Int) → Option (NL Int)
  | 0, _, _, _ => none
  | k + 1, x0, x1, x2 => i_net_longerPath_o_b F (i_net_longerPath_o_r F k) x0 x1 x2
def i_net_longerPath_o (F : Nat) (x0 : (S1 (List Int))) (x1 : (List Int)) (x2 : (On Int)) : Option (NL Int) := i_net_longerPath_o_r F F x0 x1 x2
def e53o (F : Nat) (k : Nat) : Ent := ⟨1000000053, da (fun (x : ((S1 (List Int)) × (List Int) × (On Int) × Unit)) => i_net_longerPath_o_r F k x.1 x.2.1 x.2.2.1) (fun (r : (NL Int)) => (encO .sh (r : NL Int))), giveM, false, selF []⟩
theorem p53o {F : Nat} {k : Nat} {x0 : (S1 (List Int))} {x1 : (List Int)} {x2 : (On Int)} {r : (NL Int)} (h : i_net_longerPath_o_r F k x0 x1 x2 = some r) : (e53o F k).den [Enc.enc x0, Enc.enc x1, Arg.arg x2] = some (encO .sh (r : NL Int)) := da_put (f := fun (x : ((S1 (List Int)) × (List Int) × (On Int) × Unit)) => i_net_longerPath_o_r F k x.1 x.2.1 x.2.2.1) (t := fun (r : (NL Int)) => (encO .sh (r : NL Int))) (x0, x1, x2, ()) h
theorem z53o {F : Nat} : (e53o F 0).Ok Try.prog := by
  refine ok_of (f := 53) (show unk 1000000053 = 53 from rfl) (fun args r h => ?_) ⟨Try.f53, Try.func53, rfl, rfl⟩
  obtain ⟨⟨x0, x1, x2, _⟩, y, rfl, hy, rfl⟩ := da_open h
  cases hy
theorem o53o {D : Den} {σ : Sig} {F k : Nat} (hF : Fits2 Try.prog D σ) (H : H53o D σ F (i_net_longerPath_o_r F k)) : (e53o F (k + 1)).Ok Try.prog := by
  refine ok_of (f := 53) (show unk 1000000053 = 53 from rfl) (fun args r h => ?_) ⟨Try.f53, Try.func53, rfl, rfl⟩
  obtain ⟨⟨x0, x1, x2, _⟩, y, rfl, hy, rfl⟩ := da_open h
  exact contractG_run hF (by kernel_rfl) Try.func53 rfl c53o (all_okc rfl (all_okc rfl (all_okc ok_encP rfl))) (show 3 ≤ Try.f53.ntmps by decide) (by decide) (t53o H x0 x1 x2 _ ⟨rfl, rfl, rfl⟩ hy)
/- loop.example/g01109/impl.LongestPath -/
def A18o_4 : AC := (AC.reg [.clr [19, 21]] [(I.mk (some 17) none false (X.v (A.load (Sh.ag [Sh.p]) (O.t 4)))), (I.mk (some 18) none false (X.v (A.mov (O.t 6)))), (I.mk (some 19) none false (X.lit (V.int IntKind.i64 (Int.ofNat 0)) 1 [(0, 0, (O.t 18))])), (I.mk (some 20) none false (X.v (A.mov (O.t 5)))), (I.mk (some 21) none false (X.callG (O.k (V.fn 53 [] [])) 2 [(O.t 17), (O.t 19), (O.t 20)])), (I.mk (some 5) none false (X.v (A.mov (O.t 21))))] [.home 21 5])
def A18o_5 : AC := (AC.reg [] [(I.mk (some 22) none false (X.v (A.bin BinOp.add (O.t 14) (O.k (V.int IntKind.i64 (Int.ofNat 1)))))), (I.mk (some 14) none false (X.v (A.mov (O.t 22))))] [])
def A18o_3 : AC := (AC.seq (AC.block 1 (AC.seq (AC.reg [] [(I.mk (some 16) none false (X.v (A.mov (O.t 14)))), (I.mk (some 6) none false (X.v (A.mov (O.t 16))))] []) A18o_4)) A18o_5)
def A18o_2 : AC := (AC.seq (AC.cond (O.t 15) AC.skip (AC.exit 0)) A18o_3)
def A18o_1 : AC := (AC.seq (AC.reg [] [(I.mk (some 15) none false (X.v (A.bin BinOp.lss (O.t 14) (O.t 13))))] []) A18o_2)
def A18o_6 : AC := (AC.seq (AC.reg [] [(I.mk (some 23) none false (X.v (A.mov (O.t 5)))), (I.mk (some 2) none false (X.v (A.mov (O.t 23)))), (I.mk (some 3) none false (X.v (A.mov (O.k (V.bool true)))))] [.home 5 2]) AC.ret)
def A18o_8 : AC := (AC.cond (O.t 9) (AC.seq (AC.reg [] [(I.mk (some 2) none false (X.v (A.mov (O.k (V.sl Tok.nl Sh.s 0 []))))), (I.mk (some 3) none false (X.v (A.mov (O.k (V.bool false)))))] []) AC.ret) AC.skip)
def A18o_12 : AC := (AC.block 0 (AC.loop A18o_1))
def A18o_11 : AC := (AC.seq (AC.seq (AC.reg [] [(I.mk (some 12) none false (X.v (A.fld (O.t 1) 0 0))), (I.mk (some 13) none false (X.v (A.load Sh.s (O.t 12)))), (I.mk (some 14) none false (X.v (A.mov (O.k (V.int IntKind.i64 (Int.ofNat 0))))))] []) A18o_12) A18o_6)
def A18o_10 : AC := (AC.seq (AC.reg [] [(I.mk (some 5) none false (X.v (A.mov (O.k (V.sl Tok.nl Sh.s 0 [])))))] []) A18o_11)
def A18o_9 : AC := (AC.seq (AC.reg [.clr [4]] [(I.mk (some 10) none false (X.v (A.load (Sh.ag [Sh.s, Sh.p]) (O.t 1)))), (I.mk (some 11) none false (X.call (O.k (V.fn 52 [] [])) [(O.t 10)])), (I.mk (some 4) none false (X.alloc (V.agg [(V.sl Tok.nl Sh.s 0 [])]))), (I.mk none none false (X.store (Sh.ag [Sh.p]) (O.t 4) (O.t 11)))] []) A18o_10)
def A18o_7 : AC := (AC.seq (AC.seq (AC.reg [] [(I.mk (some 7) none false (X.v (A.load (Sh.ag [Sh.s, Sh.p]) (O.t 1)))), (I.mk (some 8) none false (X.call (O.k (V.fn 51 [] [])) [(O.t 7)])), (I.mk (some 9) none false (X.v (A.un UnOp.not (O.t 8))))] []) A18o_8) A18o_9)
def A18o : AC := (AC.seq (AC.reg [.clr [1]] [(I.mk (some 1) none false (X.box (O.t 0))), (I.mk (some 2) none false (X.v (A.mov (O.k (V.sl Tok.nl Sh.s 0 []))))), (I.mk (some 3) none false (X.v (A.mov (O.k (V.bool false)))))] []) A18o_7)
def an18o : List An := [{ id := 0, pre := [.clr [1]], ep := [], lin := [], sp := [] }, { id := 3, pre := [.clr [4]], ep := [], lin := [], sp := [] }, { id := 8, pre := [.clr [19, 21]], ep := [.home 21 5], lin := [], sp := [4004] }, { id := 10, pre := [], ep := [.home 5 2], lin := [], sp := [] }]
theorem c18o : cC Try.prog Try.f18.ntmps an18o (Try.f18.body.getD .skip) = some A18o := by kernel_rfl
structure H18o (D : Den) (σ : Sig) (F : Nat) : Prop where
  c51 : ∀ (x0 : (Int × (List (Int × Int)))) r, i_IsGraph F x0 = some r → D 51 [Enc.enc x0] = some (Enc.enc (r : Bool))
  g51 : σ 51 = some (0, false)
  c52 : ∀ (x0 : (Int × (List (Int × Int)))) r, i_netOf F x0 = some r → D 52 [Enc.enc x0] = some (Enc.enc (r : (S1 (List Int))))
  g52 : σ 52 = some (0, false)
  c53o : ∀ (x0 : (S1 (List Int))) (x1 : (List Int)) (x2 : (On Int)) r, i_net_longerPath_o F x0 x1 x2 = some r → D 1000000053 [Enc.enc x0, Enc.enc x1, Arg.arg x2] = some (encO .sh (r : NL Int))
  g53o : σ 1000000053 = some (giveM, false)
abbrev R18o (r : ((NL Int) × Bool)) : (Nat → V) → Prop := RR Try.prog [.tmp 2, .tmp 3] 1 false (.tup [(encO .sh (r.1 : NL Int)), (Enc.enc (r.2 : Bool))])
section
variable {D : Den} {σ : Sig} {F : Nat} {r : ((NL Int) × Bool)}
def i_LongestPath_o_l1 (F : Nat) (r_3 : (S1 (List Int))) (g_1 : (Int × (List (Int × Int))))  : Nat → (NL Int) → Int → Option ((NL Int) × Bool)
  | 0, _, _ => none
  | k + 1, best_5, t14_6 =>
    bif decide (t14_6 < g_1.1) then
      (i_net_longerPath_o F r_3 [t14_6] (On.mk best_5 : On Int)).bind fun r_8 =>
      (i_LongestPath_o_l1 F r_3 g_1 k) r_8 (w64 (t14_6 + 1))
    else
      some (best_5, true)
theorem t_f18o_l1 (H : H18o D σ F) (r_3 : (S1 (List Int))) (g_1 : (Int × (List (Int × Int))))  : ∀ (k : Nat) (best_5 : (NL Int)) (t14_6 : Int) (s : Nat → V), Facts [(2, (.sl .nl (Enc.shp Int) 0 [])), (3, (.bool false)), (4, (.ref (.bx 4) 0 [] (.agg [(Enc.enc (r_3.a : List Int))]))), (5, (encO (.at 5 []) (best_5 : NL Int))), (13, (.int .i64 g_1.1)), (14, (.int .i64 t14_6))] s → i_LongestPath_o_l1 F r_3 g_1 k best_5 t14_6 = some r → Run D σ (R18o r) (.run A18o_1 [.lp A18o_1, .bk 0, .sq A18o_6]) s := by
  intro k
  induction k with
  | zero => intro best_5 t14_6 s _ h; exact nomatch (h : (none : Option _) = some r)
  | succ k ih =>
    intro best_5 t14_6 s hs h
    rw [i_LongestPath_o_l1] at h
    obtain ⟨h2, h3, h4, h5, h13, h14⟩ := hs
    refine .seq ?_
    refine run_reg ?_
    refine e_end ?_
    refine g_v2 (t1 := 14) (t2 := 13) (u1 := (.int .i64 t14_6)) (u2 := (.int .i64 g_1.1)) (.bool (decide (t14_6 < g_1.1))) h14 h13 rfl rfl ?_
    refine g_end ?_
    refine e_end ?_
    refine renew [(2, (.sl .nl (Enc.shp Int) 0 [])), (3, (.bool false)), (4, (.ref (.bx 4) 0 [] (.agg [(Enc.enc (r_3.a : List Int))]))), (5, (encO (.at 5 []) (best_5 : NL Int))), (13, (.int .i64 g_1.1)), (14, (.int .i64 t14_6)), (15, (.bool (decide (t14_6 < g_1.1))))] ⟨h2, h3, h4, h5, h13, h14, rfl⟩ ?_
    rintro s ⟨h2, h3, h4, h5, h13, h14, h15⟩
    refine .nsq ?_
    refine .seq ?_
    refine run_cond (t := decide (t14_6 < g_1.1)) h15 h (fun h => ?_) (fun h => ?_)
    · refine .skip ?_
      refine .nsq ?_
      refine .seq ?_
      refine .block ?_
      refine .seq ?_
      refine run_reg ?_
      refine e_end ?_
      refine g_v1 (t := 14) (u := (.int .i64 t14_6)) (.int .i64 t14_6) h14 rfl rfl ?_
      refine g_v1 (t := 16) (u := (.int .i64 t14_6)) (.int .i64 t14_6) rfl rfl rfl ?_
      refine g_end ?_
      refine e_end ?_
      refine renew [(2, (.sl .nl (Enc.shp Int) 0 [])), (3, (.bool false)), (4, (.ref (.bx 4) 0 [] (.agg [(Enc.enc (r_3.a : List Int))]))), (5, (encO (.at 5 []) (best_5 : NL Int))), (6, (.int .i64 t14_6)), (13, (.int .i64 g_1.1)), (14, (.int .i64 t14_6))] ⟨h2, h3, h4, h5, rfl, h13, h14⟩ ?_
      rintro s ⟨h2, h3, h4, h5, h6, h13, h14⟩
      refine .nsq ?_
      refine run_reg ?_
      refine e_clr ?_
      refine e_end ?_
      refine g_v1 (t := 4) (u := (.ref (.bx 4) 0 [] (.agg [(Enc.enc (r_3.a : List Int))]))) (.agg [(Enc.enc (r_3.a : List Int))]) (keep_clear (s := s) (pk := [19, 21]) h4 rfl (map_bx rfl (map_agg (maps_cons (Enc.map_enc _ (r_3.a : List Int)) maps_nil)))) rfl rfl ?_
      refine g_v1 (t := 6) (u := (.int .i64 t14_6)) (.int .i64 t14_6) (keep_clear (s := s) (pk := [19, 21]) h6 rfl rfl) rfl rfl ?_
      refine g_litL [(18, (.int .i64 t14_6))] [Enc.enc (t14_6 : Int)] rfl rfl rfl (gone_clear (s := s) (pk := [19, 21]) (t := 19) rfl) ?_
      refine g_v (encO (.at 5 []) (best_5 : NL Int)) (ev_mov (keep_clear (s := s) (pk := [19, 21]) h5 rfl (map_encO (r := 5) (p := []) rfl rfl)) ok_encO) ?_
      obtain ⟨r_8, E_r_8, h⟩ := bind_some h
      refine g_callG (q := 5) (p := []) (o := (best_5 : NL Int)) (r := (encO .sh (r_8 : NL Int))) (u := (encO (.at 21 []) (r_8 : NL Int))) (kk := 1000000053) [Enc.enc (r_3 : (S1 (List Int))), Enc.enc ([t14_6] : (List Int)), .bool true] rfl rfl rfl H.g53o toks_encS tag_encO ok_encP (gone_clear (s := s) (pk := [19, 21]) (t := 21) rfl) (by decide) (fun s_10 ha_10 => ⟨by exact (ta_cons (v := (.agg [(Enc.enc (r_3.a : List Int))])) (show s_10 17 = (.agg [(Enc.enc (r_3.a : List Int))]) from keep_app ha_10 rfl (map_agg (maps_cons (Enc.map_enc _ (r_3.a : List Int)) maps_nil))) rfl (Enc.erase_enc (r_3 : (S1 (List Int)))) (ta_cons (v := (encO (.at 19 []) (.of ([t14_6] : List Int)))) (show s_10 19 = (encO (.at 19 []) (.of ([t14_6] : List Int))) from keep_app ha_10 rfl (map_encO (r := 19) (p := []) rfl rfl)) rfl (erase_encO (o := .of [t14_6])) (ta_cons (v := (.bool true)) rfl rfl rfl ta_nil))), by exact (H.c53o _ _ _ _ E_r_8), ?_⟩)
      refine g_v (encO (.at 21 []) (r_8 : NL Int)) (ev_mov rfl ok_encO) ?_
      refine g_end ?_
      refine e_home (r := 21) (x := 5) (v := (encO (.at 21 []) (r_8 : NL Int))) (by exact rfl) ok_encO (fun s_11 hg_11 => ?_)
      refine e_end ?_
      refine renew [(2, (.sl .nl (Enc.shp Int) 0 [])), (3, (.bool false)), (4, (.ref (.bx 4) 0 [] (.agg [(Enc.enc (r_3.a : List Int))]))), (5, (encO (.at 5 []) (r_8 : NL Int))), (13, (.int .i64 g_1.1)), (14, (.int .i64 t14_6))] ⟨(hg_11 2 (.sl .nl (Enc.shp Int) 0 []) (.sl .nl (Enc.shp Int) 0 []) (show s_10 2 = (.sl .nl (Enc.shp Int) 0 []) from keep_app ha_10 (keep_clear (s := s) (pk := [19, 21]) h2 rfl rfl) rfl) rfl), (hg_11 3 (.bool false) (.bool false) (show s_10 3 = (.bool false) from keep_app ha_10 (keep_clear (s := s) (pk := [19, 21]) h3 rfl rfl) rfl) rfl), (hg_11 4 (.ref (.bx 4) 0 [] (.agg [(Enc.enc (r_3.a : List Int))])) (.ref (.bx 4) 0 [] (.agg [(Enc.enc (r_3.a : List Int))])) (show s_10 4 = (.ref (.bx 4) 0 [] (.agg [(Enc.enc (r_3.a : List Int))])) from keep_app ha_10 (keep_clear (s := s) (pk := [19, 21]) h4 rfl (map_bx rfl (map_agg (maps_cons (Enc.map_enc _ (r_3.a : List Int)) maps_nil)))) (map_bx rfl (map_agg (maps_cons (Enc.map_enc _ (r_3.a : List Int)) maps_nil)))) (map_bx rfl (map_agg (maps_cons (Enc.map_enc _ (r_3.a : List Int)) maps_nil)))), (hg_11 5 (encO (.at 21 []) (r_8 : NL Int)) (encO (.at 5 []) (r_8 : NL Int)) rfl (map_encO (r := 21) (p := []) rfl rfl)), (hg_11 13 (.int .i64 g_1.1) (.int .i64 g_1.1) (show s_10 13 = (.int .i64 g_1.1) from keep_app ha_10 (keep_clear (s := s) (pk := [19, 21]) h13 rfl rfl) rfl) rfl), (hg_11 14 (.int .i64 t14_6) (.int .i64 t14_6) (show s_10 14 = (.int .i64 t14_6) from keep_app ha_10 (keep_clear (s := s) (pk := [19, 21]) h14 rfl rfl) rfl) rfl)⟩ ?_
      rintro s ⟨h2, h3, h4, h5, h13, h14⟩
      refine .nbk ?_
      refine .nsq ?_
      refine run_reg ?_
      refine e_end ?_
      refine g_v1 (t := 14) (u := (.int .i64 t14_6)) (.int .i64 (w64 (t14_6 + 1))) h14 rfl rfl ?_
      refine g_v1 (t := 22) (u := (.int .i64 (w64 (t14_6 + 1)))) (.int .i64 (w64 (t14_6 + 1))) rfl rfl rfl ?_
      refine g_end ?_
      refine e_end ?_
      refine renew [(2, (.sl .nl (Enc.shp Int) 0 [])), (3, (.bool false)), (4, (.ref (.bx 4) 0 [] (.agg [(Enc.enc (r_3.a : List Int))]))), (5, (encO (.at 5 []) (r_8 : NL Int))), (13, (.int .i64 g_1.1)), (14, (.int .i64 (w64 (t14_6 + 1))))] ⟨h2, h3, h4, h5, h13, rfl⟩ ?_
      rintro s ⟨h2, h3, h4, h5, h13, h14⟩
      refine .nlp ?_
      exact ih r_8 (w64 (t14_6 + 1)) _ ⟨h2, h3, h4, h5, h13, h14⟩ h
    · refine .exit ?_
      refine .esq ?_
      refine .elp ?_
      refine .ebk ?_
      refine .nsq ?_
      refine .seq ?_
      refine run_reg ?_
      refine e_end ?_
      refine g_v (encO (.at 5 []) (best_5 : NL Int)) (ev_mov h5 ok_encO) ?_
      refine g_v (encO (.at 5 []) (best_5 : NL Int)) (ev_mov rfl ok_encO) ?_
      refine g_v0 (.bool true) rfl rfl ?_
      refine g_end ?_
      refine e_home (r := 5) (x := 2) (v := (encO (.at 5 []) (best_5 : NL Int))) (by exact rfl) ok_encO (fun s_12 hg_12 => ?_)
      refine e_end ?_
      refine renew [(2, (encO (.at 2 []) (best_5 : NL Int))), (3, (.bool true))] ⟨(hg_12 2 (encO (.at 5 []) (best_5 : NL Int)) (encO (.at 2 []) (best_5 : NL Int)) rfl (map_encO (r := 5) (p := []) rfl rfl)), (hg_12 3 (.bool true) (.bool true) rfl rfl)⟩ ?_
      rintro s ⟨h2, h3⟩
      refine .nsq ?_
      refine .ret ?_
      have hr := Option.some.inj h
      subst hr
      exact rrB (res_tmp h2) (res_tmp h3) (fin_retO (finO_tup (finOs_cons (finO_own (o := (best_5 : NL Int))) (finOs_cons finO_bool finOs_nil))) rfl (mine_tup (mines_cons (mine_own rfl) (mines_cons rfl mines_nil))))
def i_LongestPath_o (F : Nat) (g_1 : (Int × (List (Int × Int)))) : Option ((NL Int) × Bool) :=
  (i_IsGraph F g_1).bind fun r_2 =>
  bif (!r_2) then
    some (.nil, false)
  else
    (i_netOf F g_1).bind fun r_3 =>
    i_LongestPath_o_l1 F r_3 g_1 F .nil 0
theorem t18o (H : H18o D σ F) (g_1 : (Int × (List (Int × Int)))) (s : Nat → V) (hs : Facts [(0, (.agg [(.int .i64 g_1.1), (Enc.enc (g_1.2 : List (Int × Int)))]))] s) (h : i_LongestPath_o F g_1 = some r) : Run D σ (R18o r) (.run A18o []) s := by
  unfold i_LongestPath_o at h
  have h0 := hs
  refine .seq ?_
  refine run_reg ?_
  refine e_clr ?_
  refine e_end ?_
  refine g_box (.agg [(.int .i64 g_1.1), (Enc.enc (g_1.2 : List (Int × Int)))]) (rd_of (keep_clear (s := s) (pk := [1]) h0 rfl (map_agg (maps_cons rfl (maps_cons (Enc.map_enc _ (g_1.2 : List (Int × Int))) maps_nil)))) rfl) (gone_clear (s := s) (pk := [1]) (t := 1) rfl) rfl ?_
  refine g_v0 (.sl .nl (Enc.shp Int) 0 []) rfl rfl ?_
  refine g_v0 (.bool false) rfl rfl ?_
  refine g_end ?_
  refine e_end ?_
  refine renew [(1, (.ref (.bx 1) 0 [] (.agg [(.int .i64 g_1.1), (Enc.enc (g_1.2 : List (Int × Int)))]))), (2, (.sl .nl (Enc.shp Int) 0 [])), (3, (.bool false))] ⟨rfl, rfl, rfl⟩ ?_
  rintro s ⟨h1, h2, h3⟩
  refine .nsq ?_
  refine .seq ?_
  refine .seq ?_
  refine run_reg ?_
  refine e_end ?_
  refine g_v1 (t := 1) (u := (.ref (.bx 1) 0 [] (.agg [(.int .i64 g_1.1), (Enc.enc (g_1.2 : List (Int × Int)))]))) (.agg [(.int .i64 g_1.1), (Enc.enc (g_1.2 : List (Int × Int)))]) h1 rfl rfl ?_
  obtain ⟨r_2, E_r_2, h⟩ := bind_some h
  refine g_call (m := 0) (al := false) (r := (Enc.enc (r_2 : Bool))) [Enc.enc (g_1 : (Int × (List (Int × Int))))] (ta_cons (v := (.agg [(.int .i64 g_1.1), (Enc.enc (g_1.2 : List (Int × Int)))])) rfl rfl (Enc.erase_enc (g_1 : (Int × (List (Int × Int))))) ta_nil) (H.c51 _ _ E_r_2) H.g51 rfl rfl rfl rfl ?_
  refine g_v1 (t := 8) (u := (.bool r_2)) (.bool (!r_2)) rfl rfl rfl ?_
  refine g_end ?_
  refine e_end ?_
  refine renew [(1, (.ref (.bx 1) 0 [] (.agg [(.int .i64 g_1.1), (Enc.enc (g_1.2 : List (Int × Int)))]))), (2, (.sl .nl (Enc.shp Int) 0 [])), (3, (.bool false)), (9, (.bool (!r_2)))] ⟨h1, h2, h3, rfl⟩ ?_
  rintro s ⟨h1, h2, h3, h9⟩
  refine .nsq ?_
  refine run_cond (t := (!r_2)) h9 h (fun h => ?_) (fun h => ?_)
  · refine .seq ?_
    refine run_reg ?_
    refine e_end ?_
    refine g_v0 (.sl .nl (Enc.shp Int) 0 []) rfl rfl ?_
    refine g_v0 (.bool false) rfl rfl ?_
    refine g_end ?_
    refine e_end ?_
    refine renew [(1, (.ref (.bx 1) 0 [] (.agg [(.int .i64 g_1.1), (Enc.enc (g_1.2 : List (Int × Int)))]))), (2, (.sl .nl (Enc.shp Int) 0 [])), (3, (.bool false))] ⟨h1, rfl, rfl⟩ ?_
    rintro s ⟨h1, h2, h3⟩
    refine .nsq ?_
    refine .ret ?_
    have hr := Option.some.inj h
    subst hr
    exact rrB (res_tmp h2) (res_tmp h3) (fin_retO (finO_tup (finOs_cons (finO_nil (α := Int)) (finOs_cons finO_bool finOs_nil))) rfl (mine_tup (mines_cons mine_nil (mines_cons rfl mines_nil))))
  · refine .skip ?_
    refine .nsq ?_
    refine .seq ?_
    refine run_reg ?_
    refine e_clr ?_
    refine e_end ?_
    refine g_v1 (t := 1) (u := (.ref (.bx 1) 0 [] (.agg [(.int .i64 g_1.1), (Enc.enc (g_1.2 : List (Int × Int)))]))) (.agg [(.int .i64 g_1.1), (Enc.enc (g_1.2 : List (Int × Int)))]) (keep_clear (s := s) (pk := [4]) h1 rfl (map_bx rfl (map_agg (maps_cons rfl (maps_cons (Enc.map_enc _ (g_1.2 : List (Int × Int))) maps_nil))))) rfl rfl ?_
    obtain ⟨r_3, E_r_3, h⟩ := bind_some h
    refine g_call (m := 0) (al := false) (r := (Enc.enc (r_3 : (S1 (List Int))))) [Enc.enc (g_1 : (Int × (List (Int × Int))))] (ta_cons (v := (.agg [(.int .i64 g_1.1), (Enc.enc (g_1.2 : List (Int × Int)))])) rfl rfl (Enc.erase_enc (g_1 : (Int × (List (Int × Int))))) ta_nil) (H.c52 _ _ E_r_3) H.g52 rfl rfl rfl rfl ?_
    refine g_alloc (gone_clear (s := s) (pk := [4]) (t := 4) rfl) ?_
    refine g_store (.agg [(Enc.enc (r_3.a : List Int))]) (rd_of rfl rfl) (rd_of rfl rfl) (by refine ⟨by decide, by decide, rfl, rfl, rfl, ?_⟩; first | rfl | simp [V.toks, V.tokss, Enc.toks_enc]) ?_
    refine g_end ?_
    refine e_end ?_
    refine renew [(1, (.ref (.bx 1) 0 [] (.agg [(.int .i64 g_1.1), (Enc.enc (g_1.2 : List (Int × Int)))]))), (2, (.sl .nl (Enc.shp Int) 0 [])), (3, (.bool false)), (4, (.ref (.bx 4) 0 [] (.agg [(Enc.enc (r_3.a : List Int))])))] ⟨(keep_mut (keep_clear (s := s) (pk := [4]) h1 rfl (map_bx rfl (map_agg (maps_cons rfl (maps_cons (Enc.map_enc _ (g_1.2 : List (Int × Int))) maps_nil))))) (mut_ref_ne rfl rfl (mut_agg (muts_cons rfl (muts_cons (Enc.mut_enc _ _ _ _ (g_1.2 : List (Int × Int))) rfl))))), (keep_mut (keep_clear (s := s) (pk := [4]) h2 rfl rfl) rfl), (keep_mut (keep_clear (s := s) (pk := [4]) h3 rfl rfl) rfl), (keep_mut rfl rfl)⟩ ?_
    rintro s ⟨h1, h2, h3, h4⟩
    refine .nsq ?_
    refine .seq ?_
    refine run_reg ?_
    refine e_end ?_
    refine g_v0 (.sl .nl (Enc.shp Int) 0 []) rfl rfl ?_
    refine g_end ?_
    refine e_end ?_
    refine renew [(1, (.ref (.bx 1) 0 [] (.agg [(.int .i64 g_1.1), (Enc.enc (g_1.2 : List (Int × Int)))]))), (2, (.sl .nl (Enc.shp Int) 0 [])), (3, (.bool false)), (4, (.ref (.bx 4) 0 [] (.agg [(Enc.enc (r_3.a : List Int))]))), (5, (.sl .nl (Enc.shp Int) 0 []))] ⟨h1, h2, h3, h4, rfl⟩ ?_
    rintro s ⟨h1, h2, h3, h4, h5⟩
    refine .nsq ?_
    refine .seq ?_
    refine .seq ?_
    refine run_reg ?_
    refine e_end ?_
    refine g_v1 (t := 1) (u := (.ref (.bx 1) 0 [] (.agg [(.int .i64 g_1.1), (Enc.enc (g_1.2 : List (Int × Int)))]))) (.ref (.bx 1) 0 [0] (.int .i64 g_1.1)) h1 rfl rfl ?_
    refine g_v1 (t := 12) (u := (.ref (.bx 1) 0 [0] (.int .i64 g_1.1))) (.int .i64 g_1.1) rfl rfl rfl ?_
    refine g_v0 (.int .i64 0) rfl rfl ?_
    refine g_end ?_
    refine e_end ?_
    refine renew [(2, (.sl .nl (Enc.shp Int) 0 [])), (3, (.bool false)), (4, (.ref (.bx 4) 0 [] (.agg [(Enc.enc (r_3.a : List Int))]))), (5, (.sl .nl (Enc.shp Int) 0 [])), (13, (.int .i64 g_1.1)), (14, (.int .i64 0))] ⟨h2, h3, h4, h5, rfl, rfl⟩ ?_
    rintro s ⟨h2, h3, h4, h5, h13, h14⟩
    refine .nsq ?_
    refine .block ?_
    refine .loop ?_
    exact t_f18o_l1 H r_3 g_1 F .nil 0 _ ⟨h2, h3, h4, h5, h13, h14⟩ h
end
def e18o (F : Nat) : Ent := ⟨1000000018, da (fun (x : ((Int × (List (Int × Int))) × Unit)) => i_LongestPath_o F x.1) (fun (r : ((NL Int) × Bool)) => (.tup [(encO .sh (r.1 : NL Int)), (Enc.enc (r.2 : Bool))])), 1, false, selF []⟩
theorem p18o {F : Nat} {x0 : (Int × (List (Int × Int)))} {r : ((NL Int) × Bool)} (h : i_LongestPath_o F x0 = some r) : (e18o F).den [Enc.enc x0] = some (.tup [(encO .sh (r.1 : NL Int)), (Enc.enc (r.2 : Bool))]) := da_put (f := fun (x : ((Int × (List (Int × Int))) × Unit)) => i_LongestPath_o F x.1) (t := fun (r : ((NL Int) × Bool)) => (.tup [(encO .sh (r.1 : NL Int)), (Enc.enc (r.2 : Bool))])) (x0, ()) h
theorem o18o {D : Den} {σ : Sig} {F : Nat} (hF : Fits2 Try.prog D σ) (H : H18o D σ F) : (e18o F).Ok Try.prog := by
  refine ok_of (f := 18) (show unk 1000000018 = 18 from rfl) (fun args r h => ?_) ⟨Try.f18, Try.func18, rfl, rfl⟩
  obtain ⟨⟨x0, _⟩, y, rfl, hy, rfl⟩ := da_open h
  exact contract_run hF (by kernel_rfl) Try.func18 rfl c18o (show 1 ≤ Try.f18.ntmps by decide) (t18o H x0 _ rfl hy)
/- loop.example/g01109/laws.eqIntS -/
def A19_2 : AC := (AC.cond (O.t 14) AC.skip (AC.exit 0))
def A19_4 : AC := (AC.cond (O.t 25) (AC.seq (AC.reg [] [(I.mk (some 4) none false (X.v (A.mov (O.k (V.bool false)))))] []) AC.ret) AC.skip)
def A19_5 : AC := (AC.reg [] [(I.mk (some 15) none false (X.v (A.mov (O.t 5)))), (I.mk (some 16) none false (X.v (A.bin BinOp.add (O.t 15) (O.k (V.int IntKind.i64 (Int.ofNat 1)))))), (I.mk (some 5) none false (X.v (A.mov (O.t 16))))] [])
def A19_3 : AC := (AC.seq (AC.block 1 (AC.seq (AC.reg [] [(I.mk (some 17) none false (X.v (A.mov (O.t 0)))), (I.mk (some 18) none false (X.v (A.mov (O.t 5)))), (I.mk (some 19) none false (X.v (A.idx (O.t 17) (O.t 18) 1))), (I.mk (some 20) none false (X.v (A.load Sh.s (O.t 19)))), (I.mk (some 21) none false (X.v (A.mov (O.t 1)))), (I.mk (some 22) none false (X.v (A.mov (O.t 5)))), (I.mk (some 23) none false (X.v (A.idx (O.t 21) (O.t 22) 1))), (I.mk (some 24) none false (X.v (A.load Sh.s (O.t 23)))), (I.mk (some 25) none false (X.v (A.bin BinOp.neq (O.t 20) (O.t 24))))] []) A19_4)) A19_5)
def A19_1 : AC := (AC.seq (AC.seq (AC.reg [] [(I.mk (some 11) none false (X.v (A.mov (O.t 5)))), (I.mk (some 12) none false (X.v (A.mov (O.t 0)))), (I.mk (some 13) none false (X.v (A.len (O.t 12)))), (I.mk (some 14) none false (X.v (A.bin BinOp.lss (O.t 11) (O.t 13))))] []) A19_2) A19_3)
def A19_6 : AC := (AC.seq (AC.reg [] [(I.mk (some 4) none false (X.v (A.mov (O.k (V.bool true)))))] []) AC.ret)
def A19_8 : AC := (AC.cond (O.t 10) (AC.seq (AC.reg [] [(I.mk (some 4) none false (X.v (A.mov (O.k (V.bool false)))))] []) AC.ret) AC.skip)
def A19_10 : AC := (AC.block 0 (AC.loop A19_1))
def A19_9 : AC := (AC.seq (AC.seq (AC.reg [] [(I.mk (some 5) none false (X.v (A.mov (O.k (V.int IntKind.i64 (Int.ofNat 0))))))] []) A19_10) A19_6)
def A19_7 : AC := (AC.seq (AC.seq (AC.reg [] [(I.mk (some 6) none false (X.v (A.mov (O.t 0)))), (I.mk (some 7) none false (X.v (A.len (O.t 6)))), (I.mk (some 8) none false (X.v (A.mov (O.t 1)))), (I.mk (some 9) none false (X.v (A.len (O.t 8)))), (I.mk (some 10) none false (X.v (A.bin BinOp.neq (O.t 7) (O.t 9))))] []) A19_8) A19_9)
def A19 : AC := (AC.seq (AC.reg [] [(I.mk (some 4) none false (X.v (A.mov (O.k (V.bool false)))))] []) A19_7)
def an19 : List An := []
theorem c19 : cC Try.prog Try.f19.ntmps an19 (Try.f19.body.getD .skip) = some A19 := by kernel_rfl
structure H19 (D : Den) (σ : Sig) (F : Nat) : Prop where
  mk ::
abbrev R19 (r : Bool) : (Nat → V) → Prop := RR Try.prog [.tmp 4] 0 false (Enc.enc (r : Bool))
section
variable {D : Den} {σ : Sig} {F : Nat} {r : Bool}
def w_eqIntS_l1 (F : Nat) (a_1 : (List Int)) (b_2 : (List Int))  : Nat → Int → Option Bool
  | 0, _ => none
  | k + 1, i_5 =>
    bif decide (i_5 < (a_1.length : Int)) then
      (idx a_1 i_5).bind fun e_8 =>
      (idx b_2 i_5).bind fun e_9 =>
      bif (e_8 != e_9) then
        some false
      else
        (w_eqIntS_l1 F a_1 b_2 k) (w64 (i_5 + 1))
    else
      some true
theorem t_f19_l1 (H : H19 D σ F) (a_1 : (List Int)) (b_2 : (List Int))  : ∀ (k : Nat) (i_5 : Int) (s : Nat → V), Facts [(0, (Enc.enc (a_1 : List Int))), (1, (Enc.enc (b_2 : List Int))), (4, (.bool false)), (5, (.int .i64 i_5))] s → w_eqIntS_l1 F a_1 b_2 k i_5 = some r → Run D σ (R19 r) (.run A19_1 [.lp A19_1, .bk 0, .sq A19_6]) s := by
  intro k
  induction k with
  | zero => intro i_5 s _ h; exact nomatch (h : (none : Option _) = some r)
  | succ k ih =>
    intro i_5 s hs h
    rw [w_eqIntS_l1] at h
    obtain ⟨h0, h1, h4, h5⟩ := hs
    refine .seq ?_
    refine .seq ?_
    refine run_reg ?_
    refine e_end ?_
    refine g_v1 (t := 5) (u := (.int .i64 i_5)) (.int .i64 i_5) h5 rfl rfl ?_
    refine g_v1 (t := 0) (u := (Enc.enc (a_1 : List Int))) (Enc.enc (a_1 : List Int)) h0 rfl rfl ?_
    refine g_v (.int .i64 (a_1.length : Int)) (ev_len (xs := a_1) rfl) ?_
    refine g_v2 (t1 := 11) (t2 := 13) (u1 := (.int .i64 i_5)) (u2 := (.int .i64 (a_1.length : Int))) (.bool (decide (i_5 < (a_1.length : Int)))) rfl rfl rfl rfl ?_
    refine g_end ?_
    refine e_end ?_
    refine renew [(0, (Enc.enc (a_1 : List Int))), (1, (Enc.enc (b_2 : List Int))), (4, (.bool false)), (5, (.int .i64 i_5)), (14, (.bool (decide (i_5 < (a_1.length : Int)))))] ⟨h0, h1, h4, h5, rfl⟩ ?_
    rintro s ⟨h0, h1, h4, h5, h14⟩
    refine .nsq ?_
    refine run_cond (t := decide (i_5 < (a_1.length : Int))) h14 h (fun h => ?_) (fun h => ?_)
    · refine .skip ?_
      refine .nsq ?_
      refine .seq ?_
      refine .block ?_
      refine .seq ?_
      refine run_reg ?_
      refine e_end ?_
      refine g_v1 (t := 0) (u := (Enc.enc (a_1 : List Int))) (Enc.enc (a_1 : List Int)) h0 rfl rfl ?_
      refine g_v1 (t := 5) (u := (.int .i64 i_5)) (.int .i64 i_5) h5 rfl rfl ?_
      obtain ⟨e_8, E_e_8, h⟩ := bind_some h
      refine g_v (.ref .sh 0 [] (.int .i64 e_8)) (ev_idx (t := .sh) (lo := 0) (xs := a_1) rfl rfl E_e_8 rfl rfl) ?_
      refine g_v1 (t := 19) (u := (.ref .sh 0 [] (.int .i64 e_8))) (.int .i64 e_8) rfl rfl rfl ?_
      refine g_v1 (t := 1) (u := (Enc.enc (b_2 : List Int))) (Enc.enc (b_2 : List Int)) h1 rfl rfl ?_
      refine g_v1 (t := 5) (u := (.int .i64 i_5)) (.int .i64 i_5) h5 rfl rfl ?_
      obtain ⟨e_9, E_e_9, h⟩ := bind_some h
      refine g_v (.ref .sh 0 [] (.int .i64 e_9)) (ev_idx (t := .sh) (lo := 0) (xs := b_2) rfl rfl E_e_9 rfl rfl) ?_
      refine g_v1 (t := 23) (u := (.ref .sh 0 [] (.int .i64 e_9))) (.int .i64 e_9) rfl rfl rfl ?_
      refine g_v2 (t1 := 20) (t2 := 24) (u1 := (.int .i64 e_8)) (u2 := (.int .i64 e_9)) (.bool (e_8 != e_9)) rfl rfl rfl rfl ?_
      refine g_end ?_
      refine e_end ?_
      refine renew [(0, (Enc.enc (a_1 : List Int))), (1, (Enc.enc (b_2 : List Int))), (4, (.bool false)), (5, (.int .i64 i_5)), (25, (.bool (e_8 != e_9)))] ⟨h0, h1, h4, h5, rfl⟩ ?_
      rintro s ⟨h0, h1, h4, h5, h25⟩
      refine .nsq ?_
      refine run_cond (t := (e_8 != e_9)) h25 h (fun h => ?_) (fun h => ?_)
      · refine .seq ?_
        refine run_reg ?_
        refine e_end ?_
        refine g_v0 (.bool false) rfl rfl ?_
        refine g_end ?_
        refine e_end ?_
        refine renew [(0, (Enc.enc (a_1 : List Int))), (1, (Enc.enc (b_2 : List Int))), (4, (.bool false)), (5, (.int .i64 i_5))] ⟨h0, h1, rfl, h5⟩ ?_
        rintro s ⟨h0, h1, h4, h5⟩
        refine .nsq ?_
        refine .ret ?_
        have hr := Option.some.inj h
        subst hr
        exact rrA (res_tmp h4) rfl
      · refine .skip ?_
        refine .nbk ?_
        refine .nsq ?_
        refine run_reg ?_
        refine e_end ?_
        refine g_v1 (t := 5) (u := (.int .i64 i_5)) (.int .i64 i_5) h5 rfl rfl ?_
        refine g_v1 (t := 15) (u := (.int .i64 i_5)) (.int .i64 (w64 (i_5 + 1))) rfl rfl rfl ?_
        refine g_v1 (t := 16) (u := (.int .i64 (w64 (i_5 + 1)))) (.int .i64 (w64 (i_5 + 1))) rfl rfl rfl ?_
        refine g_end ?_
        refine e_end ?_
        refine renew [(0, (Enc.enc (a_1 : List Int))), (1, (Enc.enc (b_2 : List Int))), (4, (.bool false)), (5, (.int .i64 (w64 (i_5 + 1))))] ⟨h0, h1, h4, rfl⟩ ?_
        rintro s ⟨h0, h1, h4, h5⟩
        refine .nlp ?_
        exact ih (w64 (i_5 + 1)) _ ⟨h0, h1, h4, h5⟩ h
    · refine .exit ?_
      refine .esq ?_
      refine .elp ?_
      refine .ebk ?_
      refine .nsq ?_
      refine .seq ?_
      refine run_reg ?_
      refine e_end ?_
      refine g_v0 (.bool true) rfl rfl ?_
      refine g_end ?_
      refine e_end ?_
      refine renew [(4, (.bool true))] rfl ?_
      rintro s h4
      refine .nsq ?_
      refine .ret ?_
      have hr := Option.some.inj h
      subst hr
      exact rrA (res_tmp h4) rfl
def w_eqIntS (F : Nat) (a_1 : (List Int)) (b_2 : (List Int)) : Option Bool :=
  bif ((a_1.length : Int) != (b_2.length : Int)) then
    some false
  else
    w_eqIntS_l1 F a_1 b_2 F 0
theorem t19 (H : H19 D σ F) (a_1 : (List Int)) (b_2 : (List Int)) (s : Nat → V) (hs : Facts [(0, (Enc.enc (a_1 : List Int))), (1, (Enc.enc (b_2 : List Int)))] s) (h : w_eqIntS F a_1 b_2 = some r) : Run D σ (R19 r) (.run A19 []) s := by
  unfold w_eqIntS at h
  obtain ⟨h0, h1⟩ := hs
  refine .seq ?_
  refine run_reg ?_
  refine e_end ?_
  refine g_v0 (.bool false) rfl rfl ?_
  refine g_end ?_
  refine e_end ?_
  refine renew [(0, (Enc.enc (a_1 : List Int))), (1, (Enc.enc (b_2 : List Int))), (4, (.bool false))] ⟨h0, h1, rfl⟩ ?_
  rintro s ⟨h0, h1, h4⟩
  refine .nsq ?_
  refine .seq ?_
  refine .seq ?_
  refine run_reg ?_
  refine e_end ?_
  refine g_v1 (t := 0) (u := (Enc.enc (a_1 : List Int))) (Enc.enc (a_1 : List Int)) h0 rfl rfl ?_
  refine g_v (.int .i64 (a_1.length : Int)) (ev_len (xs := a_1) rfl) ?_
  refine g_v1 (t := 1) (u := (Enc.enc (b_2 : List Int))) (Enc.enc (b_2 : List Int)) h1 rfl rfl ?_
  refine g_v (.int .i64 (b_2.length : Int)) (ev_len (xs := b_2) rfl) ?_
  refine g_v2 (t1 := 7) (t2 := 9) (u1 := (.int .i64 (a_1.length : Int))) (u2 := (.int .i64 (b_2.length : Int))) (.bool ((a_1.length : Int) != (b_2.length : Int))) rfl rfl rfl rfl ?_
  refine g_end ?_
  refine e_end ?_
  refine renew [(0, (Enc.enc (a_1 : List Int))), (1, (Enc.enc (b_2 : List Int))), (4, (.bool false)), (10, (.bool ((a_1.length : Int) != (b_2.length : Int))))] ⟨h0, h1, h4, rfl⟩ ?_
  rintro s ⟨h0, h1, h4, h10⟩
  refine .nsq ?_
  refine run_cond (t := ((a_1.length : Int) != (b_2.length : Int))) h10 h (fun h => ?_) (fun h => ?_)
  · refine .seq ?_
    refine run_reg ?_
    refine e_end ?_
    refine g_v0 (.bool false) rfl rfl ?_
    refine g_end ?_
    refine e_end ?_
    refine renew [(0, (Enc.enc (a_1 : List Int))), (1, (Enc.enc (b_2 : List Int))), (4, (.bool false))] ⟨h0, h1, rfl⟩ ?_
    rintro s ⟨h0, h1, h4⟩
    refine .nsq ?_
    refine .ret ?_
    have hr := Option.some.inj h
    subst hr
    exact rrA (res_tmp h4) rfl
  · refine .skip ?_
    refine .nsq ?_
    refine .seq ?_
    refine .seq ?_
    refine run_reg ?_
    refine e_end ?_
    refine g_v0 (.int .i64 0) rfl rfl ?_
    refine g_end ?_
    refine e_end ?_
    refine renew [(0, (Enc.enc (a_1 : List Int))), (1, (Enc.enc (b_2 : List Int))), (4, (.bool false)), (5, (.int .i64 0))] ⟨h0, h1, h4, rfl⟩ ?_
    rintro s ⟨h0, h1, h4, h5⟩
    refine .nsq ?_
    refine .block ?_
    refine .loop ?_
    exact t_f19_l1 H a_1 b_2 F 0 _ ⟨h0, h1, h4, h5⟩ h
end
def e19 (F : Nat) : Ent := ⟨19, da (fun (x : ((List Int) × (List Int) × Unit)) => w_eqIntS F x.1 x.2.1) (fun (r : Bool) => (Enc.enc (r : Bool))), 0, false, selF []⟩
theorem p19 {F : Nat} {x0 : (List Int)} {x1 : (List Int)} {r : Bool} (h : w_eqIntS F x0 x1 = some r) : (e19 F).den [Enc.enc x0, Enc.enc x1] = some (Enc.enc (r : Bool)) := da_put (f := fun (x : ((List Int) × (List Int) × Unit)) => w_eqIntS F x.1 x.2.1) (t := fun (r : Bool) => (Enc.enc (r : Bool))) (x0, x1, ()) h
theorem o19 {D : Den} {σ : Sig} {F : Nat} (hF : Fits2 Try.prog D σ) (H : H19 D σ F) : (e19 F).Ok Try.prog := by
  refine ok_of (f := 19) (show unk 19 = 19 from rfl) (fun args r h => ?_) ⟨Try.f19, Try.func19, rfl, rfl⟩
  obtain ⟨⟨x0, x1, _⟩, y, rfl, hy, rfl⟩ := da_open h
  exact contract_run hF (by kernel_rfl) Try.func19 rfl c19 (show 2 ≤ Try.f19.ntmps by decide) (t19 H x0 x1 _ ⟨rfl, rfl⟩ hy)
/- loop.example/g01109/laws.eqIntA2 -/
def A103_2 : AC := (AC.cond (O.t 7) AC.skip (AC.exit 0))
def A103_4 : AC := (AC.cond (O.t 16) (AC.seq (AC.reg [] [(I.mk (some 4) none false (X.v (A.mov (O.k (V.bool false)))))] []) AC.ret) AC.skip)
def A103_5 : AC := (AC.reg [] [(I.mk (some 8) none false (X.v (A.mov (O.t 5)))), (I.mk (some 9) none false (X.v (A.bin BinOp.add (O.t 8) (O.k (V.int IntKind.i64 (Int.ofNat 1)))))), (I.mk (some 5) none false (X.v (A.mov (O.t 9))))] [])
def A103_3 : AC := (AC.seq (AC.block 1 (AC.seq (AC.reg [] [(I.mk (some 10) none false (X.v (A.mov (O.t 5)))), (I.mk (some 11) none false (X.v (A.idxA (O.t 2) (O.t 10) 2 1))), (I.mk (some 12) none false (X.v (A.load Sh.s (O.t 11)))), (I.mk (some 13) none false (X.v (A.mov (O.t 5)))), (I.mk (some 14) none false (X.v (A.idxA (O.t 3) (O.t 13) 2 1))), (I.mk (some 15) none false (X.v (A.load Sh.s (O.t 14)))), (I.mk (some 16) none false (X.v (A.bin BinOp.neq (O.t 12) (O.t 15))))] []) A103_4)) A103_5)
def A103_1 : AC := (AC.seq (AC.seq (AC.reg [] [(I.mk (some 6) none false (X.v (A.mov (O.t 5)))), (I.mk (some 7) none false (X.v (A.bin BinOp.lss (O.t 6) (O.k (V.int IntKind.i64 (Int.ofNat 2))))))] []) A103_2) A103_3)
def A103_6 : AC := (AC.seq (AC.reg [] [(I.mk (some 4) none false (X.v (A.mov (O.k (V.bool true)))))] []) AC.ret)
def A103_8 : AC := (AC.block 0 (AC.loop A103_1))
def A103_7 : AC := (AC.seq (AC.seq (AC.reg [] [(I.mk (some 5) none false (X.v (A.mov (O.k (V.int IntKind.i64 (Int.ofNat 0))))))] []) A103_8) A103_6)
def A103 : AC := (AC.seq (AC.reg [.clr [2, 3]] [(I.mk (some 2) none false (X.box (O.t 0))), (I.mk (some 3) none false (X.box (O.t 1))), (I.mk (some 4) none false (X.v (A.mov (O.k (V.bool false)))))] []) A103_7)
def an103 : List An := [{ id := 0, pre := [.clr [2, 3]], ep := [], lin := [], sp := [] }]
theorem c103 : cC Try.prog Try.f103.ntmps an103 (Try.f103.body.getD .skip) = some A103 := by kernel_rfl
structure H103 (D : Den) (σ : Sig) (F : Nat) : Prop where
  mk ::
abbrev R103 (r : Bool) : (Nat → V) → Prop := RR Try.prog [.tmp 4] 0 false (Enc.enc (r : Bool))
section
variable {D : Den} {σ : Sig} {F : Nat} {r : Bool}
def w_eqIntA2_l1 (F : Nat) (a_1 : (Int × Int)) (b_2 : (Int × Int))  : Nat → Int → Option Bool
  | 0, _ => none
  | k + 1, i_3 =>
    bif decide (i_3 < 2) then
      (idx [a_1.1, a_1.2] i_3).bind fun e_6 =>
      (idx [b_2.1, b_2.2] i_3).bind fun e_7 =>
      bif (e_6 != e_7) then
        some false
      else
        (w_eqIntA2_l1 F a_1 b_2 k) (w64 (i_3 + 1))
    else
      some true
theorem t_f103_l1 (H : H103 D σ F) (a_1 : (Int × Int)) (b_2 : (Int × Int))  : ∀ (k : Nat) (i_3 : Int) (s : Nat → V), Facts [(2, (.ref (.bx 2) 0 [] (.agg [(.int .i64 a_1.1), (.int .i64 a_1.2)]))), (3, (.ref (.bx 3) 0 [] (.agg [(.int .i64 b_2.1), (.int .i64 b_2.2)]))), (4, (.bool false)), (5, (.int .i64 i_3))] s → w_eqIntA2_l1 F a_1 b_2 k i_3 = some r → Run D σ (R103 r) (.run A103_1 [.lp A103_1, .bk 0, .sq A103_6]) s := by
  intro k
  induction k with
  | zero => intro i_3 s _ h; exact nomatch (h : (none : Option _) = some r)
  | succ k ih =>
    intro i_3 s hs h
    rw [w_eqIntA2_l1] at h
    obtain ⟨h2, h3, h4, h5⟩ := hs
    refine .seq ?_
    refine .seq ?_
    refine run_reg ?_
    refine e_end ?_
    refine g_v1 (t := 5) (u := (.int .i64 i_3)) (.int .i64 i_3) h5 rfl rfl ?_
    refine g_v1 (t := 6) (u := (.int .i64 i_3)) (.bool (decide (i_3 < 2))) rfl rfl rfl ?_
    refine g_end ?_
    refine e_end ?_
    refine renew [(2, (.ref (.bx 2) 0 [] (.agg [(.int .i64 a_1.1), (.int .i64 a_1.2)]))), (3, (.ref (.bx 3) 0 [] (.agg [(.int .i64 b_2.1), (.int .i64 b_2.2)]))), (4, (.bool false)), (5, (.int .i64 i_3)), (7, (.bool (decide (i_3 < 2))))] ⟨h2, h3, h4, h5, rfl⟩ ?_
    rintro s ⟨h2, h3, h4, h5, h7⟩
    refine .nsq ?_
    refine run_cond (t := decide (i_3 < 2)) h7 h (fun h => ?_) (fun h => ?_)
    · refine .skip ?_
      refine .nsq ?_
      refine .seq ?_
      refine .block ?_
      refine .seq ?_
      refine run_reg ?_
      refine e_end ?_
      refine g_v1 (t := 5) (u := (.int .i64 i_3)) (.int .i64 i_3) h5 rfl rfl ?_
      obtain ⟨e_6, E_e_6, h⟩ := bind_some h
      refine g_v (.ref (.bx 2) 0 [i_3.toNat] (.int .i64 e_6)) (ev_idxA (xs := [a_1.1, a_1.2]) (a := e_6) (n := i_3) (q := []) h2 rfl E_e_6 rfl rfl rfl) ?_
      refine g_v1 (t := 11) (u := (.ref (.bx 2) 0 [i_3.toNat] (.int .i64 e_6))) (.int .i64 e_6) rfl rfl rfl ?_
      refine g_v1 (t := 5) (u := (.int .i64 i_3)) (.int .i64 i_3) h5 rfl rfl ?_
      obtain ⟨e_7, E_e_7, h⟩ := bind_some h
      refine g_v (.ref (.bx 3) 0 [i_3.toNat] (.int .i64 e_7)) (ev_idxA (xs := [b_2.1, b_2.2]) (a := e_7) (n := i_3) (q := []) h3 rfl E_e_7 rfl rfl rfl) ?_
      refine g_v1 (t := 14) (u := (.ref (.bx 3) 0 [i_3.toNat] (.int .i64 e_7))) (.int .i64 e_7) rfl rfl rfl ?_
      refine g_v2 (t1 := 12) (t2 := 15) (u1 := (.int .i64 e_6)) (u2 := (.int .i64 e_7)) (.bool (e_6 != e_7)) rfl rfl rfl rfl ?_
      refine g_end ?_
      refine e_end ?_
      refine renew [(2, (.ref (.bx 2) 0 [] (.agg [(.int .i64 a_1.1), (.int .i64 a_1.2)]))), (3, (.ref (.bx 3) 0 [] (.agg [(.int .i64 b_2.1), (.int .i64 b_2.2)]))), (4, (.bool false)), (5, (.int .i64 i_3)), (16, (.bool (e_6 != e_7)))] ⟨h2, h3, h4, h5, rfl⟩ ?_
      rintro s ⟨h2, h3, h4, h5, h16⟩
      refine .nsq ?_
      refine run_cond (t := (e_6 != e_7)) h16 h (fun h => ?_) (fun h => ?_)
      · refine .seq ?_
        refine run_reg ?_
        refine e_end ?_
        refine g_v0 (.bool false) rfl rfl ?_
        refine g_end ?_
        refine e_end ?_
        refine renew [(2, (.ref (.bx 2) 0 [] (.agg [(.int .i64 a_1.1), (.int .i64 a_1.2)]))), (3, (.ref (.bx 3) 0 [] (.agg [(.int .i64 b_2.1), (.int .i64 b_2.2)]))), (4, (.bool false)), (5, (.int .i64 i_3))] ⟨h2, h3, rfl, h5⟩ ?_
        rintro s ⟨h2, h3, h4, h5⟩
        refine .nsq ?_
        refine .ret ?_
        have hr := Option.some.inj h
        subst hr
        exact rrA (res_tmp h4) rfl
      · refine .skip ?_
        refine .nbk ?_
        refine .nsq ?_
        refine run_reg ?_
        refine e_end ?_
        refine g_v1 (t := 5) (u := (.int .i64 i_3)) (.int .i64 i_3) h5 rfl rfl ?_
        refine g_v1 (t := 8) (u := (.int .i64 i_3)) (.int .i64 (w64 (i_3 + 1))) rfl rfl rfl ?_
        refine g_v1 (t := 9) (u := (.int .i64 (w64 (i_3 + 1)))) (.int .i64 (w64 (i_3 + 1))) rfl rfl rfl ?_
        refine g_end ?_
        refine e_end ?_
        refine renew [(2, (.ref (.bx 2) 0 [] (.agg [(.int .i64 a_1.1), (.int .i64 a_1.2)]))), (3, (.ref (.bx 3) 0 [] (.agg [(.int .i64 b_2.1), (.int .i64 b_2.2)]))), (4, (.bool false)), (5, (.int .i64 (w64 (i_3 + 1))))] ⟨h2, h3, h4, rfl⟩ ?_
        rintro s ⟨h2, h3, h4, h5⟩
        refine .nlp ?_
        exact ih (w64 (i_3 + 1)) _ ⟨h2, h3, h4, h5⟩ h
    · refine .exit ?_
      refine .esq ?_
      refine .elp ?_
      refine .ebk ?_
      refine .nsq ?_
      refine .seq ?_
      refine run_reg ?_
      refine e_end ?_
      refine g_v0 (.bool true) rfl rfl ?_
      refine g_end ?_
      refine e_end ?_
      refine renew [(4, (.bool true))] rfl ?_
      rintro s h4
      refine .nsq ?_
      refine .ret ?_
      have hr := Option.some.inj h
      subst hr
      exact rrA (res_tmp h4) rfl
def w_eqIntA2 (F : Nat) (a_1 : (Int × Int)) (b_2 : (Int × Int)) : Option Bool :=
  w_eqIntA2_l1 F a_1 b_2 F 0
theorem t103 (H : H103 D σ F) (a_1 : (Int × Int)) (b_2 : (Int × Int)) (s : Nat → V) (hs : Facts [(0, (.agg [(.int .i64 a_1.1), (.int .i64 a_1.2)])), (1, (.agg [(.int .i64 b_2.1), (.int .i64 b_2.2)]))] s) (h : w_eqIntA2 F a_1 b_2 = some r) : Run D σ (R103 r) (.run A103 []) s := by
  unfold w_eqIntA2 at h
  obtain ⟨h0, h1⟩ := hs
  refine .seq ?_
  refine run_reg ?_
  refine e_clr ?_
  refine e_end ?_
  refine g_box (.agg [(.int .i64 a_1.1), (.int .i64 a_1.2)]) (rd_of (keep_clear (s := s) (pk := [2, 3]) h0 rfl (map_agg (maps_cons rfl (maps_cons rfl maps_nil)))) rfl) (gone_clear (s := s) (pk := [2, 3]) (t := 2) rfl) rfl ?_
  refine g_box (.agg [(.int .i64 b_2.1), (.int .i64 b_2.2)]) (rd_of (keep_clear (s := s) (pk := [2, 3]) h1 rfl (map_agg (maps_cons rfl (maps_cons rfl maps_nil)))) rfl) (gone_clear (s := s) (pk := [2, 3]) (t := 3) rfl) rfl ?_
  refine g_v0 (.bool false) rfl rfl ?_
  refine g_end ?_
  refine e_end ?_
  refine renew [(2, (.ref (.bx 2) 0 [] (.agg [(.int .i64 a_1.1), (.int .i64 a_1.2)]))), (3, (.ref (.bx 3) 0 [] (.agg [(.int .i64 b_2.1), (.int .i64 b_2.2)]))), (4, (.bool false))] ⟨rfl, rfl, rfl⟩ ?_
  rintro s ⟨h2, h3, h4⟩
  refine .nsq ?_
  refine .seq ?_
  refine .seq ?_
  refine run_reg ?_
  refine e_end ?_
  refine g_v0 (.int .i64 0) rfl rfl ?_
  refine g_end ?_
  refine e_end ?_
  refine renew [(2, (.ref (.bx 2) 0 [] (.agg [(.int .i64 a_1.1), (.int .i64 a_1.2)]))), (3, (.ref (.bx 3) 0 [] (.agg [(.int .i64 b_2.1), (.int .i64 b_2.2)]))), (4, (.bool false)), (5, (.int .i64 0))] ⟨h2, h3, h4, rfl⟩ ?_
  rintro s ⟨h2, h3, h4, h5⟩
  refine .nsq ?_
  refine .block ?_
  refine .loop ?_
  exact t_f103_l1 H a_1 b_2 F 0 _ ⟨h2, h3, h4, h5⟩ h
end
def e103 (F : Nat) : Ent := ⟨103, da (fun (x : ((Int × Int) × (Int × Int) × Unit)) => w_eqIntA2 F x.1 x.2.1) (fun (r : Bool) => (Enc.enc (r : Bool))), 0, false, selF []⟩
theorem p103 {F : Nat} {x0 : (Int × Int)} {x1 : (Int × Int)} {r : Bool} (h : w_eqIntA2 F x0 x1 = some r) : (e103 F).den [Enc.enc x0, Enc.enc x1] = some (Enc.enc (r : Bool)) := da_put (f := fun (x : ((Int × Int) × (Int × Int) × Unit)) => w_eqIntA2 F x.1 x.2.1) (t := fun (r : Bool) => (Enc.enc (r : Bool))) (x0, x1, ()) h
theorem o103 {D : Den} {σ : Sig} {F : Nat} (hF : Fits2 Try.prog D σ) (H : H103 D σ F) : (e103 F).Ok Try.prog := by
  refine ok_of (f := 103) (show unk 103 = 103 from rfl) (fun args r h => ?_) ⟨Try.f103, Try.func103, rfl, rfl⟩
  obtain ⟨⟨x0, x1, _⟩, y, rfl, hy, rfl⟩ := da_open h
  exact contract_run hF (by kernel_rfl) Try.func103 rfl c103 (show 2 ≤ Try.f103.ntmps by decide) (t103 H x0 x1 _ ⟨rfl, rfl⟩ hy)
/- loop.example/g01109/laws.eqIntA2S -/
def A54_2 : AC := (AC.cond (O.t 14) AC.skip (AC.exit 0))
def A54_4 : AC := (AC.cond (O.t 26) (AC.seq (AC.reg [] [(I.mk (some 4) none false (X.v (A.mov (O.k (V.bool false)))))] []) AC.ret) AC.skip)
def A54_5 : AC := (AC.reg [] [(I.mk (some 15) none false (X.v (A.mov (O.t 5)))), (I.mk (some 16) none false (X.v (A.bin BinOp.add (O.t 15) (O.k (V.int IntKind.i64 (Int.ofNat 1)))))), (I.mk (some 5) none false (X.v (A.mov (O.t 16))))] [])
def A54_3 : AC := (AC.seq (AC.block 1 (AC.seq (AC.reg [] [(I.mk (some 17) none false (X.v (A.mov (O.t 0)))), (I.mk (some 18) none false (X.v (A.mov (O.t 5)))), (I.mk (some 19) none false (X.v (A.idx (O.t 17) (O.t 18) 2))), (I.mk (some 20) none false (X.v (A.load (Sh.ag [Sh.s, Sh.s]) (O.t 19)))), (I.mk (some 21) none false (X.v (A.mov (O.t 1)))), (I.mk (some 22) none false (X.v (A.mov (O.t 5)))), (I.mk (some 23) none false (X.v (A.idx (O.t 21) (O.t 22) 2))), (I.mk (some 24) none false (X.v (A.load (Sh.ag [Sh.s, Sh.s]) (O.t 23)))), (I.mk (some 25) none false (X.call (O.k (V.fn 103 [] [])) [(O.t 20), (O.t 24)])), (I.mk (some 26) none false (X.v (A.un UnOp.not (O.t 25))))] []) A54_4)) A54_5)
def A54_1 : AC := (AC.seq (AC.seq (AC.reg [] [(I.mk (some 11) none false (X.v (A.mov (O.t 5)))), (I.mk (some 12) none false (X.v (A.mov (O.t 0)))), (I.mk (some 13) none false (X.v (A.len (O.t 12)))), (I.mk (some 14) none false (X.v (A.bin BinOp.lss (O.t 11) (O.t 13))))] []) A54_2) A54_3)
def A54_6 : AC := (AC.seq (AC.reg [] [(I.mk (some 4) none false (X.v (A.mov (O.k (V.bool true)))))] []) AC.ret)
def A54_8 : AC := (AC.cond (O.t 10) (AC.seq (AC.reg [] [(I.mk (some 4) none false (X.v (A.mov (O.k (V.bool false)))))] []) AC.ret) AC.skip)
def A54_10 : AC := (AC.block 0 (AC.loop A54_1))
def A54_9 : AC := (AC.seq (AC.seq (AC.reg [] [(I.mk (some 5) none false (X.v (A.mov (O.k (V.int IntKind.i64 (Int.ofNat 0))))))] []) A54_10) A54_6)
def A54_7 : AC := (AC.seq (AC.seq (AC.reg [] [(I.mk (some 6) none false (X.v (A.mov (O.t 0)))), (I.mk (some 7) none false (X.v (A.len (O.t 6)))), (I.mk (some 8) none false (X.v (A.mov (O.t 1)))), (I.mk (some 9) none false (X.v (A.len (O.t 8)))), (I.mk (some 10) none false (X.v (A.bin BinOp.neq (O.t 7) (O.t 9))))] []) A54_8) A54_9)
def A54 : AC := (AC.seq (AC.reg [] [(I.mk (some 4) none false (X.v (A.mov (O.k (V.bool false)))))] []) A54_7)
def an54 : List An := []
theorem c54 : cC Try.prog Try.f54.ntmps an54 (Try.f54.body.getD .skip) = some A54 := by kernel_rfl
structure H54 (D : Den) (σ : Sig) (F : Nat) : Prop where
  c103 : ∀ (x0 : (Int × Int)) (x1 : (Int × Int)) r, w_eqIntA2 F x0 x1 = some r → D 103 [Enc.enc x0, Enc.enc x1] = some (Enc.enc (r : Bool))
  g103 : σ 103 = some (0, false)
abbrev R54 (r : Bool) : (Nat → V) → Prop := RR Try.prog [.tmp 4] 0 false (Enc.enc (r : Bool))
section
variable {D : Den} {σ : Sig} {F : Nat} {r : Bool}
def w_eqIntA2S_l1 (F : Nat) (a_1 : (List (Int × Int))) (b_2 : (List (Int × Int)))  : Nat → Int → Option Bool
  | 0, _ => none
  | k + 1, i_6 =>
    bif decide (i_6 < (a_1.length : Int)) then
      (idx a_1 i_6).bind fun e_10 =>
      (idx b_2 i_6).bind fun e_11 =>
      (w_eqIntA2 F e_10 e_11).bind fun r_12 =>
      bif (!r_12) then
        some false
      else
        (w_eqIntA2S_l1 F a_1 b_2 k) (w64 (i_6 + 1))
    else
      some true
theorem t_f54_l1 (H : H54 D σ F) (a_1 : (List (Int × Int))) (b_2 : (List (Int × Int)))  : ∀ (k : Nat) (i_6 : Int) (s : Nat → V), Facts [(0, (Enc.enc (a_1 : List (Int × Int)))), (1, (Enc.enc (b_2 : List (Int × Int)))), (4, (.bool false)), (5, (.int .i64 i_6))] s → w_eqIntA2S_l1 F a_1 b_2 k i_6 = some r → Run D σ (R54 r) (.run A54_1 [.lp A54_1, .bk 0, .sq A54_6]) s := by
  intro k
  induction k with
  | zero => intro i_6 s _ h; exact nomatch (h : (none : Option _) = some r)
  | succ k ih =>
    intro i_6 s hs h
    rw [w_eqIntA2S_l1] at h
    obtain ⟨h0, h1, h4, h5⟩ := hs
    refine .seq ?_
    refine .seq ?_
    refine run_reg ?_
    refine e_end ?_
    refine g_v1 (t := 5) (u := (.int .i64 i_6)) (.int .i64 i_6) h5 rfl rfl ?_
    refine g_v1 (t := 0) (u := (Enc.enc (a_1 : List (Int × Int)))) (Enc.enc (a_1 : List (Int × Int))) h0 rfl rfl ?_
    refine g_v (.int .i64 (a_1.length : Int)) (ev_len (xs := a_1) rfl) ?_
    refine g_v2 (t1 := 11) (t2 := 13) (u1 := (.int .i64 i_6)) (u2 := (.int .i64 (a_1.length : Int))) (.bool (decide (i_6 < (a_1.length : Int)))) rfl rfl rfl rfl ?_
    refine g_end ?_
    refine e_end ?_
    refine renew [(0, (Enc.enc (a_1 : List (Int × Int)))), (1, (Enc.enc (b_2 : List (Int × Int)))), (4, (.bool false)), (5, (.int .i64 i_6)), (14, (.bool (decide (i_6 < (a_1.length : Int)))))] ⟨h0, h1, h4, h5, rfl⟩ ?_
    rintro s ⟨h0, h1, h4, h5, h14⟩
    refine .nsq ?_
    refine run_cond (t := decide (i_6 < (a_1.length : Int))) h14 h (fun h => ?_) (fun h => ?_)
    · refine .skip ?_
      refine .nsq ?_
      refine .seq ?_
      refine .block ?_
      refine .seq ?_
      refine run_reg ?_
      refine e_end ?_
      refine g_v1 (t := 0) (u := (Enc.enc (a_1 : List (Int × Int)))) (Enc.enc (a_1 : List (Int × Int))) h0 rfl rfl ?_
      refine g_v1 (t := 5) (u := (.int .i64 i_6)) (.int .i64 i_6) h5 rfl rfl ?_
      obtain ⟨e_10, E_e_10, h⟩ := bind_some h
      refine g_v (.ref .sh 0 [] (.agg [(.int .i64 e_10.1), (.int .i64 e_10.2)])) (ev_idx (t := .sh) (lo := 0) (xs := a_1) rfl rfl E_e_10 rfl rfl) ?_
      refine g_v1 (t := 19) (u := (.ref .sh 0 [] (.agg [(.int .i64 e_10.1), (.int .i64 e_10.2)]))) (.agg [(.int .i64 e_10.1), (.int .i64 e_10.2)]) rfl rfl rfl ?_
      refine g_v1 (t := 1) (u := (Enc.enc (b_2 : List (Int × Int)))) (Enc.enc (b_2 : List (Int × Int))) h1 rfl rfl ?_
      refine g_v1 (t := 5) (u := (.int .i64 i_6)) (.int .i64 i_6) h5 rfl rfl ?_
      obtain ⟨e_11, E_e_11, h⟩ := bind_some h
      refine g_v (.ref .sh 0 [] (.agg [(.int .i64 e_11.1), (.int .i64 e_11.2)])) (ev_idx (t := .sh) (lo := 0) (xs := b_2) rfl rfl E_e_11 rfl rfl) ?_
      refine g_v1 (t := 23) (u := (.ref .sh 0 [] (.agg [(.int .i64 e_11.1), (.int .i64 e_11.2)]))) (.agg [(.int .i64 e_11.1), (.int .i64 e_11.2)]) rfl rfl rfl ?_
      obtain ⟨r_12, E_r_12, h⟩ := bind_some h
      refine g_call (m := 0) (al := false) (r := (Enc.enc (r_12 : Bool))) [Enc.enc (e_10 : (Int × Int)), Enc.enc (e_11 : (Int × Int))] (ta_cons (v := (.agg [(.int .i64 e_10.1), (.int .i64 e_10.2)])) rfl rfl (Enc.erase_enc (e_10 : (Int × Int))) (ta_cons (v := (.agg [(.int .i64 e_11.1), (.int .i64 e_11.2)])) rfl rfl (Enc.erase_enc (e_11 : (Int × Int))) ta_nil)) (H.c103 _ _ _ E_r_12) H.g103 rfl rfl rfl rfl ?_
      refine g_v1 (t := 25) (u := (.bool r_12)) (.bool (!r_12)) rfl rfl rfl ?_
      refine g_end ?_
      refine e_end ?_
      refine renew [(0, (Enc.enc (a_1 : List (Int × Int)))), (1, (Enc.enc (b_2 : List (Int × Int)))), (4, (.bool false)), (5, (.int .i64 i_6)), (26, (.bool (!r_12)))] ⟨h0, h1, h4, h5, rfl⟩ ?_
      rintro s ⟨h0, h1, h4, h5, h26⟩
      refine .nsq ?_
      refine run_cond (t := (!r_12)) h26 h (fun h => ?_) (fun h => ?_)
      · refine .seq ?_
        refine run_reg ?_
        refine e_end ?_
        refine g_v0 (.bool false) rfl rfl ?_
        refine g_end ?_
        refine e_end ?_
        refine renew [(0, (Enc.enc (a_1 : List (Int × Int)))), (1, (Enc.enc (b_2 : List (Int × Int)))), (4, (.bool false)), (5, (.int .i64 i_6))] ⟨h0, h1, rfl, h5⟩ ?_
        rintro s ⟨h0, h1, h4, h5⟩
        refine .nsq ?_
        refine .ret ?_
        have hr := Option.some.inj h
        subst hr
        exact rrA (res_tmp h4) rfl
      · refine .skip ?_
        refine .nbk ?_
        refine .nsq ?_
        refine run_reg ?_
        refine e_end ?_
        refine g_v1 (t := 5) (u := (.int .i64 i_6)) (.int .i64 i_6) h5 rfl rfl ?_
        refine g_v1 (t := 15) (u := (.int .i64 i_6)) (.int .i64 (w64 (i_6 + 1))) rfl rfl rfl ?_
        refine g_v1 (t := 16) (u := (.int .i64 (w64 (i_6 + 1)))) (.int .i64 (w64 (i_6 + 1))) rfl rfl rfl ?_
        refine g_end ?_
        refine e_end ?_
        refine renew [(0, (Enc.enc (a_1 : List (Int × Int)))), (1, (Enc.enc (b_2 : List (Int × Int)))), (4, (.bool false)), (5, (.int .i64 (w64 (i_6 + 1))))] ⟨h0, h1, h4, rfl⟩ ?_
        rintro s ⟨h0, h1, h4, h5⟩
        refine .nlp ?_
        exact ih (w64 (i_6 + 1)) _ ⟨h0, h1, h4, h5⟩ h
    · refine .exit ?_
      refine .esq ?_
      refine .elp ?_
      refine .ebk ?_
      refine .nsq ?_
      refine .seq ?_
      refine run_reg ?_
      refine e_end ?_
      refine g_v0 (.bool true) rfl rfl ?_
      refine g_end ?_
      refine e_end ?_
      refine renew [(4, (.bool true))] rfl ?_
      rintro s h4
      refine .nsq ?_
      refine .ret ?_
      have hr := Option.some.inj h
      subst hr
      exact rrA (res_tmp h4) rfl
def w_eqIntA2S (F : Nat) (a_1 : (List (Int × Int))) (b_2 : (List (Int × Int))) : Option Bool :=
  bif ((a_1.length : Int) != (b_2.length : Int)) then
    some false
  else
    w_eqIntA2S_l1 F a_1 b_2 F 0
theorem t54 (H : H54 D σ F) (a_1 : (List (Int × Int))) (b_2 : (List (Int × Int))) (s : Nat → V) (hs : Facts [(0, (Enc.enc (a_1 : List (Int × Int)))), (1, (Enc.enc (b_2 : List (Int × Int))))] s) (h : w_eqIntA2S F a_1 b_2 = some r) : Run D σ (R54 r) (.run A54 []) s := by
  unfold w_eqIntA2S at h
  obtain ⟨h0, h1⟩ := hs
  refine .seq ?_
  refine run_reg ?_
  refine e_end ?_
  refine g_v0 (.bool false) rfl rfl ?_
  refine g_end ?_
  refine e_end ?_
  refine renew [(0, (Enc.enc (a_1 : List (Int × Int)))), (1, (Enc.enc (b_2 : List (Int × Int)))), (4, (.bool false))] ⟨h0, h1, rfl⟩ ?_
  rintro s ⟨h0, h1, h4⟩
  refine .nsq ?_
  refine .seq ?_
  refine .seq ?_
  refine run_reg ?_
  refine e_end ?_
  refine g_v1 (t := 0) (u := (Enc.enc (a_1 : List (Int × Int)))) (Enc.enc (a_1 : List (Int × Int))) h0 rfl rfl ?_
  refine g_v (.int .i64 (a_1.length : Int)) (ev_len (xs := a_1) rfl) ?_
  refine g_v1 (t := 1) (u := (Enc.enc (b_2 : List (Int × Int)))) (Enc.enc (b_2 : List (Int × Int))) h1 rfl rfl ?_
  refine g_v (.int .i64 (b_2.length : Int)) (ev_len (xs := b_2) rfl) ?_
  refine g_v2 (t1 := 7) (t2 := 9) (u1 := (.int .i64 (a_1.length : Int))) (u2 := (.int .i64 (b_2.length : Int))) (.bool ((a_1.length : Int) != (b_2.length : Int))) rfl rfl rfl rfl ?_
  refine g_end ?_
  refine e_end ?_
  refine renew [(0, (Enc.enc (a_1 : List (Int × Int)))), (1, (Enc.enc (b_2 : List (Int × Int)))), (4, (.bool false)), (10, (.bool ((a_1.length : Int) != (b_2.length : Int))))] ⟨h0, h1, h4, rfl⟩ ?_
  rintro s ⟨h0, h1, h4, h10⟩
  refine .nsq ?_
  refine run_cond (t := ((a_1.length : Int) != (b_2.length : Int))) h10 h (fun h => ?_) (fun h => ?_)
  · refine .seq ?_
    refine run_reg ?_
    refine e_end ?_
    refine g_v0 (.bool false) rfl rfl ?_
    refine g_end ?_
    refine e_end ?_
    refine renew [(0, (Enc.enc (a_1 : List (Int × Int)))), (1, (Enc.enc (b_2 : List (Int × Int)))), (4, (.bool false))] ⟨h0, h1, rfl⟩ ?_
    rintro s ⟨h0, h1, h4⟩
    refine .nsq ?_
    refine .ret ?_
    have hr := Option.some.inj h
    subst hr
    exact rrA (res_tmp h4) rfl
  · refine .skip ?_
    refine .nsq ?_
    refine .seq ?_
    refine .seq ?_
    refine run_reg ?_
    refine e_end ?_
    refine g_v0 (.int .i64 0) rfl rfl ?_
    refine g_end ?_
    refine e_end ?_
    refine renew [(0, (Enc.enc (a_1 : List (Int × Int)))), (1, (Enc.enc (b_2 : List (Int × Int)))), (4, (.bool false)), (5, (.int .i64 0))] ⟨h0, h1, h4, rfl⟩ ?_
    rintro s ⟨h0, h1, h4, h5⟩
    refine .nsq ?_
    refine .block ?_
    refine .loop ?_
    exact t_f54_l1 H a_1 b_2 F 0 _ ⟨h0, h1, h4, h5⟩ h
end
def e54 (F : Nat) : Ent := ⟨54, da (fun (x : ((List (Int × Int)) × (List (Int × Int)) × Unit)) => w_eqIntA2S F x.1 x.2.1) (fun (r : Bool) => (Enc.enc (r : Bool))), 0, false, selF []⟩
theorem p54 {F : Nat} {x0 : (List (Int × Int))} {x1 : (List (Int × Int))} {r : Bool} (h : w_eqIntA2S F x0 x1 = some r) : (e54 F).den [Enc.enc x0, Enc.enc x1] = some (Enc.enc (r : Bool)) := da_put (f := fun (x : ((List (Int × Int)) × (List (Int × Int)) × Unit)) => w_eqIntA2S F x.1 x.2.1) (t := fun (r : Bool) => (Enc.enc (r : Bool))) (x0, x1, ()) h
theorem o54 {D : Den} {σ : Sig} {F : Nat} (hF : Fits2 Try.prog D σ) (H : H54 D σ F) : (e54 F).Ok Try.prog := by
  refine ok_of (f := 54) (show unk 54 = 54 from rfl) (fun args r h => ?_) ⟨Try.f54, Try.func54, rfl, rfl⟩
  obtain ⟨⟨x0, x1, _⟩, y, rfl, hy, rfl⟩ := da_open h
  exact contract_run hF (by kernel_rfl) Try.func54 rfl c54 (show 2 ≤ Try.f54.ntmps by decide) (t54 H x0 x1 _ ⟨rfl, rfl⟩ hy)
/- loop.example/g01109/laws.eqGraph -/
def A20_2 : AC := (AC.cond (O.t 9) (AC.seq (AC.reg [] [(I.mk (some 4) none false (X.v (A.mov (O.k (V.bool false)))))] []) AC.ret) AC.skip)
def A20_4 : AC := (AC.cond (O.t 15) (AC.seq (AC.reg [] [(I.mk (some 4) none false (X.v (A.mov (O.k (V.bool false)))))] []) AC.ret) AC.skip)
def A20_5 : AC := (AC.seq (AC.reg [] [(I.mk (some 4) none false (X.v (A.mov (O.k (V.bool true)))))] []) AC.ret)
def A20_3 : AC := (AC.seq (AC.seq (AC.reg [] [(I.mk (some 10) none false (X.v (A.fld (O.t 2) 1 1))), (I.mk (some 11) none false (X.v (A.load Sh.p (O.t 10)))), (I.mk (some 12) none false (X.v (A.fld (O.t 3) 1 1))), (I.mk (some 13) none false (X.v (A.load Sh.p (O.t 12)))), (I.mk (some 14) none false (X.call (O.k (V.fn 54 [] [])) [(O.t 11), (O.t 13)])), (I.mk (some 15) none false (X.v (A.un UnOp.not (O.t 14))))] []) A20_4) A20_5)
def A20_1 : AC := (AC.seq (AC.seq (AC.reg [] [(I.mk (some 5) none false (X.v (A.fld (O.t 2) 0 0))), (I.mk (some 6) none false (X.v (A.load Sh.s (O.t 5)))), (I.mk (some 7) none false (X.v (A.fld (O.t 3) 0 0))), (I.mk (some 8) none false (X.v (A.load Sh.s (O.t 7)))), (I.mk (some 9) none false (X.v (A.bin BinOp.neq (O.t 6) (O.t 8))))] []) A20_2) A20_3)
def A20 : AC := (AC.seq (AC.reg [.clr [2, 3]] [(I.mk (some 2) none false (X.box (O.t 0))), (I.mk (some 3) none false (X.box (O.t 1))), (I.mk (some 4) none false (X.v (A.mov (O.k (V.bool false)))))] []) A20_1)
def an20 : List An := [{ id := 0, pre := [.clr [2, 3]], ep := [], lin := [], sp := [] }]
theorem c20 : cC Try.prog Try.f20.ntmps an20 (Try.f20.body.getD .skip) = some A20 := by kernel_rfl
structure H20 (D : Den) (σ : Sig) (F : Nat) : Prop where
  c54 : ∀ (x0 : (List (Int × Int))) (x1 : (List (Int × Int))) r, w_eqIntA2S F x0 x1 = some r → D 54 [Enc.enc x0, Enc.enc x1] = some (Enc.enc (r : Bool))
  g54 : σ 54 = some (0, false)
abbrev R20 (r : Bool) : (Nat → V) → Prop := RR Try.prog [.tmp 4] 0 false (Enc.enc (r : Bool))
section
variable {D : Den} {σ : Sig} {F : Nat} {r : Bool}
def w_eqGraph (F : Nat) (a_1 : (Int × (List (Int × Int)))) (b_2 : (Int × (List (Int × Int)))) : Option Bool :=
  bif (a_1.1 != b_2.1) then
    some false
  else
    (w_eqIntA2S F a_1.2 b_2.2).bind fun r_3 =>
    bif (!r_3) then
      some false
    else
      some true
theorem t20 (H : H20 D σ F) (a_1 : (Int × (List (Int × Int)))) (b_2 : (Int × (List (Int × Int)))) (s : Nat → V) (hs : Facts [(0, (.agg [(.int .i64 a_1.1), (Enc.enc (a_1.2 : List (Int × Int)))])), (1, (.agg [(.int .i64 b_2.1), (Enc.enc (b_2.2 : List (Int × Int)))]))] s) (h : w_eqGraph F a_1 b_2 = some r) : Run D σ (R20 r) (.run A20 []) s := by
  unfold w_eqGraph at h
  obtain ⟨h0, h1⟩ := hs
  refine .seq ?_
  refine run_reg ?_
  refine e_clr ?_
  refine e_end ?_
  refine g_box (.agg [(.int .i64 a_1.1), (Enc.enc (a_1.2 : List (Int × Int)))]) (rd_of (keep_clear (s := s) (pk := [2, 3]) h0 rfl (map_agg (maps_cons rfl (maps_cons (Enc.map_enc _ (a_1.2 : List (Int × Int))) maps_nil)))) rfl) (gone_clear (s := s) (pk := [2, 3]) (t := 2) rfl) rfl ?_
  refine g_box (.agg [(.int .i64 b_2.1), (Enc.enc (b_2.2 : List (Int × Int)))]) (rd_of (keep_clear (s := s) (pk := [2, 3]) h1 rfl (map_agg (maps_cons rfl (maps_cons (Enc.map_enc _ (b_2.2 : List (Int × Int))) maps_nil)))) rfl) (gone_clear (s := s) (pk := [2, 3]) (t := 3) rfl) rfl ?_
  refine g_v0 (.bool false) rfl rfl ?_
  refine g_end ?_
  refine e_end ?_
  refine renew [(2, (.ref (.bx 2) 0 [] (.agg [(.int .i64 a_1.1), (Enc.enc (a_1.2 : List (Int × Int)))]))), (3, (.ref (.bx 3) 0 [] (.agg [(.int .i64 b_2.1), (Enc.enc (b_2.2 : List (Int × Int)))]))), (4, (.bool false))] ⟨rfl, rfl, rfl⟩ ?_
  rintro s ⟨h2, h3, h4⟩
  refine .nsq ?_
  refine .seq ?_
  refine .seq ?_
  refine run_reg ?_
  refine e_end ?_
  refine g_v1 (t := 2) (u := (.ref (.bx 2) 0 [] (.agg [(.int .i64 a_1.1), (Enc.enc (a_1.2 : List (Int × Int)))]))) (.ref (.bx 2) 0 [0] (.int .i64 a_1.1)) h2 rfl rfl ?_
  refine g_v1 (t := 5) (u := (.ref (.bx 2) 0 [0] (.int .i64 a_1.1))) (.int .i64 a_1.1) rfl rfl rfl ?_
  refine g_v1 (t := 3) (u := (.ref (.bx 3) 0 [] (.agg [(.int .i64 b_2.1), (Enc.enc (b_2.2 : List (Int × Int)))]))) (.ref (.bx 3) 0 [0] (.int .i64 b_2.1)) h3 rfl rfl ?_
  refine g_v1 (t := 7) (u := (.ref (.bx 3) 0 [0] (.int .i64 b_2.1))) (.int .i64 b_2.1) rfl rfl rfl ?_
  refine g_v2 (t1 := 6) (t2 := 8) (u1 := (.int .i64 a_1.1)) (u2 := (.int .i64 b_2.1)) (.bool (a_1.1 != b_2.1)) rfl rfl rfl rfl ?_
  refine g_end ?_
  refine e_end ?_
  refine renew [(2, (.ref (.bx 2) 0 [] (.agg [(.int .i64 a_1.1), (Enc.enc (a_1.2 : List (Int × Int)))]))), (3, (.ref (.bx 3) 0 [] (.agg [(.int .i64 b_2.1), (Enc.enc (b_2.2 : List (Int × Int)))]))), (4, (.bool false)), (9, (.bool (a_1.1 != b_2.1)))] ⟨h2, h3, h4, rfl⟩ ?_
  rintro s ⟨h2, h3, h4, h9⟩
  refine .nsq ?_
  refine run_cond (t := (a_1.1 != b_2.1)) h9 h (fun h => ?_) (fun h => ?_)
  · refine .seq ?_
    refine run_reg ?_
    refine e_end ?_
    refine g_v0 (.bool false) rfl rfl ?_
    refine g_end ?_
    refine e_end ?_
    refine renew [(2, (.ref (.bx 2) 0 [] (.agg [(.int .i64 a_1.1), (Enc.enc (a_1.2 : List (Int × Int)))]))), (3, (.ref (.bx 3) 0 [] (.agg [(.int .i64 b_2.1), (Enc.enc (b_2.2 : List (Int × Int)))]))), (4, (.bool false))] ⟨h2, h3, rfl⟩ ?_
    rintro s ⟨h2, h3, h4⟩
    refine .nsq ?_
    refine .ret ?_
    have hr := Option.some.inj h
    subst hr
    exact rrA (res_tmp h4) rfl
  · refine .skip ?_
    refine .nsq ?_
    refine .seq ?_
    refine .seq ?_
    refine run_reg ?_
    refine e_end ?_
    refine g_v1 (t := 2) (u := (.ref (.bx 2) 0 [] (.agg [(.int .i64 a_1.1), (Enc.enc (a_1.2 : List (Int × Int)))]))) (.ref (.bx 2) 0 [1] (Enc.enc (a_1.2 : List (Int × Int)))) h2 rfl rfl ?_
    refine g_v1 (t := 10) (u := (.ref (.bx 2) 0 [1] (Enc.enc (a_1.2 : List (Int × Int))))) (Enc.enc (a_1.2 : List (Int × Int))) rfl rfl rfl ?_
    refine g_v1 (t := 3) (u := (.ref (.bx 3) 0 [] (.agg [(.int .i64 b_2.1), (Enc.enc (b_2.2 : List (Int × Int)))]))) (.ref (.bx 3) 0 [1] (Enc.enc (b_2.2 : List (Int × Int)))) h3 rfl rfl ?_
    refine g_v1 (t := 12) (u := (.ref (.bx 3) 0 [1] (Enc.enc (b_2.2 : List (Int × Int))))) (Enc.enc (b_2.2 : List (Int × Int))) rfl rfl rfl ?_
    obtain ⟨r_3, E_r_3, h⟩ := bind_some h
    refine g_call (m := 0) (al := false) (r := (Enc.enc (r_3 : Bool))) [Enc.enc (a_1.2 : (List (Int × Int))), Enc.enc (b_2.2 : (List (Int × Int)))] (ta_cons (v := (Enc.enc (a_1.2 : List (Int × Int)))) rfl rfl (Enc.erase_enc (a_1.2 : (List (Int × Int)))) (ta_cons (v := (Enc.enc (b_2.2 : List (Int × Int)))) rfl rfl (Enc.erase_enc (b_2.2 : (List (Int × Int)))) ta_nil)) (H.c54 _ _ _ E_r_3) H.g54 rfl rfl rfl rfl ?_
    refine g_v1 (t := 14) (u := (.bool r_3)) (.bool (!r_3)) rfl rfl rfl ?_
    refine g_end ?_
    refine e_end ?_
    refine renew [(4, (.bool false)), (15, (.bool (!r_3)))] ⟨h4, rfl⟩ ?_
    rintro s ⟨h4, h15⟩
    refine .nsq ?_
    refine run_cond (t := (!r_3)) h15 h (fun h => ?_) (fun h => ?_)
    · refine .seq ?_
      refine run_reg ?_
      refine e_end ?_
      refine g_v0 (.bool false) rfl rfl ?_
      refine g_end ?_
      refine e_end ?_
      refine renew [(4, (.bool false))] rfl ?_
      rintro s h4
      refine .nsq ?_
      refine .ret ?_
      have hr := Option.some.inj h
      subst hr
      exact rrA (res_tmp h4) rfl
    · refine .skip ?_
      refine .nsq ?_
      refine .seq ?_
      refine run_reg ?_
      refine e_end ?_
      refine g_v0 (.bool true) rfl rfl ?_
      refine g_end ?_
      refine e_end ?_
      refine renew [(4, (.bool true))] rfl ?_
      rintro s h4
      refine .nsq ?_
      refine .ret ?_
      have hr := Option.some.inj h
      subst hr
      exact rrA (res_tmp h4) rfl
end
def e20 (F : Nat) : Ent := ⟨20, da (fun (x : ((Int × (List (Int × Int))) × (Int × (List (Int × Int))) × Unit)) => w_eqGraph F x.1 x.2.1) (fun (r : Bool) => (Enc.enc (r : Bool))), 0, false, selF []⟩
theorem p20 {F : Nat} {x0 : (Int × (List (Int × Int)))} {x1 : (Int × (List (Int × Int)))} {r : Bool} (h : w_eqGraph F x0 x1 = some r) : (e20 F).den [Enc.enc x0, Enc.enc x1] = some (Enc.enc (r : Bool)) := da_put (f := fun (x : ((Int × (List (Int × Int))) × (Int × (List (Int × Int))) × Unit)) => w_eqGraph F x.1 x.2.1) (t := fun (r : Bool) => (Enc.enc (r : Bool))) (x0, x1, ()) h
theorem o20 {D : Den} {σ : Sig} {F : Nat} (hF : Fits2 Try.prog D σ) (H : H20 D σ F) : (e20 F).Ok Try.prog := by
  refine ok_of (f := 20) (show unk 20 = 20 from rfl) (fun args r h => ?_) ⟨Try.f20, Try.func20, rfl, rfl⟩
  obtain ⟨⟨x0, x1, _⟩, y, rfl, hy, rfl⟩ := da_open h
  exact contract_run hF (by kernel_rfl) Try.func20 rfl c20 (show 2 ≤ Try.f20.ntmps by decide) (t20 H x0 x1 _ ⟨rfl, rfl⟩ hy)
/- loop.example/g01109/laws.toIntA2S -/
def A50o_2 : AC := (AC.cond (O.t 11) AC.skip (AC.exit 0))
def A50o_4 : AC := (AC.reg [] [(I.mk (some 12) none false (X.v (A.mov (O.t 4)))), (I.mk (some 13) none false (X.v (A.bin BinOp.add (O.t 12) (O.k (V.int IntKind.i64 (Int.ofNat 1)))))), (I.mk (some 4) none false (X.v (A.mov (O.t 13))))] [])
def A50o_3 : AC := (AC.seq (AC.block 1 (AC.reg [] [(I.mk (some 14) none false (X.v (A.mov (O.t 3)))), (I.mk (some 15) none false (X.v (A.mov (O.t 4)))), (I.mk (some 16) none false (X.v (A.mov (O.t 0)))), (I.mk (some 17) none false (X.v (A.mov (O.t 4)))), (I.mk (some 18) none false (X.v (A.idx (O.t 16) (O.t 17) 2))), (I.mk (some 19) none false (X.v (A.load (Sh.ag [Sh.s, Sh.s]) (O.t 18)))), (I.mk (some 20) none false (X.call (O.k (V.fn 99 [] [])) [(O.t 19)])), (I.mk (some 21) none false (X.v (A.idx (O.t 14) (O.t 15) 2))), (I.mk none none false (X.store (Sh.ag [Sh.s, Sh.s]) (O.t 21) (O.t 20)))] [])) A50o_4)
def A50o_1 : AC := (AC.seq (AC.seq (AC.reg [] [(I.mk (some 8) none false (X.v (A.mov (O.t 4)))), (I.mk (some 9) none false (X.v (A.mov (O.t 0)))), (I.mk (some 10) none false (X.v (A.len (O.t 9)))), (I.mk (some 11) none false (X.v (A.bin BinOp.lss (O.t 8) (O.t 10))))] []) A50o_2) A50o_3)
def A50o_5 : AC := (AC.seq (AC.reg [] [(I.mk (some 22) none false (X.v (A.mov (O.t 3)))), (I.mk (some 2) none false (X.v (A.mov (O.t 22))))] [.home 3 2]) AC.ret)
def A50o_8 : AC := (AC.block 0 (AC.loop A50o_1))
def A50o_7 : AC := (AC.seq (AC.seq (AC.reg [] [(I.mk (some 4) none false (X.v (A.mov (O.k (V.int IntKind.i64 (Int.ofNat 0))))))] []) A50o_8) A50o_5)
def A50o_6 : AC := (AC.seq (AC.reg [.clr [7]] [(I.mk (some 5) none false (X.v (A.mov (O.t 0)))), (I.mk (some 6) none false (X.v (A.len (O.t 5)))), (I.mk (some 7) none false (X.mk (O.t 6) (V.agg [(V.int IntKind.i64 (Int.ofNat 0)), (V.int IntKind.i64 (Int.ofNat 0))]))), (I.mk (some 3) none false (X.v (A.mov (O.t 7))))] [.home 7 3]) A50o_7)
def A50o : AC := (AC.seq (AC.reg [] [(I.mk (some 2) none false (X.v (A.mov (O.k (V.sl Tok.nl (Sh.ag [Sh.s, Sh.s]) 0 [])))))] []) A50o_6)
def an50o : List An := [{ id := 1, pre := [.clr [7]], ep := [.home 7 3], lin := [], sp := [] }, { id := 6, pre := [], ep := [.home 3 2], lin := [], sp := [] }]
theorem c50o : cC Try.prog Try.f50.ntmps an50o (Try.f50.body.getD .skip) = some A50o := by kernel_rfl
structure H50o (D : Den) (σ : Sig) (F : Nat) : Prop where
  c99 : ∀ (x0 : (Int × Int)) r, w_toIntA2 F x0 = some r → D 99 [Enc.enc x0] = some (Enc.enc (r : (Int × Int)))
  g99 : σ 99 = some (0, false)
abbrev R50o (r : (NL (Int × Int))) : (Nat → V) → Prop := RR Try.prog [.tmp 2] 1 false (encO .sh (r : NL (Int × Int)))
section
variable {D : Den} {σ : Sig} {F : Nat} {r : (NL (Int × Int))}
def w_toIntA2S_o_l1 (F : Nat) (a_1 : (List (Int × Int)))  : Nat → (List (Int × Int)) → Int → Option (NL (Int × Int))
  | 0, _, _ => none
  | k + 1, out_6, i_7 =>
    bif decide (i_7 < (a_1.length : Int)) then
      (idx a_1 i_7).bind fun e_11 =>
      (w_toIntA2 F e_11).bind fun r_12 =>
      (idx out_6 i_7).bind fun e_13 =>
      (w_toIntA2S_o_l1 F a_1 k) (out_6.set i_7.toNat r_12) (w64 (i_7 + 1))
    else
      some (.of out_6)
theorem t_f50o_l1 (H : H50o D σ F) (a_1 : (List (Int × Int)))  : ∀ (k : Nat) (out_6 : (List (Int × Int))) (i_7 : Int) (s : Nat → V), Facts [(0, (Enc.enc (a_1 : List (Int × Int)))), (2, (.sl .nl (Enc.shp (Int × Int)) 0 [])), (3, (encO (.at 3 []) (.of (out_6 : List (Int × Int))))), (4, (.int .i64 i_7))] s → w_toIntA2S_o_l1 F a_1 k out_6 i_7 = some r → Run D σ (R50o r) (.run A50o_1 [.lp A50o_1, .bk 0, .sq A50o_5]) s := by
  intro k
  induction k with
  | zero => intro out_6 i_7 s _ h; exact nomatch (h : (none : Option _) = some r)
  | succ k ih =>
    intro out_6 i_7 s hs h
    rw [w_toIntA2S_o_l1] at h
    obtain ⟨h0, h2, h3, h4⟩ := hs
    refine .seq ?_
    refine .seq ?_
    refine run_reg ?_
    refine e_end ?_
    refine g_v1 (t := 4) (u := (.int .i64 i_7)) (.int .i64 i_7) h4 rfl rfl ?_
    refine g_v1 (t := 0) (u := (Enc.enc (a_1 : List (Int × Int)))) (Enc.enc (a_1 : List (Int × Int))) h0 rfl rfl ?_
    refine g_v (.int .i64 (a_1.length : Int)) (ev_len (xs := a_1) rfl) ?_
    refine g_v2 (t1 := 8) (t2 := 10) (u1 := (.int .i64 i_7)) (u2 := (.int .i64 (a_1.length : Int))) (.bool (decide (i_7 < (a_1.length : Int)))) rfl rfl rfl rfl ?_
    refine g_end ?_
    refine e_end ?_
    refine renew [(0, (Enc.enc (a_1 : List (Int × Int)))), (2, (.sl .nl (Enc.shp (Int × Int)) 0 [])), (3, (encO (.at 3 []) (.of (out_6 : List (Int × Int))))), (4, (.int .i64 i_7)), (11, (.bool (decide (i_7 < (a_1.length : Int)))))] ⟨h0, h2, h3, h4, rfl⟩ ?_
    rintro s ⟨h0, h2, h3, h4, h11⟩
    refine .nsq ?_
    refine run_cond (t := decide (i_7 < (a_1.length : Int))) h11 h (fun h => ?_) (fun h => ?_)
    · refine .skip ?_
      refine .nsq ?_
      refine .seq ?_
      refine .block ?_
      refine run_reg ?_
      refine e_end ?_
      refine g_v1 (t := 3) (u := (encO (.at 3 []) (.of (out_6 : List (Int × Int))))) (encO (.at 3 []) (.of (out_6 : List (Int × Int)))) h3 rfl rfl ?_
      refine g_v1 (t := 4) (u := (.int .i64 i_7)) (.int .i64 i_7) h4 rfl rfl ?_
      refine g_v1 (t := 0) (u := (Enc.enc (a_1 : List (Int × Int)))) (Enc.enc (a_1 : List (Int × Int))) h0 rfl rfl ?_
      refine g_v1 (t := 4) (u := (.int .i64 i_7)) (.int .i64 i_7) h4 rfl rfl ?_
      obtain ⟨e_11, E_e_11, h⟩ := bind_some h
      refine g_v (.ref .sh 0 [] (.agg [(.int .i64 e_11.1), (.int .i64 e_11.2)])) (ev_idx (t := .sh) (lo := 0) (xs := a_1) rfl rfl E_e_11 rfl rfl) ?_
      refine g_v1 (t := 18) (u := (.ref .sh 0 [] (.agg [(.int .i64 e_11.1), (.int .i64 e_11.2)]))) (.agg [(.int .i64 e_11.1), (.int .i64 e_11.2)]) rfl rfl rfl ?_
      obtain ⟨r_12, E_r_12, h⟩ := bind_some h
      refine g_call (m := 0) (al := false) (r := (Enc.enc (r_12 : (Int × Int)))) [Enc.enc (e_11 : (Int × Int))] (ta_cons (v := (.agg [(.int .i64 e_11.1), (.int .i64 e_11.2)])) rfl rfl (Enc.erase_enc (e_11 : (Int × Int))) ta_nil) (H.c99 _ _ E_r_12) H.g99 rfl rfl rfl rfl ?_
      obtain ⟨e_13, E_e_13, h⟩ := bind_some h
      refine g_v (.ref (.at 3 []) i_7.toNat [] (.agg [(.int .i64 e_13.1), (.int .i64 e_13.2)])) (ev_idxO (o := (.of out_6)) rfl rfl E_e_13 rfl) ?_
      refine g_store (.agg [(.int .i64 r_12.1), (.int .i64 r_12.2)]) (rd_of rfl rfl) (rd_of rfl rfl) (by refine ⟨by decide, by decide, rfl, rfl, rfl, ?_⟩; first | rfl | simp [V.toks, V.tokss, Enc.toks_enc]) ?_
      refine g_end ?_
      refine e_end ?_
      refine renew [(0, (Enc.enc (a_1 : List (Int × Int)))), (2, (.sl .nl (Enc.shp (Int × Int)) 0 [])), (3, (encO (.at 3 []) (.of (out_6.set i_7.toNat r_12 : List (Int × Int))))), (4, (.int .i64 i_7))] ⟨(keep_mut h0 (Enc.mut_enc _ _ _ _ (a_1 : List (Int × Int)))), (keep_mut h2 rfl), (keep_mut h3 mut_own), (keep_mut h4 rfl)⟩ ?_
      rintro s ⟨h0, h2, h3, h4⟩
      refine .nbk ?_
      refine .nsq ?_
      refine run_reg ?_
      refine e_end ?_
      refine g_v1 (t := 4) (u := (.int .i64 i_7)) (.int .i64 i_7) h4 rfl rfl ?_
      refine g_v1 (t := 12) (u := (.int .i64 i_7)) (.int .i64 (w64 (i_7 + 1))) rfl rfl rfl ?_
      refine g_v1 (t := 13) (u := (.int .i64 (w64 (i_7 + 1)))) (.int .i64 (w64 (i_7 + 1))) rfl rfl rfl ?_
      refine g_end ?_
      refine e_end ?_
      refine renew [(0, (Enc.enc (a_1 : List (Int × Int)))), (2, (.sl .nl (Enc.shp (Int × Int)) 0 [])), (3, (encO (.at 3 []) (.of (out_6.set i_7.toNat r_12 : List (Int × Int))))), (4, (.int .i64 (w64 (i_7 + 1))))] ⟨h0, h2, h3, rfl⟩ ?_
      rintro s ⟨h0, h2, h3, h4⟩
      refine .nlp ?_
      exact ih (out_6.set i_7.toNat r_12) (w64 (i_7 + 1)) _ ⟨h0, h2, h3, h4⟩ h
    · refine .exit ?_
      refine .esq ?_
      refine .elp ?_
      refine .ebk ?_
      refine .nsq ?_
      refine .seq ?_
      refine run_reg ?_
      refine e_end ?_
      refine g_v1 (t := 3) (u := (encO (.at 3 []) (.of (out_6 : List (Int × Int))))) (encO (.at 3 []) (.of (out_6 : List (Int × Int)))) h3 rfl rfl ?_
      refine g_v1 (t := 22) (u := (encO (.at 3 []) (.of (out_6 : List (Int × Int))))) (encO (.at 3 []) (.of (out_6 : List (Int × Int)))) rfl rfl rfl ?_
      refine g_end ?_
      refine e_home (r := 3) (x := 2) (v := (encO (.at 3 []) (.of (out_6 : List (Int × Int))))) (by exact rfl) rfl (fun s_3 hg_3 => ?_)
      refine e_end ?_
      refine renew [(2, (encO (.at 2 []) (.of (out_6 : List (Int × Int)))))] (hg_3 2 (encO (.at 3 []) (.of (out_6 : List (Int × Int)))) (encO (.at 2 []) (.of (out_6 : List (Int × Int)))) rfl (map_encO (r := 3) (p := []) rfl rfl)) ?_
      rintro s h2
      refine .nsq ?_
      refine .ret ?_
      have hr := Option.some.inj h
      subst hr
      exact rrA (res_tmp h2) (fin_retO (finO_own (o := ((.of out_6) : NL (Int × Int)))) rfl (mine_own rfl))
def w_toIntA2S_o (F : Nat) (a_1 : (List (Int × Int))) : Option (NL (Int × Int)) :=
  (mkN (a_1.length : Int) (0, 0)).bind fun mk_2 =>
  w_toIntA2S_o_l1 F a_1 F mk_2 0
theorem t50o (H : H50o D σ F) (a_1 : (List (Int × Int))) (s : Nat → V) (hs : Facts [(0, (Enc.enc (a_1 : List (Int × Int))))] s) (h : w_toIntA2S_o F a_1 = some r) : Run D σ (R50o r) (.run A50o []) s := by
  unfold w_toIntA2S_o at h
  have h0 := hs
  refine .seq ?_
  refine run_reg ?_
  refine e_end ?_
  refine g_v0 (.sl .nl (Enc.shp (Int × Int)) 0 []) rfl rfl ?_
  refine g_end ?_
  refine e_end ?_
  refine renew [(0, (Enc.enc (a_1 : List (Int × Int)))), (2, (.sl .nl (Enc.shp (Int × Int)) 0 []))] ⟨h0, rfl⟩ ?_
  rintro s ⟨h0, h2⟩
  refine .nsq ?_
  refine .seq ?_
  refine run_reg ?_
  refine e_clr ?_
  refine e_end ?_
  refine g_v1 (t := 0) (u := (Enc.enc (a_1 : List (Int × Int)))) (Enc.enc (a_1 : List (Int × Int))) (keep_clear (s := s) (pk := [7]) h0 rfl (Enc.map_enc _ (a_1 : List (Int × Int)))) rfl rfl ?_
  refine g_v (.int .i64 (a_1.length : Int)) (ev_len (xs := a_1) rfl) ?_
  obtain ⟨mk_2, E_mk_2, h⟩ := bind_some h
  refine g_mk ((0, 0) : (Int × Int)) rfl rfl (gone_clear (s := s) (pk := [7]) (t := 7) rfl) E_mk_2 ?_
  refine g_v1 (t := 7) (u := (encO (.at 7 []) (.of (mk_2 : List (Int × Int))))) (encO (.at 7 []) (.of (mk_2 : List (Int × Int)))) rfl rfl rfl ?_
  refine g_end ?_
  refine e_home (r := 7) (x := 3) (v := (encO (.at 7 []) (.of (mk_2 : List (Int × Int))))) (by exact rfl) rfl (fun s_2 hg_2 => ?_)
  refine e_end ?_
  refine renew [(0, (Enc.enc (a_1 : List (Int × Int)))), (2, (.sl .nl (Enc.shp (Int × Int)) 0 [])), (3, (encO (.at 3 []) (.of (mk_2 : List (Int × Int)))))] ⟨(hg_2 0 (Enc.enc (a_1 : List (Int × Int))) (Enc.enc (a_1 : List (Int × Int))) (keep_clear (s := s) (pk := [7]) h0 rfl (Enc.map_enc _ (a_1 : List (Int × Int)))) (Enc.map_enc _ (a_1 : List (Int × Int)))), (hg_2 2 (.sl .nl (Enc.shp (Int × Int)) 0 []) (.sl .nl (Enc.shp (Int × Int)) 0 []) (keep_clear (s := s) (pk := [7]) h2 rfl rfl) rfl), (hg_2 3 (encO (.at 7 []) (.of (mk_2 : List (Int × Int)))) (encO (.at 3 []) (.of (mk_2 : List (Int × Int)))) rfl (map_encO (r := 7) (p := []) rfl rfl))⟩ ?_
  rintro s ⟨h0, h2, h3⟩
  refine .nsq ?_
  refine .seq ?_
  refine .seq ?_
  refine run_reg ?_
  refine e_end ?_
  refine g_v0 (.int .i64 0) rfl rfl ?_
  refine g_end ?_
  refine e_end ?_
  refine renew [(0, (Enc.enc (a_1 : List (Int × Int)))), (2, (.sl .nl (Enc.shp (Int × Int)) 0 [])), (3, (encO (.at 3 []) (.of (mk_2 : List (Int × Int))))), (4, (.int .i64 0))] ⟨h0, h2, h3, rfl⟩ ?_
  rintro s ⟨h0, h2, h3, h4⟩
  refine .nsq ?_
  refine .block ?_
  refine .loop ?_
  exact t_f50o_l1 H a_1 F mk_2 0 _ ⟨h0, h2, h3, h4⟩ h
end
def e50o (F : Nat) : Ent := ⟨1000000050, da (fun (x : ((List (Int × Int)) × Unit)) => w_toIntA2S_o F x.1) (fun (r : (NL (Int × Int))) => (encO .sh (r : NL (Int × Int)))), 1, false, selF []⟩
theorem p50o {F : Nat} {x0 : (List (Int × Int))} {r : (NL (Int × Int))} (h : w_toIntA2S_o F x0 = some r) : (e50o F).den [Enc.enc x0] = some (encO .sh (r : NL (Int × Int))) := da_put (f := fun (x : ((List (Int × Int)) × Unit)) => w_toIntA2S_o F x.1) (t := fun (r : (NL (Int × Int))) => (encO .sh (r : NL (Int × Int)))) (x0, ()) h
theorem o50o {D : Den} {σ : Sig} {F : Nat} (hF : Fits2 Try.prog D σ) (H : H50o D σ F) : (e50o F).Ok Try.prog := by
  refine ok_of (f := 50) (show unk 1000000050 = 50 from rfl) (fun args r h => ?_) ⟨Try.f50, Try.func50, rfl, rfl⟩
  obtain ⟨⟨x0, _⟩, y, rfl, hy, rfl⟩ := da_open h
  exact contract_run hF (by kernel_rfl) Try.func50 rfl c50o (show 1 ≤ Try.f50.ntmps by decide) (t50o H x0 _ rfl hy)
/- loop.example/g01109/laws.toGraph -/
def A17o_4 : AC := (AC.seq (AC.reg [] [(I.mk (some 11) none false (X.v (A.load (Sh.ag [Sh.s, Sh.p]) (O.t 3)))), (I.mk none none false (X.store (Sh.ag [Sh.s, Sh.p]) (O.t 2) (O.t 11)))] []) AC.ret)
def A17o_3 : AC := (AC.seq (AC.reg [.clr [9]] [(I.mk (some 7) none false (X.v (A.fld (O.t 1) 1 1))), (I.mk (some 8) none false (X.v (A.load Sh.p (O.t 7)))), (I.mk (some 9) none false (X.callO (O.k (V.fn 50 [] [])) [(O.t 8)])), (I.mk (some 10) none false (X.v (A.fld (O.t 3) 1 1))), (I.mk none none false (X.store Sh.p (O.t 10) (O.t 9)))] []) A17o_4)
def A17o_2 : AC := (AC.seq (AC.reg [] [(I.mk (some 4) none false (X.v (A.fld (O.t 1) 0 0))), (I.mk (some 5) none false (X.v (A.load Sh.s (O.t 4)))), (I.mk (some 6) none false (X.v (A.fld (O.t 3) 0 0))), (I.mk none none false (X.store Sh.s (O.t 6) (O.t 5)))] []) A17o_3)
def A17o_1 : AC := (AC.seq (AC.reg [.clr [3]] [(I.mk (some 3) none false (X.alloc (V.agg [(V.int IntKind.i64 (Int.ofNat 0)), (V.sl Tok.nl (Sh.ag [Sh.s, Sh.s]) 0 [])])))] []) A17o_2)
def A17o : AC := (AC.seq (AC.reg [.clr [1, 2]] [(I.mk (some 1) none false (X.box (O.t 0))), (I.mk (some 2) none false (X.alloc (V.agg [(V.int IntKind.i64 (Int.ofNat 0)), (V.sl Tok.nl (Sh.ag [Sh.s, Sh.s]) 0 [])])))] []) A17o_1)
def an17o : List An := [{ id := 0, pre := [.clr [1, 2]], ep := [], lin := [], sp := [] }, { id := 1, pre := [.clr [3]], ep := [], lin := [], sp := [] }, { id := 3, pre := [.clr [9]], ep := [], lin := [], sp := [1002] }]
theorem c17o : cC Try.prog Try.f17.ntmps an17o (Try.f17.body.getD .skip) = some A17o := by kernel_rfl
structure H17o (D : Den) (σ : Sig) (F : Nat) : Prop where
  c50o : ∀ (x0 : (List (Int × Int))) r, w_toIntA2S_o F x0 = some r → D 1000000050 [Enc.enc x0] = some (encO .sh (r : NL (Int × Int)))
  g50o : σ 1000000050 = some (1, false)
abbrev R17o (r : (Int × (NL (Int × Int)))) : (Nat → V) → Prop := RR Try.prog [.cell 2 29] 1 false (.agg [(Enc.enc (r.1 : Int)), (encO .sh (r.2 : NL (Int × Int)))])
section
variable {D : Den} {σ : Sig} {F : Nat} {r : (Int × (NL (Int × Int)))}
def w_toGraph_o (F : Nat) (a_1 : (Int × (List (Int × Int)))) : Option (Int × (NL (Int × Int))) :=
  (w_toIntA2S_o F a_1.2).bind fun r_2 =>
  some (a_1.1, r_2)
theorem t17o (H : H17o D σ F) (a_1 : (Int × (List (Int × Int)))) (s : Nat → V) (hs : Facts [(0, (.agg [(.int .i64 a_1.1), (Enc.enc (a_1.2 : List (Int × Int)))]))] s) (h : w_toGraph_o F a_1 = some r) : Run D σ (R17o r) (.run A17o []) s := by
  unfold w_toGraph_o at h
  have h0 := hs
  refine .seq ?_
  refine run_reg ?_
  refine e_clr ?_
  refine e_end ?_
  refine g_box (.agg [(.int .i64 a_1.1), (Enc.enc (a_1.2 : List (Int × Int)))]) (rd_of (keep_clear (s := s) (pk := [1, 2]) h0 rfl (map_agg (maps_cons rfl (maps_cons (Enc.map_enc _ (a_1.2 : List (Int × Int))) maps_nil)))) rfl) (gone_clear (s := s) (pk := [1, 2]) (t := 1) rfl) rfl ?_
  refine g_alloc (gone_clear (s := s) (pk := [1, 2]) (t := 2) rfl) ?_
  refine g_end ?_
  refine e_end ?_
  refine renew [(1, (.ref (.bx 1) 0 [] (.agg [(.int .i64 a_1.1), (Enc.enc (a_1.2 : List (Int × Int)))]))), (2, (.ref (.bx 2) 0 [] (.agg [(.int .i64 0), (.sl .nl (Enc.shp (Int × Int)) 0 [])])))] ⟨rfl, rfl⟩ ?_
  rintro s ⟨h1, h2⟩
  refine .nsq ?_
  refine .seq ?_
  refine run_reg ?_
  refine e_clr ?_
  refine e_end ?_
  refine g_alloc (gone_clear (s := s) (pk := [3]) (t := 3) rfl) ?_
  refine g_end ?_
  refine e_end ?_
  refine renew [(1, (.ref (.bx 1) 0 [] (.agg [(.int .i64 a_1.1), (Enc.enc (a_1.2 : List (Int × Int)))]))), (2, (.ref (.bx 2) 0 [] (.agg [(.int .i64 0), (.sl .nl (Enc.shp (Int × Int)) 0 [])]))), (3, (.ref (.bx 3) 0 [] (.agg [(.int .i64 0), (.sl .nl (Enc.shp (Int × Int)) 0 [])])))] ⟨(keep_clear (s := s) (pk := [3]) h1 rfl (map_bx rfl (map_agg (maps_cons rfl (maps_cons (Enc.map_enc _ (a_1.2 : List (Int × Int))) maps_nil))))), (keep_clear (s := s) (pk := [3]) h2 rfl (map_bx rfl (map_agg (maps_cons rfl (maps_cons rfl maps_nil))))), rfl⟩ ?_
  rintro s ⟨h1, h2, h3⟩
  refine .nsq ?_
  refine .seq ?_
  refine run_reg ?_
  refine e_end ?_
  refine g_v1 (t := 1) (u := (.ref (.bx 1) 0 [] (.agg [(.int .i64 a_1.1), (Enc.enc (a_1.2 : List (Int × Int)))]))) (.ref (.bx 1) 0 [0] (.int .i64 a_1.1)) h1 rfl rfl ?_
  refine g_v1 (t := 4) (u := (.ref (.bx 1) 0 [0] (.int .i64 a_1.1))) (.int .i64 a_1.1) rfl rfl rfl ?_
  refine g_v1 (t := 3) (u := (.ref (.bx 3) 0 [] (.agg [(.int .i64 0), (.sl .nl (Enc.shp (Int × Int)) 0 [])]))) (.ref (.bx 3) 0 [0] (.int .i64 0)) h3 rfl rfl ?_
  refine g_store (.int .i64 a_1.1) (rd_of rfl rfl) (rd_of rfl rfl) (by refine ⟨by decide, by decide, rfl, rfl, rfl, ?_⟩; first | rfl | simp [V.toks, V.tokss, Enc.toks_enc]) ?_
  refine g_end ?_
  refine e_end ?_
  refine renew [(1, (.ref (.bx 1) 0 [] (.agg [(.int .i64 a_1.1), (Enc.enc (a_1.2 : List (Int × Int)))]))), (2, (.ref (.bx 2) 0 [] (.agg [(.int .i64 0), (.sl .nl (Enc.shp (Int × Int)) 0 [])]))), (3, (.ref (.bx 3) 0 [] (.agg [(.int .i64 a_1.1), (.sl .nl (Enc.shp (Int × Int)) 0 [])])))] ⟨(keep_mut h1 (mut_ref_ne rfl rfl (mut_agg (muts_cons rfl (muts_cons (Enc.mut_enc _ _ _ _ (a_1.2 : List (Int × Int))) rfl))))), (keep_mut h2 (mut_ref_ne rfl rfl (mut_agg (muts_cons rfl (muts_cons rfl rfl))))), (keep_mut h3 rfl)⟩ ?_
  rintro s ⟨h1, h2, h3⟩
  refine .nsq ?_
  refine .seq ?_
  refine run_reg ?_
  refine e_clr ?_
  refine e_end ?_
  refine g_v1 (t := 1) (u := (.ref (.bx 1) 0 [] (.agg [(.int .i64 a_1.1), (Enc.enc (a_1.2 : List (Int × Int)))]))) (.ref (.bx 1) 0 [1] (Enc.enc (a_1.2 : List (Int × Int)))) (keep_clear (s := s) (pk := [9]) h1 rfl (map_bx rfl (map_agg (maps_cons rfl (maps_cons (Enc.map_enc _ (a_1.2 : List (Int × Int))) maps_nil))))) rfl rfl ?_
  refine g_v1 (t := 7) (u := (.ref (.bx 1) 0 [1] (Enc.enc (a_1.2 : List (Int × Int))))) (Enc.enc (a_1.2 : List (Int × Int))) rfl rfl rfl ?_
  obtain ⟨r_2, E_r_2, h⟩ := bind_some h
  refine g_callO (m := 1) (al := false) (r := (encO .sh (r_2 : NL (Int × Int)))) (v := (encO (.at 9 []) (r_2 : NL (Int × Int)))) (kk := 1000000050) [Enc.enc (a_1.2 : (List (Int × Int)))] (ta_cons (v := (Enc.enc (a_1.2 : List (Int × Int)))) rfl rfl (Enc.erase_enc (a_1.2 : (List (Int × Int)))) ta_nil) (H.c50o _ _ E_r_2) H.g50o rfl toks_encS tag_encO ok_encP (gone_clear (s := s) (pk := [9]) (t := 9) rfl) ?_
  refine g_v1 (t := 3) (u := (.ref (.bx 3) 0 [] (.agg [(.int .i64 a_1.1), (.sl .nl (Enc.shp (Int × Int)) 0 [])]))) (.ref (.bx 3) 0 [1] (.sl .nl (Enc.shp (Int × Int)) 0 [])) (keep_clear (s := s) (pk := [9]) h3 rfl (map_bx rfl (map_agg (maps_cons rfl (maps_cons rfl maps_nil))))) rfl rfl ?_
  refine g_store (encO (.at 9 []) (r_2 : NL (Int × Int))) (rd_of rfl rfl) (rd_of rfl ok_encP) ⟨by decide, by decide, mem_encP, shp_encP, rfl, tok_encP rfl rfl⟩ ?_
  refine g_end ?_
  refine e_end ?_
  refine renew [(2, (.ref (.bx 2) 0 [] (.agg [(.int .i64 0), (.sl .nl (Enc.shp (Int × Int)) 0 [])]))), (3, (.ref (.bx 3) 0 [] (.agg [(.int .i64 a_1.1), (encO (.at 9 []) (r_2 : NL (Int × Int)))])))] ⟨(keep_mut (keep_clear (s := s) (pk := [9]) h2 rfl (map_bx rfl (map_agg (maps_cons rfl (maps_cons rfl maps_nil))))) (mut_ref_ne rfl rfl (mut_agg (muts_cons rfl (muts_cons rfl rfl))))), (keep_mut (keep_clear (s := s) (pk := [9]) h3 rfl (map_bx rfl (map_agg (maps_cons rfl (maps_cons rfl maps_nil))))) rfl)⟩ ?_
  rintro s ⟨h2, h3⟩
  refine .nsq ?_
  refine .seq ?_
  refine run_reg ?_
  refine e_end ?_
  refine g_v (.agg [(.int .i64 a_1.1), (encO (.at 9 []) (r_2 : NL (Int × Int)))]) (ev_loadN (c := (.agg [(.int .i64 a_1.1), (encO (.at 9 []) (r_2 : NL (Int × Int)))])) h3 (by simp [V.shape, V.shapes, shape_encP, Sh.beq, Sh.beqs])) ?_
  refine g_store (.agg [(.int .i64 a_1.1), (encO (.at 9 []) (r_2 : NL (Int × Int)))]) (rd_of h2 rfl) (rd_of rfl rfl) ⟨by decide, by decide, rfl, (by simp [V.shape, V.shapes, shape_encP, Sh.beq, Sh.beqs]), (by simp [V.shape, V.shapes, shape_encP, Sh.beq, Sh.beqs]), (by simp [V.toks, V.tokss, tok_memP])⟩ ?_
  refine g_end ?_
  refine e_end ?_
  refine renew [(2, (.ref (.bx 2) 0 [] (.agg [(.int .i64 a_1.1), (encO (.at 9 []) (r_2 : NL (Int × Int)))])))] (keep_mut h2 rfl) ?_
  rintro s h2
  refine .nsq ?_
  refine .ret ?_
  have hr := Option.some.inj h
  subst hr
  exact rrA (res_cell h2 (by simp only [V.shape, V.shapes, shape_encP]; kernel_rfl)) (fin_retO (finO_agg (finOs_cons finO_int (finOs_cons (finO_own (o := (r_2 : NL (Int × Int)))) finOs_nil))) rfl (mine_agg (mines_cons rfl (mines_cons (mine_own rfl) mines_nil))))
end
def e17o (F : Nat) : Ent := ⟨1000000017, da (fun (x : ((Int × (List (Int × Int))) × Unit)) => w_toGraph_o F x.1) (fun (r : (Int × (NL (Int × Int)))) => (.agg [(Enc.enc (r.1 : Int)), (encO .sh (r.2 : NL (Int × Int)))])), 1, false, selF []⟩
theorem p17o {F : Nat} {x0 : (Int × (List (Int × Int)))} {r : (Int × (NL (Int × Int)))} (h : w_toGraph_o F x0 = some r) : (e17o F).den [Enc.enc x0] = some (.agg [(Enc.enc (r.1 : Int)), (encO .sh (r.2 : NL (Int × Int)))]) := da_put (f := fun (x : ((Int × (List (Int × Int))) × Unit)) => w_toGraph_o F x.1) (t := fun (r : (Int × (NL (Int × Int)))) => (.agg [(Enc.enc (r.1 : Int)), (encO .sh (r.2 : NL (Int × Int)))])) (x0, ()) h
theorem o17o {D : Den} {σ : Sig} {F : Nat} (hF : Fits2 Try.prog D σ) (H : H17o D σ F) : (e17o F).Ok Try.prog := by
  refine ok_of (f := 17) (show unk 1000000017 = 17 from rfl) (fun args r h => ?_) ⟨Try.f17, Try.func17, rfl, rfl⟩
  obtain ⟨⟨x0, _⟩, y, rfl, hy, rfl⟩ := da_open h
  exact contract_run hF (by kernel_rfl) Try.func17 rfl c17o (show 1 ≤ Try.f17.ntmps by decide) (t17o H x0 _ rfl hy)
/- loop.example/g01109/laws.markIntA2S -/
def A55_2 : AC := (AC.cond (O.t 10) AC.skip (AC.exit 0))
def A55_6 : AC := (AC.cond (O.t 14) AC.skip (AC.exit 2))
def A55_8 : AC := (AC.reg [] [(I.mk (some 23) none false (X.v (A.mov (O.t 1)))), (I.mk (some 24) none false (X.v (A.bin BinOp.add (O.t 23) (O.k (V.int IntKind.i64 (Int.ofNat 1)))))), (I.mk (some 1) none false (X.v (A.mov (O.t 24))))] [])
def A55_9 : AC := (AC.reg [] [(I.mk (some 15) none false (X.v (A.mov (O.t 6)))), (I.mk (some 16) none false (X.v (A.bin BinOp.add (O.t 15) (O.k (V.int IntKind.i64 (Int.ofNat 1)))))), (I.mk (some 6) none false (X.v (A.mov (O.t 16))))] [])
def A55_7 : AC := (AC.seq (AC.block 3 (AC.seq (AC.reg [] [(I.mk (some 17) none false (X.v (A.mov (O.t 0)))), (I.mk (some 18) none false (X.v (A.mov (O.t 5)))), (I.mk (some 19) none false (X.v (A.mov (O.t 6)))), (I.mk (some 20) none false (X.v (A.mov (O.t 1)))), (I.mk (some 21) none false (X.v (A.idx (O.t 17) (O.t 18) 2))), (I.mk (some 22) none false (X.v (A.idxA (O.t 21) (O.t 19) 2 1))), (I.mk none none false (X.store Sh.s (O.t 22) (O.t 20)))] []) A55_8)) A55_9)
def A55_5 : AC := (AC.seq (AC.seq (AC.reg [] [(I.mk (some 13) none false (X.v (A.mov (O.t 6)))), (I.mk (some 14) none false (X.v (A.bin BinOp.lss (O.t 13) (O.k (V.int IntKind.i64 (Int.ofNat 2))))))] []) A55_6) A55_7)
def A55_4 : AC := (AC.block 2 (AC.loop A55_5))
def A55_10 : AC := (AC.reg [] [(I.mk (some 11) none false (X.v (A.mov (O.t 5)))), (I.mk (some 12) none false (X.v (A.bin BinOp.add (O.t 11) (O.k (V.int IntKind.i64 (Int.ofNat 1)))))), (I.mk (some 5) none false (X.v (A.mov (O.t 12))))] [])
def A55_3 : AC := (AC.seq (AC.block 1 (AC.seq (AC.reg [] [(I.mk (some 6) none false (X.v (A.mov (O.k (V.int IntKind.i64 (Int.ofNat 0))))))] []) A55_4)) A55_10)
def A55_1 : AC := (AC.seq (AC.seq (AC.reg [] [(I.mk (some 7) none false (X.v (A.mov (O.t 5)))), (I.mk (some 8) none false (X.v (A.mov (O.t 0)))), (I.mk (some 9) none false (X.v (A.len (O.t 8)))), (I.mk (some 10) none false (X.v (A.bin BinOp.lss (O.t 7) (O.t 9))))] []) A55_2) A55_3)
def A55_11 : AC := (AC.seq (AC.reg [] [(I.mk (some 25) none false (X.v (A.mov (O.t 1)))), (I.mk (some 4) none false (X.v (A.mov (O.t 25))))] []) AC.ret)
def A55_13 : AC := (AC.block 0 (AC.loop A55_1))
def A55_12 : AC := (AC.seq (AC.seq (AC.reg [] [(I.mk (some 5) none false (X.v (A.mov (O.k (V.int IntKind.i64 (Int.ofNat 0))))))] []) A55_13) A55_11)
def A55 : AC := (AC.seq (AC.reg [] [(I.mk (some 4) none false (X.v (A.mov (O.k (V.int IntKind.i64 (Int.ofNat 0))))))] []) A55_12)
def an55 : List An := []
theorem c55 : cC Try.prog Try.f55.ntmps an55 (Try.f55.body.getD .skip) = some A55 := by kernel_rfl
structure H55 (D : Den) (σ : Sig) (F : Nat) : Prop where
  mk ::
abbrev R55 (r : (Int × NL (Int × Int))) : (Nat → V) → Prop := RM Try.prog [.tmp 4] (Enc.enc (r.1 : Int)) (encO (.at pinR []) (r.2 : NL (Int × Int)))
section
variable {D : Den} {σ : Sig} {F : Nat} {r : (Int × NL (Int × Int))}
def w_markIntA2S_l1 (F : Nat) (i_13 : Int) (c1 : (NL (Int × Int)) → Int → Int → Option (Int × NL (Int × Int))) : Nat → (NL (Int × Int)) → Int → Int → Option (Int × NL (Int × Int))
  | 0, _, _, _ => none
  | k + 1, a_23, k_24, j_25 =>
    bif decide (j_25 < 2) then
      (idx a_23.list i_13).bind fun e_28 =>
      (idx [e_28.1, e_28.2] j_25).bind fun e_29 =>
      (w_markIntA2S_l1 F i_13 c1 k) (NL.set2 a_23 i_13.toNat j_25 k_24) (w64 (k_24 + 1)) (w64 (j_25 + 1))
    else
      c1 a_23 k_24 (w64 (i_13 + 1))
theorem t_f55_l1 (H : H55 D σ F) (i_13 : Int) (c1 : (NL (Int × Int)) → Int → Int → Option (Int × NL (Int × Int))) (Hc1 : ∀ (a_11 : (NL (Int × Int))) (k_12 : Int) (i_13 : Int) (s : Nat → V), Facts [(0, (encO (.at pinR []) (a_11 : NL (Int × Int)))), (1, (.int .i64 k_12)), (4, (.int .i64 0)), (5, (.int .i64 i_13))] s → c1 a_11 k_12 i_13 = some r → Run D σ (R55 r) (.run A55_1 [.lp A55_1, .bk 0, .sq A55_11]) s) : ∀ (k : Nat) (a_23 : (NL (Int × Int))) (k_24 : Int) (j_25 : Int) (s : Nat → V), Facts [(0, (encO (.at pinR []) (a_23 : NL (Int × Int)))), (1, (.int .i64 k_24)), (4, (.int .i64 0)), (5, (.int .i64 i_13)), (6, (.int .i64 j_25))] s → w_markIntA2S_l1 F i_13 c1 k a_23 k_24 j_25 = some r → Run D σ (R55 r) (.run A55_5 [.lp A55_5, .bk 2, .bk 1, .sq A55_10, .lp A55_1, .bk 0, .sq A55_11]) s := by
  intro k
  induction k with
  | zero => intro a_23 k_24 j_25 s _ h; exact nomatch (h : (none : Option _) = some r)
  | succ k ih =>
    intro a_23 k_24 j_25 s hs h
    rw [w_markIntA2S_l1] at h
    obtain ⟨h0, h1, h4, h5, h6⟩ := hs
    refine .seq ?_
    refine .seq ?_
    refine run_reg ?_
    refine e_end ?_
    refine g_v1 (t := 6) (u := (.int .i64 j_25)) (.int .i64 j_25) h6 rfl rfl ?_
    refine g_v1 (t := 13) (u := (.int .i64 j_25)) (.bool (decide (j_25 < 2))) rfl rfl rfl ?_
    refine g_end ?_
    refine e_end ?_
    refine renew [(0, (encO (.at pinR []) (a_23 : NL (Int × Int)))), (1, (.int .i64 k_24)), (4, (.int .i64 0)), (5, (.int .i64 i_13)), (6, (.int .i64 j_25)), (14, (.bool (decide (j_25 < 2))))] ⟨h0, h1, h4, h5, h6, rfl⟩ ?_
    rintro s ⟨h0, h1, h4, h5, h6, h14⟩
    refine .nsq ?_
    refine run_cond (t := decide (j_25 < 2)) h14 h (fun h => ?_) (fun h => ?_)
    · refine .skip ?_
      refine .nsq ?_
      refine .seq ?_
      refine .block ?_
      refine .seq ?_
      refine run_reg ?_
      refine e_end ?_
      refine g_v (encO (.at pinR []) (a_23 : NL (Int × Int))) (ev_mov h0 ok_encO) ?_
      refine g_v1 (t := 5) (u := (.int .i64 i_13)) (.int .i64 i_13) h5 rfl rfl ?_
      refine g_v1 (t := 6) (u := (.int .i64 j_25)) (.int .i64 j_25) h6 rfl rfl ?_
      refine g_v1 (t := 1) (u := (.int .i64 k_24)) (.int .i64 k_24) h1 rfl rfl ?_
      obtain ⟨e_28, E_e_28, h⟩ := bind_some h
      refine g_v (.ref (.at pinR []) i_13.toNat [] (.agg [(.int .i64 e_28.1), (.int .i64 e_28.2)])) (ev_idxO (o := a_23) rfl rfl E_e_28 rfl) ?_
      obtain ⟨e_29, E_e_29, h⟩ := bind_some h
      refine g_v (.ref (.at pinR []) i_13.toNat [j_25.toNat] (.int .i64 e_29)) (ev_idxA (xs := [e_28.1, e_28.2]) (a := e_29) (n := j_25) (q := []) rfl rfl E_e_29 rfl rfl rfl) ?_
      refine g_store (.int .i64 k_24) (rd_of rfl rfl) (rd_of rfl rfl) (by refine ⟨by decide, by decide, rfl, rfl, rfl, ?_⟩; first | rfl | simp [V.toks, V.tokss, Enc.toks_enc]) ?_
      refine g_end ?_
      refine e_end ?_
      refine renew [(0, (encO (.at pinR []) ((NL.set2 a_23 i_13.toNat j_25 k_24) : NL (Int × Int)))), (1, (.int .i64 k_24)), (4, (.int .i64 0)), (5, (.int .i64 i_13)), (6, (.int .i64 j_25))] ⟨(keep_mut h0 (mut_own2 (o := a_23) E_e_29 rfl)), (keep_mut h1 rfl), (keep_mut h4 rfl), (keep_mut h5 rfl), (keep_mut h6 rfl)⟩ ?_
      rintro s ⟨h0, h1, h4, h5, h6⟩
      refine .nsq ?_
      refine run_reg ?_
      refine e_end ?_
      refine g_v1 (t := 1) (u := (.int .i64 k_24)) (.int .i64 k_24) h1 rfl rfl ?_
      refine g_v1 (t := 23) (u := (.int .i64 k_24)) (.int .i64 (w64 (k_24 + 1))) rfl rfl rfl ?_
      refine g_v1 (t := 24) (u := (.int .i64 (w64 (k_24 + 1)))) (.int .i64 (w64 (k_24 + 1))) rfl rfl rfl ?_
      refine g_end ?_
      refine e_end ?_
      refine renew [(0, (encO (.at pinR []) ((NL.set2 a_23 i_13.toNat j_25 k_24) : NL (Int × Int)))), (1, (.int .i64 (w64 (k_24 + 1)))), (4, (.int .i64 0)), (5, (.int .i64 i_13)), (6, (.int .i64 j_25))] ⟨h0, rfl, h4, h5, h6⟩ ?_
      rintro s ⟨h0, h1, h4, h5, h6⟩
      refine .nbk ?_
      refine .nsq ?_
      refine run_reg ?_
      refine e_end ?_
      refine g_v1 (t := 6) (u := (.int .i64 j_25)) (.int .i64 j_25) h6 rfl rfl ?_
      refine g_v1 (t := 15) (u := (.int .i64 j_25)) (.int .i64 (w64 (j_25 + 1))) rfl rfl rfl ?_
      refine g_v1 (t := 16) (u := (.int .i64 (w64 (j_25 + 1)))) (.int .i64 (w64 (j_25 + 1))) rfl rfl rfl ?_
      refine g_end ?_
      refine e_end ?_
      refine renew [(0, (encO (.at pinR []) ((NL.set2 a_23 i_13.toNat j_25 k_24) : NL (Int × Int)))), (1, (.int .i64 (w64 (k_24 + 1)))), (4, (.int .i64 0)), (5, (.int .i64 i_13)), (6, (.int .i64 (w64 (j_25 + 1))))] ⟨h0, h1, h4, h5, rfl⟩ ?_
      rintro s ⟨h0, h1, h4, h5, h6⟩
      refine .nlp ?_
      exact ih (NL.set2 a_23 i_13.toNat j_25 k_24) (w64 (k_24 + 1)) (w64 (j_25 + 1)) _ ⟨h0, h1, h4, h5, h6⟩ h
    · refine .exit ?_
      refine .esq ?_
      refine .elp ?_
      refine .ebk ?_
      refine .nbk ?_
      refine .nsq ?_
      refine run_reg ?_
      refine e_end ?_
      refine g_v1 (t := 5) (u := (.int .i64 i_13)) (.int .i64 i_13) h5 rfl rfl ?_
      refine g_v1 (t := 11) (u := (.int .i64 i_13)) (.int .i64 (w64 (i_13 + 1))) rfl rfl rfl ?_
      refine g_v1 (t := 12) (u := (.int .i64 (w64 (i_13 + 1)))) (.int .i64 (w64 (i_13 + 1))) rfl rfl rfl ?_
      refine g_end ?_
      refine e_end ?_
      refine renew [(0, (encO (.at pinR []) (a_23 : NL (Int × Int)))), (1, (.int .i64 k_24)), (4, (.int .i64 0)), (5, (.int .i64 (w64 (i_13 + 1))))] ⟨h0, h1, h4, rfl⟩ ?_
      rintro s ⟨h0, h1, h4, h5⟩
      refine .nlp ?_
      exact Hc1 a_23 k_24 (w64 (i_13 + 1)) _ ⟨h0, h1, h4, h5⟩ h
def w_markIntA2S_l2 (F : Nat)   : Nat → (NL (Int × Int)) → Int → Int → Option (Int × NL (Int × Int))
  | 0, _, _, _ => none
  | k + 1, a_11, k_12, i_13 =>
    bif decide (i_13 < (a_11.list.length : Int)) then
      w_markIntA2S_l1 F i_13 (w_markIntA2S_l2 F k) F a_11 k_12 0
    else
      some (k_12, a_11)
theorem t_f55_l2 (H : H55 D σ F)   : ∀ (k : Nat) (a_11 : (NL (Int × Int))) (k_12 : Int) (i_13 : Int) (s : Nat → V), Facts [(0, (encO (.at pinR []) (a_11 : NL (Int × Int)))), (1, (.int .i64 k_12)), (4, (.int .i64 0)), (5, (.int .i64 i_13))] s → w_markIntA2S_l2 F k a_11 k_12 i_13 = some r → Run D σ (R55 r) (.run A55_1 [.lp A55_1, .bk 0, .sq A55_11]) s := by
  intro k
  induction k with
  | zero => intro a_11 k_12 i_13 s _ h; exact nomatch (h : (none : Option _) = some r)
  | succ k ih =>
    intro a_11 k_12 i_13 s hs h
    rw [w_markIntA2S_l2] at h
    obtain ⟨h0, h1, h4, h5⟩ := hs
    refine .seq ?_
    refine .seq ?_
    refine run_reg ?_
    refine e_end ?_
    refine g_v1 (t := 5) (u := (.int .i64 i_13)) (.int .i64 i_13) h5 rfl rfl ?_
    refine g_v (encO (.at pinR []) (a_11 : NL (Int × Int))) (ev_mov h0 ok_encO) ?_
    refine g_v (.int .i64 (a_11.list.length : Int)) (ev_lenO (o := a_11) rfl) ?_
    refine g_v2 (t1 := 7) (t2 := 9) (u1 := (.int .i64 i_13)) (u2 := (.int .i64 (a_11.list.length : Int))) (.bool (decide (i_13 < (a_11.list.length : Int)))) rfl rfl rfl rfl ?_
    refine g_end ?_
    refine e_end ?_
    refine renew [(0, (encO (.at pinR []) (a_11 : NL (Int × Int)))), (1, (.int .i64 k_12)), (4, (.int .i64 0)), (5, (.int .i64 i_13)), (10, (.bool (decide (i_13 < (a_11.list.length : Int)))))] ⟨h0, h1, h4, h5, rfl⟩ ?_
    rintro s ⟨h0, h1, h4, h5, h10⟩
    refine .nsq ?_
    refine run_cond (t := decide (i_13 < (a_11.list.length : Int))) h10 h (fun h => ?_) (fun h => ?_)
    · refine .skip ?_
      refine .nsq ?_
      refine .seq ?_
      refine .block ?_
      refine .seq ?_
      refine run_reg ?_
      refine e_end ?_
      refine g_v0 (.int .i64 0) rfl rfl ?_
      refine g_end ?_
      refine e_end ?_
      refine renew [(0, (encO (.at pinR []) (a_11 : NL (Int × Int)))), (1, (.int .i64 k_12)), (4, (.int .i64 0)), (5, (.int .i64 i_13)), (6, (.int .i64 0))] ⟨h0, h1, h4, h5, rfl⟩ ?_
      rintro s ⟨h0, h1, h4, h5, h6⟩
      refine .nsq ?_
      refine .block ?_
      refine .loop ?_
      exact t_f55_l1 H i_13 (w_markIntA2S_l2 F k) ih F a_11 k_12 0 _ ⟨h0, h1, h4, h5, h6⟩ h
    · refine .exit ?_
      refine .esq ?_
      refine .elp ?_
      refine .ebk ?_
      refine .nsq ?_
      refine .seq ?_
      refine run_reg ?_
      refine e_end ?_
      refine g_v1 (t := 1) (u := (.int .i64 k_12)) (.int .i64 k_12) h1 rfl rfl ?_
      refine g_v1 (t := 25) (u := (.int .i64 k_12)) (.int .i64 k_12) rfl rfl rfl ?_
      refine g_end ?_
      refine e_end ?_
      refine renew [(0, (encO (.at pinR []) (a_11 : NL (Int × Int)))), (4, (.int .i64 k_12))] ⟨h0, rfl⟩ ?_
      rintro s ⟨h0, h4⟩
      refine .nsq ?_
      refine .ret ?_
      have hr := Option.some.inj h
      subst hr
      exact rmA (res_tmp h4) h0
def w_markIntA2S (F : Nat) (a_1 : (On (Int × Int))) (k_2 : Int) : Option (Int × NL (Int × Int)) :=
  w_markIntA2S_l2 F F a_1.v k_2 0
theorem t55 (H : H55 D σ F) (a_1 : (On (Int × Int))) (k_2 : Int) (s : Nat → V) (hs : Facts [(0, (encO (.at pinR []) (a_1.v : NL (Int × Int)))), (1, (.int .i64 k_2))] s) (h : w_markIntA2S F a_1 k_2 = some r) : Run D σ (R55 r) (.run A55 []) s := by
  unfold w_markIntA2S at h
  obtain ⟨h0, h1⟩ := hs
  refine .seq ?_
  refine run_reg ?_
  refine e_end ?_
  refine g_v0 (.int .i64 0) rfl rfl ?_
  refine g_end ?_
  refine e_end ?_
  refine renew [(0, (encO (.at pinR []) (a_1.v : NL (Int × Int)))), (1, (.int .i64 k_2)), (4, (.int .i64 0))] ⟨h0, h1, rfl⟩ ?_
  rintro s ⟨h0, h1, h4⟩
  refine .nsq ?_
  refine .seq ?_
  refine .seq ?_
  refine run_reg ?_
  refine e_end ?_
  refine g_v0 (.int .i64 0) rfl rfl ?_
  refine g_end ?_
  refine e_end ?_
  refine renew [(0, (encO (.at pinR []) (a_1.v : NL (Int × Int)))), (1, (.int .i64 k_2)), (4, (.int .i64 0)), (5, (.int .i64 0))] ⟨h0, h1, h4, rfl⟩ ?_
  rintro s ⟨h0, h1, h4, h5⟩
  refine .nsq ?_
  refine .block ?_
  refine .loop ?_
  exact t_f55_l2 H F a_1.v k_2 0 _ ⟨h0, h1, h4, h5⟩ h
end
def e55 (F : Nat) : Ent := ⟨55, da (fun (x : ((On (Int × Int)) × Int × Unit)) => w_markIntA2S F x.1 x.2.1) (fun (r : (Int × NL (Int × Int))) => (.tup [Enc.enc (r.1 : Int), encO (.at pinR []) (r.2 : NL (Int × Int))])), pinR, false, selF []⟩
theorem p55 {F : Nat} {x0 : (On (Int × Int))} {x1 : Int} {r : (Int × NL (Int × Int))} (h : w_markIntA2S F x0 x1 = some r) : (e55 F).den [Arg.arg x0, Enc.enc x1] = some (.tup [Enc.enc (r.1 : Int), encO (.at pinR []) (r.2 : NL (Int × Int))]) := da_put (f := fun (x : ((On (Int × Int)) × Int × Unit)) => w_markIntA2S F x.1 x.2.1) (t := fun (r : (Int × NL (Int × Int))) => (.tup [Enc.enc (r.1 : Int), encO (.at pinR []) (r.2 : NL (Int × Int))])) (x0, x1, ()) h
theorem o55 {D : Den} {σ : Sig} {F : Nat} (hF : Fits2 Try.prog D σ) (H : H55 D σ F) : (e55 F).Ok Try.prog := by
  refine ok_of (f := 55) (show unk 55 = 55 from rfl) (fun args r h => ?_) ⟨Try.f55, Try.func55, rfl, rfl⟩
  obtain ⟨⟨x0, x1, _⟩, y, rfl, hy, rfl⟩ := da_open h
  exact contractM_run hF (by kernel_rfl) Try.func55 rfl c55 (all_ok2 ok_encP rfl) (show 2 ≤ Try.f55.ntmps by decide) (by decide) (t55 H x0 x1 _ ⟨rfl, rfl⟩ hy)
end Go.Zq
