/- Functions of the program as typed functions, and that the machine runs as they say (part 3). No further condition. -/
import Derived.Test.YthblbfcloccopaaKC
import Derived.Test.YthblbfcloccopaaProg
import Derived.Test.YthblbfcloccopaaChecked
import Derived.KernelRfl
import Derived.Test.YthblbfcloccopaaG2
set_option linter.unusedVariables false
set_option linter.unusedSimpArgs false
/- Functions of the program, as typed functions, and that the machine runs as they say. -/
namespace Go.Zq
open Go.Proofs Go.Shelf
/- (loop.example/g01109/impl.net).filling -/
def A130_11 : AC := (AC.reg [] [(I.mk (some 40) none false (X.v (A.fld (O.t 5) 0 0))), (I.mk (some 41) none false (X.v (A.load Sh.p (O.t 40)))), (I.mk (some 42) none false (X.v (A.mov (O.t 11)))), (I.mk (some 43) none false (X.v (A.idx (O.t 41) (O.t 42) 1))), (I.mk (some 44) none false (X.v (A.load Sh.s (O.t 43)))), (I.mk (some 45) none false (X.v (A.mov (O.t 9)))), (I.mk (some 46) none false (X.v (A.mov (O.t 11)))), (I.mk (some 47) none false (X.v (A.bin BinOp.shl (O.k (V.int IntKind.i64 (Int.ofNat 1))) (O.t 46)))), (I.mk (some 48) none false (X.v (A.bin BinOp.andNot (O.t 45) (O.t 47)))), (I.mk (some 49) none false (X.v (A.bin BinOp.or (O.t 44) (O.t 48)))), (I.mk (some 50) none false (X.v (A.idx (O.t 41) (O.t 42) 1))), (I.mk none none false (X.store Sh.s (O.t 50) (O.t 49)))] [])
def A130_12 : AC := (AC.reg [] [(I.mk (some 51) none false (X.v (A.bin BinOp.add (O.t 36) (O.k (V.int IntKind.i64 (Int.ofNat 1)))))), (I.mk (some 36) none false (X.v (A.mov (O.t 51))))] [])
def A130_10 : AC := (AC.seq (AC.block 3 (AC.seq (AC.reg [] [(I.mk (some 38) none false (X.v (A.idx (O.t 34) (O.t 36) 1))), (I.mk (some 39) none false (X.v (A.load Sh.s (O.t 38)))), (I.mk (some 11) none false (X.v (A.mov (O.t 39))))] []) A130_11)) A130_12)
def A130_9 : AC := (AC.seq (AC.cond (O.t 37) AC.skip (AC.exit 2)) A130_10)
def A130_8 : AC := (AC.seq (AC.reg [] [(I.mk (some 37) none false (X.v (A.bin BinOp.lss (O.t 36) (O.t 35))))] []) A130_9)
def A130_7 : AC := (AC.block 2 (AC.loop A130_8))
def A130_6 : AC := (AC.seq (AC.reg [] [(I.mk (some 33) none false (X.v (A.mov (O.t 9)))), (I.mk (some 34) none false (X.call (O.k (V.fn 121 [] [])) [(O.t 33)])), (I.mk (some 35) none false (X.v (A.len (O.t 34)))), (I.mk (some 36) none false (X.v (A.mov (O.k (V.int IntKind.i64 (Int.ofNat 0))))))] []) A130_7)
def A130_5 : AC := (AC.seq (AC.reg [] [(I.mk (some 26) none false (X.v (A.fld (O.t 5) 0 0))), (I.mk (some 27) none false (X.v (A.load Sh.p (O.t 26)))), (I.mk (some 28) none false (X.v (A.mov (O.t 8)))), (I.mk (some 29) none false (X.v (A.idx (O.t 27) (O.t 28) 1))), (I.mk (some 30) none false (X.v (A.load Sh.s (O.t 29)))), (I.mk (some 31) none false (X.v (A.mov (O.t 6)))), (I.mk (some 32) none false (X.v (A.bin BinOp.and (O.t 30) (O.t 31)))), (I.mk (some 9) none false (X.v (A.mov (O.t 32))))] []) A130_6)
def A130_4 : AC := (AC.seq (AC.reg [] [(I.mk (some 22) none false (X.v (A.mov (O.t 6)))), (I.mk (some 23) none false (X.v (A.mov (O.t 8)))), (I.mk (some 24) none false (X.v (A.bin BinOp.shl (O.k (V.int IntKind.i64 (Int.ofNat 1))) (O.t 23)))), (I.mk (some 25) none false (X.v (A.bin BinOp.andNot (O.t 22) (O.t 24)))), (I.mk (some 6) none false (X.v (A.mov (O.t 25))))] []) A130_5)
def A130_13 : AC := (AC.reg [] [(I.mk (some 52) none false (X.v (A.bin BinOp.add (O.t 18) (O.k (V.int IntKind.i64 (Int.ofNat 1)))))), (I.mk (some 18) none false (X.v (A.mov (O.t 52))))] [])
def A130_3 : AC := (AC.seq (AC.block 1 (AC.seq (AC.reg [] [(I.mk (some 20) none false (X.v (A.idx (O.t 16) (O.t 18) 1))), (I.mk (some 21) none false (X.v (A.load Sh.s (O.t 20)))), (I.mk (some 8) none false (X.v (A.mov (O.t 21))))] []) A130_4)) A130_13)
def A130_2 : AC := (AC.seq (AC.cond (O.t 19) AC.skip (AC.exit 0)) A130_3)
def A130_1 : AC := (AC.seq (AC.reg [] [(I.mk (some 19) none false (X.v (A.bin BinOp.lss (O.t 18) (O.t 17))))] []) A130_2)
def A130_14 : AC := (AC.seq (AC.reg [] [(I.mk (some 53) none false (X.v (A.load (Sh.ag [Sh.p]) (O.t 5)))), (I.mk none none false (X.store (Sh.ag [Sh.p]) (O.t 4) (O.t 53)))] []) AC.ret)
def A130_18 : AC := (AC.block 0 (AC.loop A130_1))
def A130_17 : AC := (AC.seq (AC.seq (AC.reg [] [(I.mk (some 16) none false (X.v (A.mov (O.t 1)))), (I.mk (some 17) none false (X.v (A.len (O.t 16)))), (I.mk (some 18) none false (X.v (A.mov (O.k (V.int IntKind.i64 (Int.ofNat 0))))))] []) A130_18) A130_14)
def A130_16 : AC := (AC.seq (AC.reg [] [(I.mk (some 14) none false (X.v (A.load (Sh.ag [Sh.p]) (O.t 2)))), (I.mk (some 15) none false (X.call (O.k (V.fn 68 [] [])) [(O.t 14)])), (I.mk (some 6) none false (X.v (A.mov (O.t 15))))] []) A130_17)
def A130_15 : AC := (AC.seq (AC.reg [.clr [13, 5]] [(I.mk (some 12) none false (X.v (A.load (Sh.ag [Sh.p]) (O.t 2)))), (I.mk (some 13) none false (X.callO (O.k (V.fn 140 [] [])) [(O.t 12)])), (I.mk (some 5) none false (X.alloc (V.agg [(V.sl Tok.nl Sh.s 0 [])]))), (I.mk none none false (X.store (Sh.ag [Sh.p]) (O.t 5) (O.t 13)))] []) A130_16)
def A130 : AC := (AC.seq (AC.reg [.clr [2, 4]] [(I.mk (some 2) none false (X.box (O.t 0))), (I.mk (some 4) none false (X.alloc (V.agg [(V.sl Tok.nl Sh.s 0 [])])))] []) A130_15)
def an130 : List An := [{ id := 0, pre := [.clr [2, 4]], ep := [], lin := [], sp := [] }, { id := 1, pre := [.clr [13, 5]], ep := [], lin := [], sp := [1001] }]
theorem c130 : cC Try.prog Try.f130.ntmps an130 (Try.f130.body.getD .skip) = some A130 := by kernel_rfl
structure H130 (D : Den) (σ : Sig) (F : Nat) : Prop where
  c140o : ∀ (x0 : (S1 (List Int))) r, i_net_clone_o F x0 = some r → D 1000000140 [Enc.enc x0] = some (.agg [(encO .sh (r.a : NL Int))])
  g140o : σ 1000000140 = some (1, false)
  c68 : ∀ (x0 : (S1 (List Int))) r, i_net_all F x0 = some r → D 68 [Enc.enc x0] = some (Enc.enc (r : Int))
  g68 : σ 68 = some (0, false)
  c121 : ∀ (x0 : Int) r, i_setOf F x0 = some r → D 121 [Enc.enc x0] = some (Enc.enc (r : (List Int)))
  g121 : σ 121 = some (0, false)
abbrev R130 (r : (S1 (List Int))) : (Nat → V) → Prop := RR Try.prog [.cell 4 56] 0 false (Enc.enc (r : (S1 (List Int))))
section
variable {D : Den} {σ : Sig} {F : Nat} {r : (S1 (List Int))}
def i_net_filling_l1 (F : Nat) (left_24 : Int) (q_45 : Int) (e_46 : Int) (order_2 : (List Int)) (t18_25 : Int) (r_47 : (List Int)) (c1 : (NL Int) → Int → Int → Option (S1 (List Int))) : Nat → (NL Int) → Int → Option (S1 (List Int))
  | 0, _, _ => none
  | k + 1, out_52, t36_53 =>
    bif decide (t36_53 < (r_47.length : Int)) then
      (idx r_47 t36_53).bind fun e_58 =>
      (idx out_52.list e_58).bind fun e_59 =>
      (shlI .i64 1 e_58).bind fun q_60 =>
      (idx out_52.list e_58).bind fun e_61 =>
      (i_net_filling_l1 F left_24 q_45 e_46 order_2 t18_25 r_47 c1 k) (NL.set out_52 e_58.toNat (ior .i64 e_59 (iandNot .i64 (iand .i64 e_46 (iandNot .i64 left_24 q_45)) q_60))) (w64 (t36_53 + 1))
    else
      c1 out_52 (iandNot .i64 left_24 q_45) (w64 (t18_25 + 1))
theorem t_f130_l1 (H : H130 D σ F) (left_24 : Int) (q_45 : Int) (e_46 : Int) (order_2 : (List Int)) (t18_25 : Int) (r_47 : (List Int)) (c1 : (NL Int) → Int → Int → Option (S1 (List Int))) (Hc1 : ∀ (out_23 : (NL Int)) (left_24 : Int) (t18_25 : Int) (s : Nat → V), Facts [(4, (.ref (.bx 4) 0 [] (.agg [(.sl .nl (Enc.shp Int) 0 [])]))), (5, (.ref (.bx 5) 0 [] (.agg [(encO (.at 13 [0]) (out_23 : NL Int))]))), (6, (.int .i64 left_24)), (16, (Enc.enc (order_2 : List Int))), (17, (.int .i64 (order_2.length : Int))), (18, (.int .i64 t18_25))] s → c1 out_23 left_24 t18_25 = some r → Run D σ (R130 r) (.run A130_1 [.lp A130_1, .bk 0, .sq A130_14]) s) : ∀ (k : Nat) (out_52 : (NL Int)) (t36_53 : Int) (s : Nat → V), Facts [(4, (.ref (.bx 4) 0 [] (.agg [(.sl .nl (Enc.shp Int) 0 [])]))), (5, (.ref (.bx 5) 0 [] (.agg [(encO (.at 13 [0]) (out_52 : NL Int))]))), (6, (.int .i64 (iandNot .i64 left_24 q_45))), (9, (.int .i64 (iand .i64 e_46 (iandNot .i64 left_24 q_45)))), (16, (Enc.enc (order_2 : List Int))), (17, (.int .i64 (order_2.length : Int))), (18, (.int .i64 t18_25)), (34, (Enc.enc (r_47 : List Int))), (35, (.int .i64 (r_47.length : Int))), (36, (.int .i64 t36_53))] s → i_net_filling_l1 F left_24 q_45 e_46 order_2 t18_25 r_47 c1 k out_52 t36_53 = some r → Run D σ (R130 r) (.run A130_8 [.lp A130_8, .bk 2, .bk 1, .sq A130_13, .lp A130_1, .bk 0, .sq A130_14]) s := by
  intro k
  induction k with
  | zero => intro out_52 t36_53 s _ h; exact nomatch (h : (none : Option _) = some r)
  | succ k ih =>
    intro out_52 t36_53 s hs h
    rw [i_net_filling_l1] at h
    obtain ⟨h4, h5, h6, h9, h16, h17, h18, h34, h35, h36⟩ := hs
    refine .seq ?_
    refine run_reg ?_
    refine e_end ?_
    refine g_v2 (t1 := 36) (t2 := 35) (u1 := (.int .i64 t36_53)) (u2 := (.int .i64 (r_47.length : Int))) (.bool (decide (t36_53 < (r_47.length : Int)))) h36 h35 rfl rfl ?_
    refine g_end ?_
    refine e_end ?_
    refine renew [(4, (.ref (.bx 4) 0 [] (.agg [(.sl .nl (Enc.shp Int) 0 [])]))), (5, (.ref (.bx 5) 0 [] (.agg [(encO (.at 13 [0]) (out_52 : NL Int))]))), (6, (.int .i64 (iandNot .i64 left_24 q_45))), (9, (.int .i64 (iand .i64 e_46 (iandNot .i64 left_24 q_45)))), (16, (Enc.enc (order_2 : List Int))), (17, (.int .i64 (order_2.length : Int))), (18, (.int .i64 t18_25)), (34, (Enc.enc (r_47 : List Int))), (35, (.int .i64 (r_47.length : Int))), (36, (.int .i64 t36_53)), (37, (.bool (decide (t36_53 < (r_47.length : Int)))))] ⟨h4, h5, h6, h9, h16, h17, h18, h34, h35, h36, rfl⟩ ?_
    rintro s ⟨h4, h5, h6, h9, h16, h17, h18, h34, h35, h36, h37⟩
    refine .nsq ?_
    refine .seq ?_
    refine run_cond (t := decide (t36_53 < (r_47.length : Int))) h37 h (fun h => ?_) (fun h => ?_)
    · refine .skip ?_
      refine .nsq ?_
      refine .seq ?_
      refine .block ?_
      refine .seq ?_
      refine run_reg ?_
      refine e_end ?_
      obtain ⟨e_58, E_e_58, h⟩ := bind_some h
      refine g_v (.ref .sh 0 [] (.int .i64 e_58)) (ev_idx (t := .sh) (lo := 0) (xs := r_47) h34 h36 E_e_58 rfl rfl) ?_
      refine g_v1 (t := 38) (u := (.ref .sh 0 [] (.int .i64 e_58))) (.int .i64 e_58) rfl rfl rfl ?_
      refine g_v1 (t := 39) (u := (.int .i64 e_58)) (.int .i64 e_58) rfl rfl rfl ?_
      refine g_end ?_
      refine e_end ?_
      refine renew [(4, (.ref (.bx 4) 0 [] (.agg [(.sl .nl (Enc.shp Int) 0 [])]))), (5, (.ref (.bx 5) 0 [] (.agg [(encO (.at 13 [0]) (out_52 : NL Int))]))), (6, (.int .i64 (iandNot .i64 left_24 q_45))), (9, (.int .i64 (iand .i64 e_46 (iandNot .i64 left_24 q_45)))), (11, (.int .i64 e_58)), (16, (Enc.enc (order_2 : List Int))), (17, (.int .i64 (order_2.length : Int))), (18, (.int .i64 t18_25)), (34, (Enc.enc (r_47 : List Int))), (35, (.int .i64 (r_47.length : Int))), (36, (.int .i64 t36_53))] ⟨h4, h5, h6, h9, rfl, h16, h17, h18, h34, h35, h36⟩ ?_
      rintro s ⟨h4, h5, h6, h9, h11, h16, h17, h18, h34, h35, h36⟩
      refine .nsq ?_
      refine run_reg ?_
      refine e_end ?_
      refine g_v1 (t := 5) (u := (.ref (.bx 5) 0 [] (.agg [(encO (.at 13 [0]) (out_52 : NL Int))]))) (.ref (.bx 5) 0 [0] (encO (.at 13 [0]) (out_52 : NL Int))) h5 rfl rfl ?_
      refine g_v (encO (.at 13 [0]) (out_52 : NL Int)) (ev_loadN rfl beq_encO) ?_
      refine g_v1 (t := 11) (u := (.int .i64 e_58)) (.int .i64 e_58) h11 rfl rfl ?_
      obtain ⟨e_59, E_e_59, h⟩ := bind_some h
      refine g_v (.ref (.at 13 [0]) e_58.toNat [] (.int .i64 e_59)) (ev_idxO (o := out_52) rfl rfl E_e_59 rfl) ?_
      refine g_v1 (t := 43) (u := (.ref (.at 13 [0]) e_58.toNat [] (.int .i64 e_59))) (.int .i64 e_59) rfl rfl rfl ?_
      refine g_v1 (t := 9) (u := (.int .i64 (iand .i64 e_46 (iandNot .i64 left_24 q_45)))) (.int .i64 (iand .i64 e_46 (iandNot .i64 left_24 q_45))) h9 rfl rfl ?_
      refine g_v1 (t := 11) (u := (.int .i64 e_58)) (.int .i64 e_58) h11 rfl rfl ?_
      obtain ⟨q_60, E_q_60, h⟩ := bind_some h
      refine g_v (.int .i64 q_60) (ev_shl rfl rfl E_q_60) ?_
      refine g_v2 (t1 := 45) (t2 := 47) (u1 := (.int .i64 (iand .i64 e_46 (iandNot .i64 left_24 q_45)))) (u2 := (.int .i64 q_60)) (.int .i64 (iandNot .i64 (iand .i64 e_46 (iandNot .i64 left_24 q_45)) q_60)) rfl rfl rfl rfl ?_
      refine g_v2 (t1 := 44) (t2 := 48) (u1 := (.int .i64 e_59)) (u2 := (.int .i64 (iandNot .i64 (iand .i64 e_46 (iandNot .i64 left_24 q_45)) q_60))) (.int .i64 (ior .i64 e_59 (iandNot .i64 (iand .i64 e_46 (iandNot .i64 left_24 q_45)) q_60))) rfl rfl rfl rfl ?_
      obtain ⟨e_61, E_e_61, h⟩ := bind_some h
      refine g_v (.ref (.at 13 [0]) e_58.toNat [] (.int .i64 e_61)) (ev_idxO (o := out_52) rfl rfl E_e_61 rfl) ?_
      refine g_store (.int .i64 (ior .i64 e_59 (iandNot .i64 (iand .i64 e_46 (iandNot .i64 left_24 q_45)) q_60))) (rd_of rfl rfl) (rd_of rfl rfl) (by refine ⟨by decide, by decide, rfl, rfl, rfl, ?_⟩; first | rfl | simp [V.toks, V.tokss, Enc.toks_enc]) ?_
      refine g_end ?_
      refine e_end ?_
      refine renew [(4, (.ref (.bx 4) 0 [] (.agg [(.sl .nl (Enc.shp Int) 0 [])]))), (5, (.ref (.bx 5) 0 [] (.agg [(encO (.at 13 [0]) ((NL.set out_52 e_58.toNat (ior .i64 e_59 (iandNot .i64 (iand .i64 e_46 (iandNot .i64 left_24 q_45)) q_60))) : NL Int))]))), (6, (.int .i64 (iandNot .i64 left_24 q_45))), (9, (.int .i64 (iand .i64 e_46 (iandNot .i64 left_24 q_45)))), (16, (Enc.enc (order_2 : List Int))), (17, (.int .i64 (order_2.length : Int))), (18, (.int .i64 t18_25)), (34, (Enc.enc (r_47 : List Int))), (35, (.int .i64 (r_47.length : Int))), (36, (.int .i64 t36_53))] ⟨(keep_mut h4 (mut_ref_ne rfl rfl (mut_agg (muts_cons rfl rfl)))), (keep_mut h5 (mut_ref_ne rfl rfl (mut_agg (muts_cons (mut_ownN (α := Int) (u := ior .i64 e_59 (iandNot .i64 (iand .i64 e_46 (iandNot .i64 left_24 q_45)) q_60)) (i := e_58.toNat) (o := out_52)) rfl)))), (keep_mut h6 rfl), (keep_mut h9 rfl), (keep_mut h16 (Enc.mut_enc _ _ _ _ (order_2 : List Int))), (keep_mut h17 rfl), (keep_mut h18 rfl), (keep_mut h34 (Enc.mut_enc _ _ _ _ (r_47 : List Int))), (keep_mut h35 rfl), (keep_mut h36 rfl)⟩ ?_
      rintro s ⟨h4, h5, h6, h9, h16, h17, h18, h34, h35, h36⟩
      refine .nbk ?_
      refine .nsq ?_
      refine run_reg ?_
      refine e_end ?_
      refine g_v1 (t := 36) (u := (.int .i64 t36_53)) (.int .i64 (w64 (t36_53 + 1))) h36 rfl rfl ?_
      refine g_v1 (t := 51) (u := (.int .i64 (w64 (t36_53 + 1)))) (.int .i64 (w64 (t36_53 + 1))) rfl rfl rfl ?_
      refine g_end ?_
      refine e_end ?_
      refine renew [(4, (.ref (.bx 4) 0 [] (.agg [(.sl .nl (Enc.shp Int) 0 [])]))), (5, (.ref (.bx 5) 0 [] (.agg [(encO (.at 13 [0]) ((NL.set out_52 e_58.toNat (ior .i64 e_59 (iandNot .i64 (iand .i64 e_46 (iandNot .i64 left_24 q_45)) q_60))) : NL Int))]))), (6, (.int .i64 (iandNot .i64 left_24 q_45))), (9, (.int .i64 (iand .i64 e_46 (iandNot .i64 left_24 q_45)))), (16, (Enc.enc (order_2 : List Int))), (17, (.int .i64 (order_2.length : Int))), (18, (.int .i64 t18_25)), (34, (Enc.enc (r_47 : List Int))), (35, (.int .i64 (r_47.length : Int))), (36, (.int .i64 (w64 (t36_53 + 1))))] ⟨h4, h5, h6, h9, h16, h17, h18, h34, h35, rfl⟩ ?_
      rintro s ⟨h4, h5, h6, h9, h16, h17, h18, h34, h35, h36⟩
      refine .nlp ?_
      exact ih (NL.set out_52 e_58.toNat (ior .i64 e_59 (iandNot .i64 (iand .i64 e_46 (iandNot .i64 left_24 q_45)) q_60))) (w64 (t36_53 + 1)) _ ⟨h4, h5, h6, h9, h16, h17, h18, h34, h35, h36⟩ h
    · refine .exit ?_
      refine .esq ?_
      refine .elp ?_
      refine .ebk ?_
      refine .nbk ?_
      refine .nsq ?_
      refine run_reg ?_
      refine e_end ?_
      refine g_v1 (t := 18) (u := (.int .i64 t18_25)) (.int .i64 (w64 (t18_25 + 1))) h18 rfl rfl ?_
      refine g_v1 (t := 52) (u := (.int .i64 (w64 (t18_25 + 1)))) (.int .i64 (w64 (t18_25 + 1))) rfl rfl rfl ?_
      refine g_end ?_
      refine e_end ?_
      refine renew [(4, (.ref (.bx 4) 0 [] (.agg [(.sl .nl (Enc.shp Int) 0 [])]))), (5, (.ref (.bx 5) 0 [] (.agg [(encO (.at 13 [0]) (out_52 : NL Int))]))), (6, (.int .i64 (iandNot .i64 left_24 q_45))), (16, (Enc.enc (order_2 : List Int))), (17, (.int .i64 (order_2.length : Int))), (18, (.int .i64 (w64 (t18_25 + 1))))] ⟨h4, h5, h6, h16, h17, rfl⟩ ?_
      rintro s ⟨h4, h5, h6, h16, h17, h18⟩
      refine .nlp ?_
      exact Hc1 out_52 (iandNot .i64 left_24 q_45) (w64 (t18_25 + 1)) _ ⟨h4, h5, h6, h16, h17, h18⟩ h
def i_net_filling_l2 (F : Nat) (order_2 : (List Int))  : Nat → (NL Int) → Int → Int → Option (S1 (List Int))
  | 0, _, _, _ => none
  | k + 1, out_23, left_24, t18_25 =>
    bif decide (t18_25 < (order_2.length : Int)) then
      (idx order_2 t18_25).bind fun e_44 =>
      (shlI .i64 1 e_44).bind fun q_45 =>
      (idx out_23.list e_44).bind fun e_46 =>
      (i_setOf F (iand .i64 e_46 (iandNot .i64 left_24 q_45))).bind fun r_47 =>
      i_net_filling_l1 F left_24 q_45 e_46 order_2 t18_25 r_47 (i_net_filling_l2 F order_2 k) F out_23 0
    else
      some (S1.mk out_23.list)
theorem t_f130_l2 (H : H130 D σ F) (order_2 : (List Int))  : ∀ (k : Nat) (out_23 : (NL Int)) (left_24 : Int) (t18_25 : Int) (s : Nat → V), Facts [(4, (.ref (.bx 4) 0 [] (.agg [(.sl .nl (Enc.shp Int) 0 [])]))), (5, (.ref (.bx 5) 0 [] (.agg [(encO (.at 13 [0]) (out_23 : NL Int))]))), (6, (.int .i64 left_24)), (16, (Enc.enc (order_2 : List Int))), (17, (.int .i64 (order_2.length : Int))), (18, (.int .i64 t18_25))] s → i_net_filling_l2 F order_2 k out_23 left_24 t18_25 = some r → Run D σ (R130 r) (.run A130_1 [.lp A130_1, .bk 0, .sq A130_14]) s := by
  intro k
  induction k with
  | zero => intro out_23 left_24 t18_25 s _ h; exact nomatch (h : (none : Option _) = some r)
  | succ k ih =>
    intro out_23 left_24 t18_25 s hs h
    rw [i_net_filling_l2] at h
    obtain ⟨h4, h5, h6, h16, h17, h18⟩ := hs
    refine .seq ?_
    refine run_reg ?_
    refine e_end ?_
    refine g_v2 (t1 := 18) (t2 := 17) (u1 := (.int .i64 t18_25)) (u2 := (.int .i64 (order_2.length : Int))) (.bool (decide (t18_25 < (order_2.length : Int)))) h18 h17 rfl rfl ?_
    refine g_end ?_
    refine e_end ?_
    refine renew [(4, (.ref (.bx 4) 0 [] (.agg [(.sl .nl (Enc.shp Int) 0 [])]))), (5, (.ref (.bx 5) 0 [] (.agg [(encO (.at 13 [0]) (out_23 : NL Int))]))), (6, (.int .i64 left_24)), (16, (Enc.enc (order_2 : List Int))), (17, (.int .i64 (order_2.length : Int))), (18, (.int .i64 t18_25)), (19, (.bool (decide (t18_25 < (order_2.length : Int)))))] ⟨h4, h5, h6, h16, h17, h18, rfl⟩ ?_
    rintro s ⟨h4, h5, h6, h16, h17, h18, h19⟩
    refine .nsq ?_
    refine .seq ?_
    refine run_cond (t := decide (t18_25 < (order_2.length : Int))) h19 h (fun h => ?_) (fun h => ?_)
    · refine .skip ?_
      refine .nsq ?_
      refine .seq ?_
      refine .block ?_
      refine .seq ?_
      refine run_reg ?_
      refine e_end ?_
      obtain ⟨e_44, E_e_44, h⟩ := bind_some h
      refine g_v (.ref .sh 0 [] (.int .i64 e_44)) (ev_idx (t := .sh) (lo := 0) (xs := order_2) h16 h18 E_e_44 rfl rfl) ?_
      refine g_v1 (t := 20) (u := (.ref .sh 0 [] (.int .i64 e_44))) (.int .i64 e_44) rfl rfl rfl ?_
      refine g_v1 (t := 21) (u := (.int .i64 e_44)) (.int .i64 e_44) rfl rfl rfl ?_
      refine g_end ?_
      refine e_end ?_
      refine renew [(4, (.ref (.bx 4) 0 [] (.agg [(.sl .nl (Enc.shp Int) 0 [])]))), (5, (.ref (.bx 5) 0 [] (.agg [(encO (.at 13 [0]) (out_23 : NL Int))]))), (6, (.int .i64 left_24)), (8, (.int .i64 e_44)), (16, (Enc.enc (order_2 : List Int))), (17, (.int .i64 (order_2.length : Int))), (18, (.int .i64 t18_25))] ⟨h4, h5, h6, rfl, h16, h17, h18⟩ ?_
      rintro s ⟨h4, h5, h6, h8, h16, h17, h18⟩
      refine .nsq ?_
      refine .seq ?_
      refine run_reg ?_
      refine e_end ?_
      refine g_v1 (t := 6) (u := (.int .i64 left_24)) (.int .i64 left_24) h6 rfl rfl ?_
      refine g_v1 (t := 8) (u := (.int .i64 e_44)) (.int .i64 e_44) h8 rfl rfl ?_
      obtain ⟨q_45, E_q_45, h⟩ := bind_some h
      refine g_v (.int .i64 q_45) (ev_shl rfl rfl E_q_45) ?_
      refine g_v2 (t1 := 22) (t2 := 24) (u1 := (.int .i64 left_24)) (u2 := (.int .i64 q_45)) (.int .i64 (iandNot .i64 left_24 q_45)) rfl rfl rfl rfl ?_
      refine g_v1 (t := 25) (u := (.int .i64 (iandNot .i64 left_24 q_45))) (.int .i64 (iandNot .i64 left_24 q_45)) rfl rfl rfl ?_
      refine g_end ?_
      refine e_end ?_
      refine renew [(4, (.ref (.bx 4) 0 [] (.agg [(.sl .nl (Enc.shp Int) 0 [])]))), (5, (.ref (.bx 5) 0 [] (.agg [(encO (.at 13 [0]) (out_23 : NL Int))]))), (6, (.int .i64 (iandNot .i64 left_24 q_45))), (8, (.int .i64 e_44)), (16, (Enc.enc (order_2 : List Int))), (17, (.int .i64 (order_2.length : Int))), (18, (.int .i64 t18_25))] ⟨h4, h5, rfl, h8, h16, h17, h18⟩ ?_
      rintro s ⟨h4, h5, h6, h8, h16, h17, h18⟩
      refine .nsq ?_
      refine .seq ?_
      refine run_reg ?_
      refine e_end ?_
      refine g_v1 (t := 5) (u := (.ref (.bx 5) 0 [] (.agg [(encO (.at 13 [0]) (out_23 : NL Int))]))) (.ref (.bx 5) 0 [0] (encO (.at 13 [0]) (out_23 : NL Int))) h5 rfl rfl ?_
      refine g_v (encO (.at 13 [0]) (out_23 : NL Int)) (ev_loadN rfl beq_encO) ?_
      refine g_v1 (t := 8) (u := (.int .i64 e_44)) (.int .i64 e_44) h8 rfl rfl ?_
      obtain ⟨e_46, E_e_46, h⟩ := bind_some h
      refine g_v (.ref (.at 13 [0]) e_44.toNat [] (.int .i64 e_46)) (ev_idxO (o := out_23) rfl rfl E_e_46 rfl) ?_
      refine g_v1 (t := 29) (u := (.ref (.at 13 [0]) e_44.toNat [] (.int .i64 e_46))) (.int .i64 e_46) rfl rfl rfl ?_
      refine g_v1 (t := 6) (u := (.int .i64 (iandNot .i64 left_24 q_45))) (.int .i64 (iandNot .i64 left_24 q_45)) h6 rfl rfl ?_
      refine g_v2 (t1 := 30) (t2 := 31) (u1 := (.int .i64 e_46)) (u2 := (.int .i64 (iandNot .i64 left_24 q_45))) (.int .i64 (iand .i64 e_46 (iandNot .i64 left_24 q_45))) rfl rfl rfl rfl ?_
      refine g_v1 (t := 32) (u := (.int .i64 (iand .i64 e_46 (iandNot .i64 left_24 q_45)))) (.int .i64 (iand .i64 e_46 (iandNot .i64 left_24 q_45))) rfl rfl rfl ?_
      refine g_end ?_
      refine e_end ?_
      refine renew [(4, (.ref (.bx 4) 0 [] (.agg [(.sl .nl (Enc.shp Int) 0 [])]))), (5, (.ref (.bx 5) 0 [] (.agg [(encO (.at 13 [0]) (out_23 : NL Int))]))), (6, (.int .i64 (iandNot .i64 left_24 q_45))), (9, (.int .i64 (iand .i64 e_46 (iandNot .i64 left_24 q_45)))), (16, (Enc.enc (order_2 : List Int))), (17, (.int .i64 (order_2.length : Int))), (18, (.int .i64 t18_25))] ⟨h4, h5, h6, rfl, h16, h17, h18⟩ ?_
      rintro s ⟨h4, h5, h6, h9, h16, h17, h18⟩
      refine .nsq ?_
      refine .seq ?_
      refine run_reg ?_
      refine e_end ?_
      refine g_v1 (t := 9) (u := (.int .i64 (iand .i64 e_46 (iandNot .i64 left_24 q_45)))) (.int .i64 (iand .i64 e_46 (iandNot .i64 left_24 q_45))) h9 rfl rfl ?_
      obtain ⟨r_47, E_r_47, h⟩ := bind_some h
      refine g_call (m := 0) (al := false) (r := (Enc.enc (r_47 : (List Int)))) [Enc.enc (iand .i64 e_46 (iandNot .i64 left_24 q_45) : Int)] (ta_cons (v := (.int .i64 (iand .i64 e_46 (iandNot .i64 left_24 q_45)))) rfl rfl rfl ta_nil) (H.c121 _ _ E_r_47) H.g121 rfl rfl rfl rfl ?_
      refine g_v (.int .i64 (r_47.length : Int)) (ev_len (xs := r_47) rfl) ?_
      refine g_v0 (.int .i64 0) rfl rfl ?_
      refine g_end ?_
      refine e_end ?_
      refine renew [(4, (.ref (.bx 4) 0 [] (.agg [(.sl .nl (Enc.shp Int) 0 [])]))), (5, (.ref (.bx 5) 0 [] (.agg [(encO (.at 13 [0]) (out_23 : NL Int))]))), (6, (.int .i64 (iandNot .i64 left_24 q_45))), (9, (.int .i64 (iand .i64 e_46 (iandNot .i64 left_24 q_45)))), (16, (Enc.enc (order_2 : List Int))), (17, (.int .i64 (order_2.length : Int))), (18, (.int .i64 t18_25)), (34, (Enc.enc (r_47 : List Int))), (35, (.int .i64 (r_47.length : Int))), (36, (.int .i64 0))] ⟨h4, h5, h6, h9, h16, h17, h18, rfl, rfl, rfl⟩ ?_
      rintro s ⟨h4, h5, h6, h9, h16, h17, h18, h34, h35, h36⟩
      refine .nsq ?_
      refine .block ?_
      refine .loop ?_
      exact t_f130_l1 H left_24 q_45 e_46 order_2 t18_25 r_47 (i_net_filling_l2 F order_2 k) ih F out_23 0 _ ⟨h4, h5, h6, h9, h16, h17, h18, h34, h35, h36⟩ h
    · refine .exit ?_
      refine .esq ?_
      refine .elp ?_
      refine .ebk ?_
      refine .nsq ?_
      refine .seq ?_
      refine run_reg ?_
      refine e_end ?_
      refine g_v (.agg [(encO (.at 13 [0]) (out_23 : NL Int))]) (ev_loadN (c := (.agg [(encO (.at 13 [0]) (out_23 : NL Int))])) h5 (by simp [V.shape, V.shapes, shape_encP, Sh.beq, Sh.beqs])) ?_
      refine g_store (.agg [(encO (.at 13 [0]) (out_23 : NL Int))]) (rd_of h4 rfl) (rd_of rfl rfl) ⟨by decide, by decide, rfl, (by simp [V.shape, V.shapes, shape_encP, Sh.beq, Sh.beqs]), (by simp [V.shape, V.shapes, shape_encP, Sh.beq, Sh.beqs]), (by simp [V.toks, V.tokss, tok_memP])⟩ ?_
      refine g_end ?_
      refine e_end ?_
      refine renew [(4, (.ref (.bx 4) 0 [] (.agg [(encO (.at 13 [0]) (out_23 : NL Int))])))] (keep_mut h4 rfl) ?_
      rintro s h4
      refine .nsq ?_
      refine .ret ?_
      have hr := Option.some.inj h
      subst hr
      exact rrA (res_cell h4 (by simp only [V.shape, V.shapes, shape_encP]; kernel_rfl)) (fin_retF (fin_agg (fins_cons (fin_own (o := out_23)) fins_nil)) (mine_agg (mines_cons (mine_own rfl) mines_nil)))
def i_net_filling (F : Nat) (w_1 : (S1 (List Int))) (order_2 : (List Int)) : Option (S1 (List Int)) :=
  (i_net_clone_o F w_1).bind fun r_3 =>
  (i_net_all F w_1).bind fun r_4 =>
  i_net_filling_l2 F order_2 F r_3.a r_4 0
theorem t130 (H : H130 D σ F) (w_1 : (S1 (List Int))) (order_2 : (List Int)) (s : Nat → V) (hs : Facts [(0, (.agg [(Enc.enc (w_1.a : List Int))])), (1, (Enc.enc (order_2 : List Int)))] s) (h : i_net_filling F w_1 order_2 = some r) : Run D σ (R130 r) (.run A130 []) s := by
  unfold i_net_filling at h
  obtain ⟨h0, h1⟩ := hs
  refine .seq ?_
  refine run_reg ?_
  refine e_clr ?_
  refine e_end ?_
  refine g_box (.agg [(Enc.enc (w_1.a : List Int))]) (rd_of (keep_clear (s := s) (pk := [2, 4]) h0 rfl (map_agg (maps_cons (Enc.map_enc _ (w_1.a : List Int)) maps_nil))) rfl) (gone_clear (s := s) (pk := [2, 4]) (t := 2) rfl) rfl ?_
  refine g_alloc (gone_clear (s := s) (pk := [2, 4]) (t := 4) rfl) ?_
  refine g_end ?_
  refine e_end ?_
  refine renew [(1, (Enc.enc (order_2 : List Int))), (2, (.ref (.bx 2) 0 [] (.agg [(Enc.enc (w_1.a : List Int))]))), (4, (.ref (.bx 4) 0 [] (.agg [(.sl .nl (Enc.shp Int) 0 [])])))] ⟨(keep_clear (s := s) (pk := [2, 4]) h1 rfl (Enc.map_enc _ (order_2 : List Int))), rfl, rfl⟩ ?_
  rintro s ⟨h1, h2, h4⟩
  refine .nsq ?_
  refine .seq ?_
  refine run_reg ?_
  refine e_clr ?_
  refine e_end ?_
  refine g_v1 (t := 2) (u := (.ref (.bx 2) 0 [] (.agg [(Enc.enc (w_1.a : List Int))]))) (.agg [(Enc.enc (w_1.a : List Int))]) (keep_clear (s := s) (pk := [13, 5]) h2 rfl (map_bx rfl (map_agg (maps_cons (Enc.map_enc _ (w_1.a : List Int)) maps_nil)))) rfl rfl ?_
  obtain ⟨r_3, E_r_3, h⟩ := bind_some h
  refine g_callO (m := 1) (al := false) (r := (.agg [(encO .sh (r_3.a : NL Int))])) (v := (.agg [(encO (.at 13 [0]) (r_3.a : NL Int))])) (kk := 1000000140) [Enc.enc (w_1 : (S1 (List Int)))] (ta_cons (v := (.agg [(Enc.enc (w_1.a : List Int))])) rfl rfl (Enc.erase_enc (w_1 : (S1 (List Int)))) ta_nil) (H.c140o _ _ E_r_3) H.g140o rfl (toks_agg (tokss_cons toks_encS tokss_nil)) (tag_agg (tags_cons tag_encO tags_nil)) rfl (gone_clear (s := s) (pk := [13, 5]) (t := 13) rfl) ?_
  refine g_alloc (gone_clear (s := s) (pk := [13, 5]) (t := 5) rfl) ?_
  refine g_store (.agg [(encO (.at 13 [0]) (r_3.a : NL Int))]) (rd_of rfl rfl) (rd_of rfl rfl) ⟨by decide, by decide, rfl, (by simp [V.shape, V.shapes, shape_encP, Sh.beq, Sh.beqs]), (by simp [V.shape, V.shapes, shape_encP, Sh.beq, Sh.beqs]), (by simp [V.toks, V.tokss, tok_memP])⟩ ?_
  refine g_end ?_
  refine e_end ?_
  refine renew [(1, (Enc.enc (order_2 : List Int))), (2, (.ref (.bx 2) 0 [] (.agg [(Enc.enc (w_1.a : List Int))]))), (4, (.ref (.bx 4) 0 [] (.agg [(.sl .nl (Enc.shp Int) 0 [])]))), (5, (.ref (.bx 5) 0 [] (.agg [(encO (.at 13 [0]) (r_3.a : NL Int))])))] ⟨(keep_mut (keep_clear (s := s) (pk := [13, 5]) h1 rfl (Enc.map_enc _ (order_2 : List Int))) (Enc.mut_enc _ _ _ _ (order_2 : List Int))), (keep_mut (keep_clear (s := s) (pk := [13, 5]) h2 rfl (map_bx rfl (map_agg (maps_cons (Enc.map_enc _ (w_1.a : List Int)) maps_nil)))) (mut_ref_ne rfl rfl (mut_agg (muts_cons (Enc.mut_enc _ _ _ _ (w_1.a : List Int)) rfl)))), (keep_mut (keep_clear (s := s) (pk := [13, 5]) h4 rfl (map_bx rfl (map_agg (maps_cons rfl maps_nil)))) (mut_ref_ne rfl rfl (mut_agg (muts_cons rfl rfl)))), (keep_mut rfl rfl)⟩ ?_
  rintro s ⟨h1, h2, h4, h5⟩
  refine .nsq ?_
  refine .seq ?_
  refine run_reg ?_
  refine e_end ?_
  refine g_v1 (t := 2) (u := (.ref (.bx 2) 0 [] (.agg [(Enc.enc (w_1.a : List Int))]))) (.agg [(Enc.enc (w_1.a : List Int))]) h2 rfl rfl ?_
  obtain ⟨r_4, E_r_4, h⟩ := bind_some h
  refine g_call (m := 0) (al := false) (r := (Enc.enc (r_4 : Int))) [Enc.enc (w_1 : (S1 (List Int)))] (ta_cons (v := (.agg [(Enc.enc (w_1.a : List Int))])) rfl rfl (Enc.erase_enc (w_1 : (S1 (List Int)))) ta_nil) (H.c68 _ _ E_r_4) H.g68 rfl rfl rfl rfl ?_
  refine g_v1 (t := 15) (u := (.int .i64 r_4)) (.int .i64 r_4) rfl rfl rfl ?_
  refine g_end ?_
  refine e_end ?_
  refine renew [(1, (Enc.enc (order_2 : List Int))), (4, (.ref (.bx 4) 0 [] (.agg [(.sl .nl (Enc.shp Int) 0 [])]))), (5, (.ref (.bx 5) 0 [] (.agg [(encO (.at 13 [0]) (r_3.a : NL Int))]))), (6, (.int .i64 r_4))] ⟨h1, h4, h5, rfl⟩ ?_
  rintro s ⟨h1, h4, h5, h6⟩
  refine .nsq ?_
  refine .seq ?_
  refine .seq ?_
  refine run_reg ?_
  refine e_end ?_
  refine g_v1 (t := 1) (u := (Enc.enc (order_2 : List Int))) (Enc.enc (order_2 : List Int)) h1 rfl rfl ?_
  refine g_v (.int .i64 (order_2.length : Int)) (ev_len (xs := order_2) rfl) ?_
  refine g_v0 (.int .i64 0) rfl rfl ?_
  refine g_end ?_
  refine e_end ?_
  refine renew [(4, (.ref (.bx 4) 0 [] (.agg [(.sl .nl (Enc.shp Int) 0 [])]))), (5, (.ref (.bx 5) 0 [] (.agg [(encO (.at 13 [0]) (r_3.a : NL Int))]))), (6, (.int .i64 r_4)), (16, (Enc.enc (order_2 : List Int))), (17, (.int .i64 (order_2.length : Int))), (18, (.int .i64 0))] ⟨h4, h5, h6, rfl, rfl, rfl⟩ ?_
  rintro s ⟨h4, h5, h6, h16, h17, h18⟩
  refine .nsq ?_
  refine .block ?_
  refine .loop ?_
  exact t_f130_l2 H order_2 F r_3.a r_4 0 _ ⟨h4, h5, h6, h16, h17, h18⟩ h
end
def e130 (F : Nat) : Ent := ⟨130, da (fun (x : ((S1 (List Int)) × (List Int) × Unit)) => i_net_filling F x.1 x.2.1) (fun (r : (S1 (List Int))) => (Enc.enc (r : (S1 (List Int))))), 0, false, selF []⟩
theorem p130 {F : Nat} {x0 : (S1 (List Int))} {x1 : (List Int)} {r : (S1 (List Int))} (h : i_net_filling F x0 x1 = some r) : (e130 F).den [Enc.enc x0, Enc.enc x1] = some (Enc.enc (r : (S1 (List Int)))) := da_put (f := fun (x : ((S1 (List Int)) × (List Int) × Unit)) => i_net_filling F x.1 x.2.1) (t := fun (r : (S1 (List Int))) => (Enc.enc (r : (S1 (List Int))))) (x0, x1, ()) h
theorem o130 {D : Den} {σ : Sig} {F : Nat} (hF : Fits2 Try.prog D σ) (H : H130 D σ F) : (e130 F).Ok Try.prog := by
  refine ok_of (f := 130) (show unk 130 = 130 from rfl) (fun args r h => ?_) ⟨Try.f130, Try.func130, rfl, rfl⟩
  obtain ⟨⟨x0, x1, _⟩, y, rfl, hy, rfl⟩ := da_open h
  exact contract_run hF (by kernel_rfl) Try.func130 rfl c130 (show 2 ≤ Try.f130.ntmps by decide) (t130 H x0 x1 _ ⟨rfl, rfl⟩ hy)
/- (loop.example/g01109/impl.net).neighborsBehind -/
def A96_5 : AC := (AC.reg [.clr [33, 34]] [(I.mk (some 25) none false (X.v (A.mov (O.t 7)))), (I.mk (some 26) none false (X.v (A.fld (O.t 5) 0 0))), (I.mk (some 27) none false (X.v (A.load Sh.p (O.t 26)))), (I.mk (some 28) none false (X.v (A.mov (O.t 9)))), (I.mk (some 29) none false (X.v (A.idx (O.t 27) (O.t 28) 1))), (I.mk (some 30) none false (X.v (A.load Sh.s (O.t 29)))), (I.mk (some 31) none false (X.v (A.mov (O.t 6)))), (I.mk (some 32) none false (X.v (A.bin BinOp.and (O.t 30) (O.t 31)))), (I.mk (some 33) none false (X.lit (V.int IntKind.i64 (Int.ofNat 0)) 1 [(0, 0, (O.t 32))])), (I.mk (some 34) none false (X.app Sh.s (O.t 25) (O.t 33))), (I.mk (some 7) none false (X.v (A.mov (O.t 34))))] [.home 34 7])
def A96_4 : AC := (AC.seq (AC.reg [] [(I.mk (some 21) none false (X.v (A.mov (O.t 6)))), (I.mk (some 22) none false (X.v (A.mov (O.t 9)))), (I.mk (some 23) none false (X.v (A.bin BinOp.shl (O.k (V.int IntKind.i64 (Int.ofNat 1))) (O.t 22)))), (I.mk (some 24) none false (X.v (A.bin BinOp.andNot (O.t 21) (O.t 23)))), (I.mk (some 6) none false (X.v (A.mov (O.t 24))))] []) A96_5)
def A96_6 : AC := (AC.reg [] [(I.mk (some 35) none false (X.v (A.bin BinOp.add (O.t 17) (O.k (V.int IntKind.i64 (Int.ofNat 1)))))), (I.mk (some 17) none false (X.v (A.mov (O.t 35))))] [])
def A96_3 : AC := (AC.seq (AC.block 1 (AC.seq (AC.reg [] [(I.mk (some 19) none false (X.v (A.idx (O.t 15) (O.t 17) 1))), (I.mk (some 20) none false (X.v (A.load Sh.s (O.t 19)))), (I.mk (some 9) none false (X.v (A.mov (O.t 20))))] []) A96_4)) A96_6)
def A96_2 : AC := (AC.seq (AC.cond (O.t 18) AC.skip (AC.exit 0)) A96_3)
def A96_1 : AC := (AC.seq (AC.reg [] [(I.mk (some 18) none false (X.v (A.bin BinOp.lss (O.t 17) (O.t 16))))] []) A96_2)
def A96_7 : AC := (AC.seq (AC.reg [] [(I.mk (some 36) none false (X.v (A.mov (O.t 7)))), (I.mk (some 4) none false (X.v (A.mov (O.t 36))))] [.home 7 4]) AC.ret)
def A96_12 : AC := (AC.block 0 (AC.loop A96_1))
def A96_11 : AC := (AC.seq (AC.seq (AC.reg [] [(I.mk (some 15) none false (X.v (A.mov (O.t 1)))), (I.mk (some 16) none false (X.v (A.len (O.t 15)))), (I.mk (some 17) none false (X.v (A.mov (O.k (V.int IntKind.i64 (Int.ofNat 0))))))] []) A96_12) A96_7)
def A96_10 : AC := (AC.seq (AC.reg [] [(I.mk (some 7) none false (X.v (A.mov (O.k (V.sl Tok.nl Sh.s 0 [])))))] []) A96_11)
def A96_9 : AC := (AC.seq (AC.reg [] [(I.mk (some 13) none false (X.v (A.load (Sh.ag [Sh.p]) (O.t 2)))), (I.mk (some 14) none false (X.call (O.k (V.fn 68 [] [])) [(O.t 13)])), (I.mk (some 6) none false (X.v (A.mov (O.t 14))))] []) A96_10)
def A96_8 : AC := (AC.seq (AC.reg [.clr [5]] [(I.mk (some 10) none false (X.v (A.load (Sh.ag [Sh.p]) (O.t 2)))), (I.mk (some 11) none false (X.v (A.mov (O.t 1)))), (I.mk (some 12) none false (X.call (O.k (V.fn 130 [] [])) [(O.t 10), (O.t 11)])), (I.mk (some 5) none false (X.alloc (V.agg [(V.sl Tok.nl Sh.s 0 [])]))), (I.mk none none false (X.store (Sh.ag [Sh.p]) (O.t 5) (O.t 12)))] []) A96_9)
def A96 : AC := (AC.seq (AC.reg [.clr [2]] [(I.mk (some 2) none false (X.box (O.t 0))), (I.mk (some 4) none false (X.v (A.mov (O.k (V.sl Tok.nl Sh.s 0 [])))))] []) A96_8)
def an96 : List An := [{ id := 0, pre := [.clr [2]], ep := [], lin := [], sp := [] }, { id := 1, pre := [.clr [5]], ep := [], lin := [], sp := [] }, { id := 8, pre := [.clr [33, 34]], ep := [.home 34 7], lin := [], sp := [] }, { id := 10, pre := [], ep := [.home 7 4], lin := [], sp := [] }]
theorem c96 : cC Try.prog Try.f96.ntmps an96 (Try.f96.body.getD .skip) = some A96 := by kernel_rfl
structure H96 (D : Den) (σ : Sig) (F : Nat) : Prop where
  c130 : ∀ (x0 : (S1 (List Int))) (x1 : (List Int)) r, i_net_filling F x0 x1 = some r → D 130 [Enc.enc x0, Enc.enc x1] = some (Enc.enc (r : (S1 (List Int))))
  g130 : σ 130 = some (0, false)
  c68 : ∀ (x0 : (S1 (List Int))) r, i_net_all F x0 = some r → D 68 [Enc.enc x0] = some (Enc.enc (r : Int))
  g68 : σ 68 = some (0, false)
abbrev R96 (r : (List Int)) : (Nat → V) → Prop := RR Try.prog [.tmp 4] 0 false (Enc.enc (r : (List Int)))
section
variable {D : Den} {σ : Sig} {F : Nat} {r : (List Int)}
def i_net_neighborsBehind_l1 (F : Nat) (r_3 : (S1 (List Int))) (order_2 : (List Int))  : Nat → Int → (NL Int) → Int → Option (List Int)
  | 0, _, _, _ => none
  | k + 1, left_9, behind_10, t17_11 =>
    bif decide (t17_11 < (order_2.length : Int)) then
      (idx order_2 t17_11).bind fun e_16 =>
      (shlI .i64 1 e_16).bind fun q_17 =>
      (idx r_3.a e_16).bind fun e_18 =>
      (appL behind_10.list [iand .i64 e_18 (iandNot .i64 left_9 q_17)]).bind fun ap_19 =>
      (i_net_neighborsBehind_l1 F r_3 order_2 k) (iandNot .i64 left_9 q_17) (.of ap_19) (w64 (t17_11 + 1))
    else
      some behind_10.list
theorem t_f96_l1 (H : H96 D σ F) (r_3 : (S1 (List Int))) (order_2 : (List Int))  : ∀ (k : Nat) (left_9 : Int) (behind_10 : (NL Int)) (t17_11 : Int) (s : Nat → V), Facts [(4, (.sl .nl (Enc.shp Int) 0 [])), (5, (.ref (.bx 5) 0 [] (.agg [(Enc.enc (r_3.a : List Int))]))), (6, (.int .i64 left_9)), (7, (encO (.at 7 []) (behind_10 : NL Int))), (15, (Enc.enc (order_2 : List Int))), (16, (.int .i64 (order_2.length : Int))), (17, (.int .i64 t17_11))] s → i_net_neighborsBehind_l1 F r_3 order_2 k left_9 behind_10 t17_11 = some r → Run D σ (R96 r) (.run A96_1 [.lp A96_1, .bk 0, .sq A96_7]) s := by
  intro k
  induction k with
  | zero => intro left_9 behind_10 t17_11 s _ h; exact nomatch (h : (none : Option _) = some r)
  | succ k ih =>
    intro left_9 behind_10 t17_11 s hs h
    rw [i_net_neighborsBehind_l1] at h
    obtain ⟨h4, h5, h6, h7, h15, h16, h17⟩ := hs
    refine .seq ?_
    refine run_reg ?_
    refine e_end ?_
    refine g_v2 (t1 := 17) (t2 := 16) (u1 := (.int .i64 t17_11)) (u2 := (.int .i64 (order_2.length : Int))) (.bool (decide (t17_11 < (order_2.length : Int)))) h17 h16 rfl rfl ?_
    refine g_end ?_
    refine e_end ?_
    refine renew [(4, (.sl .nl (Enc.shp Int) 0 [])), (5, (.ref (.bx 5) 0 [] (.agg [(Enc.enc (r_3.a : List Int))]))), (6, (.int .i64 left_9)), (7, (encO (.at 7 []) (behind_10 : NL Int))), (15, (Enc.enc (order_2 : List Int))), (16, (.int .i64 (order_2.length : Int))), (17, (.int .i64 t17_11)), (18, (.bool (decide (t17_11 < (order_2.length : Int)))))] ⟨h4, h5, h6, h7, h15, h16, h17, rfl⟩ ?_
    rintro s ⟨h4, h5, h6, h7, h15, h16, h17, h18⟩
    refine .nsq ?_
    refine .seq ?_
    refine run_cond (t := decide (t17_11 < (order_2.length : Int))) h18 h (fun h => ?_) (fun h => ?_)
    · refine .skip ?_
      refine .nsq ?_
      refine .seq ?_
      refine .block ?_
      refine .seq ?_
      refine run_reg ?_
      refine e_end ?_
      obtain ⟨e_16, E_e_16, h⟩ := bind_some h
      refine g_v (.ref .sh 0 [] (.int .i64 e_16)) (ev_idx (t := .sh) (lo := 0) (xs := order_2) h15 h17 E_e_16 rfl rfl) ?_
      refine g_v1 (t := 19) (u := (.ref .sh 0 [] (.int .i64 e_16))) (.int .i64 e_16) rfl rfl rfl ?_
      refine g_v1 (t := 20) (u := (.int .i64 e_16)) (.int .i64 e_16) rfl rfl rfl ?_
      refine g_end ?_
      refine e_end ?_
      refine renew [(4, (.sl .nl (Enc.shp Int) 0 [])), (5, (.ref (.bx 5) 0 [] (.agg [(Enc.enc (r_3.a : List Int))]))), (6, (.int .i64 left_9)), (7, (encO (.at 7 []) (behind_10 : NL Int))), (9, (.int .i64 e_16)), (15, (Enc.enc (order_2 : List Int))), (16, (.int .i64 (order_2.length : Int))), (17, (.int .i64 t17_11))] ⟨h4, h5, h6, h7, rfl, h15, h16, h17⟩ ?_
      rintro s ⟨h4, h5, h6, h7, h9, h15, h16, h17⟩
      refine .nsq ?_
      refine .seq ?_
      refine run_reg ?_
      refine e_end ?_
      refine g_v1 (t := 6) (u := (.int .i64 left_9)) (.int .i64 left_9) h6 rfl rfl ?_
      refine g_v1 (t := 9) (u := (.int .i64 e_16)) (.int .i64 e_16) h9 rfl rfl ?_
      obtain ⟨q_17, E_q_17, h⟩ := bind_some h
      refine g_v (.int .i64 q_17) (ev_shl rfl rfl E_q_17) ?_
      refine g_v2 (t1 := 21) (t2 := 23) (u1 := (.int .i64 left_9)) (u2 := (.int .i64 q_17)) (.int .i64 (iandNot .i64 left_9 q_17)) rfl rfl rfl rfl ?_
      refine g_v1 (t := 24) (u := (.int .i64 (iandNot .i64 left_9 q_17))) (.int .i64 (iandNot .i64 left_9 q_17)) rfl rfl rfl ?_
      refine g_end ?_
      refine e_end ?_
      refine renew [(4, (.sl .nl (Enc.shp Int) 0 [])), (5, (.ref (.bx 5) 0 [] (.agg [(Enc.enc (r_3.a : List Int))]))), (6, (.int .i64 (iandNot .i64 left_9 q_17))), (7, (encO (.at 7 []) (behind_10 : NL Int))), (9, (.int .i64 e_16)), (15, (Enc.enc (order_2 : List Int))), (16, (.int .i64 (order_2.length : Int))), (17, (.int .i64 t17_11))] ⟨h4, h5, rfl, h7, h9, h15, h16, h17⟩ ?_
      rintro s ⟨h4, h5, h6, h7, h9, h15, h16, h17⟩
      refine .nsq ?_
      refine run_reg ?_
      refine e_clr ?_
      refine e_end ?_
      refine g_v (encO (.at 7 []) (behind_10 : NL Int)) (ev_mov (keep_clear (s := s) (pk := [33, 34]) h7 rfl (map_encO (r := 7) (p := []) rfl rfl)) ok_encO) ?_
      refine g_v1 (t := 5) (u := (.ref (.bx 5) 0 [] (.agg [(Enc.enc (r_3.a : List Int))]))) (.ref (.bx 5) 0 [0] (Enc.enc (r_3.a : List Int))) (keep_clear (s := s) (pk := [33, 34]) h5 rfl (map_bx rfl (map_agg (maps_cons (Enc.map_enc _ (r_3.a : List Int)) maps_nil)))) rfl rfl ?_
      refine g_v1 (t := 26) (u := (.ref (.bx 5) 0 [0] (Enc.enc (r_3.a : List Int)))) (Enc.enc (r_3.a : List Int)) rfl rfl rfl ?_
      refine g_v1 (t := 9) (u := (.int .i64 e_16)) (.int .i64 e_16) (keep_clear (s := s) (pk := [33, 34]) h9 rfl rfl) rfl rfl ?_
      obtain ⟨e_18, E_e_18, h⟩ := bind_some h
      refine g_v (.ref .sh 0 [] (.int .i64 e_18)) (ev_idx (t := .sh) (lo := 0) (xs := r_3.a) rfl rfl E_e_18 rfl rfl) ?_
      refine g_v1 (t := 29) (u := (.ref .sh 0 [] (.int .i64 e_18))) (.int .i64 e_18) rfl rfl rfl ?_
      refine g_v1 (t := 6) (u := (.int .i64 (iandNot .i64 left_9 q_17))) (.int .i64 (iandNot .i64 left_9 q_17)) (keep_clear (s := s) (pk := [33, 34]) h6 rfl rfl) rfl rfl ?_
      refine g_v2 (t1 := 30) (t2 := 31) (u1 := (.int .i64 e_18)) (u2 := (.int .i64 (iandNot .i64 left_9 q_17))) (.int .i64 (iand .i64 e_18 (iandNot .i64 left_9 q_17))) rfl rfl rfl rfl ?_
      refine g_litL [(32, (.int .i64 (iand .i64 e_18 (iandNot .i64 left_9 q_17))))] [Enc.enc (iand .i64 e_18 (iandNot .i64 left_9 q_17) : Int)] rfl rfl rfl (gone_clear (s := s) (pk := [33, 34]) (t := 33) rfl) ?_
      obtain ⟨ap_19, E_ap_19, h⟩ := bind_some h
      refine g_app (q := 7) (p := []) (o := (behind_10 : NL Int)) (ys := ([iand .i64 e_18 (iandNot .i64 left_9 q_17)] : List Int)) (t2 := (.at 33 [])) (lo2 := 0) rfl rfl rfl (gone_clear (s := s) (pk := [33, 34]) (t := 34) rfl) (appN_L (o := (behind_10 : NL Int)) E_ap_19 (by split <;> simp)) (fun s_10 ha_10 => ?_)
      refine g_v1 (t := 34) (u := (encO (.at 34 []) (.of (ap_19 : List Int)))) (encO (.at 34 []) (.of (ap_19 : List Int))) rfl rfl rfl ?_
      refine g_end ?_
      refine e_home (r := 34) (x := 7) (v := (encO (.at 34 []) (.of (ap_19 : List Int)))) (by exact rfl) rfl (fun s_11 hg_11 => ?_)
      refine e_end ?_
      refine renew [(4, (.sl .nl (Enc.shp Int) 0 [])), (5, (.ref (.bx 5) 0 [] (.agg [(Enc.enc (r_3.a : List Int))]))), (6, (.int .i64 (iandNot .i64 left_9 q_17))), (7, (encO (.at 7 []) (.of (ap_19 : List Int)))), (15, (Enc.enc (order_2 : List Int))), (16, (.int .i64 (order_2.length : Int))), (17, (.int .i64 t17_11))] ⟨(hg_11 4 (.sl .nl (Enc.shp Int) 0 []) (.sl .nl (Enc.shp Int) 0 []) (show s_10 4 = (.sl .nl (Enc.shp Int) 0 []) from keep_app ha_10 (keep_clear (s := s) (pk := [33, 34]) h4 rfl rfl) rfl) rfl), (hg_11 5 (.ref (.bx 5) 0 [] (.agg [(Enc.enc (r_3.a : List Int))])) (.ref (.bx 5) 0 [] (.agg [(Enc.enc (r_3.a : List Int))])) (show s_10 5 = (.ref (.bx 5) 0 [] (.agg [(Enc.enc (r_3.a : List Int))])) from keep_app ha_10 (keep_clear (s := s) (pk := [33, 34]) h5 rfl (map_bx rfl (map_agg (maps_cons (Enc.map_enc _ (r_3.a : List Int)) maps_nil)))) (map_bx rfl (map_agg (maps_cons (Enc.map_enc _ (r_3.a : List Int)) maps_nil)))) (map_bx rfl (map_agg (maps_cons (Enc.map_enc _ (r_3.a : List Int)) maps_nil)))), (hg_11 6 (.int .i64 (iandNot .i64 left_9 q_17)) (.int .i64 (iandNot .i64 left_9 q_17)) (show s_10 6 = (.int .i64 (iandNot .i64 left_9 q_17)) from keep_app ha_10 (keep_clear (s := s) (pk := [33, 34]) h6 rfl rfl) rfl) rfl), (hg_11 7 (encO (.at 34 []) (.of (ap_19 : List Int))) (encO (.at 7 []) (.of (ap_19 : List Int))) rfl (map_encO (r := 34) (p := []) rfl rfl)), (hg_11 15 (Enc.enc (order_2 : List Int)) (Enc.enc (order_2 : List Int)) (show s_10 15 = (Enc.enc (order_2 : List Int)) from keep_app ha_10 (keep_clear (s := s) (pk := [33, 34]) h15 rfl (Enc.map_enc _ (order_2 : List Int))) (Enc.map_enc _ (order_2 : List Int))) (Enc.map_enc _ (order_2 : List Int))), (hg_11 16 (.int .i64 (order_2.length : Int)) (.int .i64 (order_2.length : Int)) (show s_10 16 = (.int .i64 (order_2.length : Int)) from keep_app ha_10 (keep_clear (s := s) (pk := [33, 34]) h16 rfl rfl) rfl) rfl), (hg_11 17 (.int .i64 t17_11) (.int .i64 t17_11) (show s_10 17 = (.int .i64 t17_11) from keep_app ha_10 (keep_clear (s := s) (pk := [33, 34]) h17 rfl rfl) rfl) rfl)⟩ ?_
      rintro s ⟨h4, h5, h6, h7, h15, h16, h17⟩
      refine .nbk ?_
      refine .nsq ?_
      refine run_reg ?_
      refine e_end ?_
      refine g_v1 (t := 17) (u := (.int .i64 t17_11)) (.int .i64 (w64 (t17_11 + 1))) h17 rfl rfl ?_
      refine g_v1 (t := 35) (u := (.int .i64 (w64 (t17_11 + 1)))) (.int .i64 (w64 (t17_11 + 1))) rfl rfl rfl ?_
      refine g_end ?_
      refine e_end ?_
      refine renew [(4, (.sl .nl (Enc.shp Int) 0 [])), (5, (.ref (.bx 5) 0 [] (.agg [(Enc.enc (r_3.a : List Int))]))), (6, (.int .i64 (iandNot .i64 left_9 q_17))), (7, (encO (.at 7 []) (.of (ap_19 : List Int)))), (15, (Enc.enc (order_2 : List Int))), (16, (.int .i64 (order_2.length : Int))), (17, (.int .i64 (w64 (t17_11 + 1))))] ⟨h4, h5, h6, h7, h15, h16, rfl⟩ ?_
      rintro s ⟨h4, h5, h6, h7, h15, h16, h17⟩
      refine .nlp ?_
      exact ih (iandNot .i64 left_9 q_17) (.of ap_19) (w64 (t17_11 + 1)) _ ⟨h4, h5, h6, h7, h15, h16, h17⟩ h
    · refine .exit ?_
      refine .esq ?_
      refine .elp ?_
      refine .ebk ?_
      refine .nsq ?_
      refine .seq ?_
      refine run_reg ?_
      refine e_end ?_
      refine g_v (encO (.at 7 []) (behind_10 : NL Int)) (ev_mov h7 ok_encO) ?_
      refine g_v (encO (.at 7 []) (behind_10 : NL Int)) (ev_mov rfl ok_encO) ?_
      refine g_end ?_
      refine e_home (r := 7) (x := 4) (v := (encO (.at 7 []) (behind_10 : NL Int))) (by exact rfl) ok_encO (fun s_12 hg_12 => ?_)
      refine e_end ?_
      refine renew [(4, (encO (.at 4 []) (behind_10 : NL Int)))] (hg_12 4 (encO (.at 7 []) (behind_10 : NL Int)) (encO (.at 4 []) (behind_10 : NL Int)) rfl (map_encO (r := 7) (p := []) rfl rfl)) ?_
      rintro s h4
      refine .nsq ?_
      refine .ret ?_
      have hr := Option.some.inj h
      subst hr
      exact rrA (res_tmp h4) (fin_retF (fin_own (o := behind_10)) (mine_own rfl))
def i_net_neighborsBehind (F : Nat) (w_1 : (S1 (List Int))) (order_2 : (List Int)) : Option (List Int) :=
  (i_net_filling F w_1 order_2).bind fun r_3 =>
  (i_net_all F w_1).bind fun r_4 =>
  i_net_neighborsBehind_l1 F r_3 order_2 F r_4 .nil 0
theorem t96 (H : H96 D σ F) (w_1 : (S1 (List Int))) (order_2 : (List Int)) (s : Nat → V) (hs : Facts [(0, (.agg [(Enc.enc (w_1.a : List Int))])), (1, (Enc.enc (order_2 : List Int)))] s) (h : i_net_neighborsBehind F w_1 order_2 = some r) : Run D σ (R96 r) (.run A96 []) s := by
  unfold i_net_neighborsBehind at h
  obtain ⟨h0, h1⟩ := hs
  refine .seq ?_
  refine run_reg ?_
  refine e_clr ?_
  refine e_end ?_
  refine g_box (.agg [(Enc.enc (w_1.a : List Int))]) (rd_of (keep_clear (s := s) (pk := [2]) h0 rfl (map_agg (maps_cons (Enc.map_enc _ (w_1.a : List Int)) maps_nil))) rfl) (gone_clear (s := s) (pk := [2]) (t := 2) rfl) rfl ?_
  refine g_v0 (.sl .nl (Enc.shp Int) 0 []) rfl rfl ?_
  refine g_end ?_
  refine e_end ?_
  refine renew [(1, (Enc.enc (order_2 : List Int))), (2, (.ref (.bx 2) 0 [] (.agg [(Enc.enc (w_1.a : List Int))]))), (4, (.sl .nl (Enc.shp Int) 0 []))] ⟨(keep_clear (s := s) (pk := [2]) h1 rfl (Enc.map_enc _ (order_2 : List Int))), rfl, rfl⟩ ?_
  rintro s ⟨h1, h2, h4⟩
  refine .nsq ?_
  refine .seq ?_
  refine run_reg ?_
  refine e_clr ?_
  refine e_end ?_
  refine g_v1 (t := 2) (u := (.ref (.bx 2) 0 [] (.agg [(Enc.enc (w_1.a : List Int))]))) (.agg [(Enc.enc (w_1.a : List Int))]) (keep_clear (s := s) (pk := [5]) h2 rfl (map_bx rfl (map_agg (maps_cons (Enc.map_enc _ (w_1.a : List Int)) maps_nil)))) rfl rfl ?_
  refine g_v1 (t := 1) (u := (Enc.enc (order_2 : List Int))) (Enc.enc (order_2 : List Int)) (keep_clear (s := s) (pk := [5]) h1 rfl (Enc.map_enc _ (order_2 : List Int))) rfl rfl ?_
  obtain ⟨r_3, E_r_3, h⟩ := bind_some h
  refine g_call (m := 0) (al := false) (r := (Enc.enc (r_3 : (S1 (List Int))))) [Enc.enc (w_1 : (S1 (List Int))), Enc.enc (order_2 : (List Int))] (ta_cons (v := (.agg [(Enc.enc (w_1.a : List Int))])) rfl rfl (Enc.erase_enc (w_1 : (S1 (List Int)))) (ta_cons (v := (Enc.enc (order_2 : List Int))) rfl rfl (Enc.erase_enc (order_2 : (List Int))) ta_nil)) (H.c130 _ _ _ E_r_3) H.g130 rfl rfl rfl rfl ?_
  refine g_alloc (gone_clear (s := s) (pk := [5]) (t := 5) rfl) ?_
  refine g_store (.agg [(Enc.enc (r_3.a : List Int))]) (rd_of rfl rfl) (rd_of rfl rfl) (by refine ⟨by decide, by decide, rfl, rfl, rfl, ?_⟩; first | rfl | simp [V.toks, V.tokss, Enc.toks_enc]) ?_
  refine g_end ?_
  refine e_end ?_
  refine renew [(1, (Enc.enc (order_2 : List Int))), (2, (.ref (.bx 2) 0 [] (.agg [(Enc.enc (w_1.a : List Int))]))), (4, (.sl .nl (Enc.shp Int) 0 [])), (5, (.ref (.bx 5) 0 [] (.agg [(Enc.enc (r_3.a : List Int))])))] ⟨(keep_mut (keep_clear (s := s) (pk := [5]) h1 rfl (Enc.map_enc _ (order_2 : List Int))) (Enc.mut_enc _ _ _ _ (order_2 : List Int))), (keep_mut (keep_clear (s := s) (pk := [5]) h2 rfl (map_bx rfl (map_agg (maps_cons (Enc.map_enc _ (w_1.a : List Int)) maps_nil)))) (mut_ref_ne rfl rfl (mut_agg (muts_cons (Enc.mut_enc _ _ _ _ (w_1.a : List Int)) rfl)))), (keep_mut (keep_clear (s := s) (pk := [5]) h4 rfl rfl) rfl), (keep_mut rfl rfl)⟩ ?_
  rintro s ⟨h1, h2, h4, h5⟩
  refine .nsq ?_
  refine .seq ?_
  refine run_reg ?_
  refine e_end ?_
  refine g_v1 (t := 2) (u := (.ref (.bx 2) 0 [] (.agg [(Enc.enc (w_1.a : List Int))]))) (.agg [(Enc.enc (w_1.a : List Int))]) h2 rfl rfl ?_
  obtain ⟨r_4, E_r_4, h⟩ := bind_some h
  refine g_call (m := 0) (al := false) (r := (Enc.enc (r_4 : Int))) [Enc.enc (w_1 : (S1 (List Int)))] (ta_cons (v := (.agg [(Enc.enc (w_1.a : List Int))])) rfl rfl (Enc.erase_enc (w_1 : (S1 (List Int)))) ta_nil) (H.c68 _ _ E_r_4) H.g68 rfl rfl rfl rfl ?_
  refine g_v1 (t := 14) (u := (.int .i64 r_4)) (.int .i64 r_4) rfl rfl rfl ?_
  refine g_end ?_
  refine e_end ?_
  refine renew [(1, (Enc.enc (order_2 : List Int))), (4, (.sl .nl (Enc.shp Int) 0 [])), (5, (.ref (.bx 5) 0 [] (.agg [(Enc.enc (r_3.a : List Int))]))), (6, (.int .i64 r_4))] ⟨h1, h4, h5, rfl⟩ ?_
  rintro s ⟨h1, h4, h5, h6⟩
  refine .nsq ?_
  refine .seq ?_
  refine run_reg ?_
  refine e_end ?_
  refine g_v0 (.sl .nl (Enc.shp Int) 0 []) rfl rfl ?_
  refine g_end ?_
  refine e_end ?_
  refine renew [(1, (Enc.enc (order_2 : List Int))), (4, (.sl .nl (Enc.shp Int) 0 [])), (5, (.ref (.bx 5) 0 [] (.agg [(Enc.enc (r_3.a : List Int))]))), (6, (.int .i64 r_4)), (7, (.sl .nl (Enc.shp Int) 0 []))] ⟨h1, h4, h5, h6, rfl⟩ ?_
  rintro s ⟨h1, h4, h5, h6, h7⟩
  refine .nsq ?_
  refine .seq ?_
  refine .seq ?_
  refine run_reg ?_
  refine e_end ?_
  refine g_v1 (t := 1) (u := (Enc.enc (order_2 : List Int))) (Enc.enc (order_2 : List Int)) h1 rfl rfl ?_
  refine g_v (.int .i64 (order_2.length : Int)) (ev_len (xs := order_2) rfl) ?_
  refine g_v0 (.int .i64 0) rfl rfl ?_
  refine g_end ?_
  refine e_end ?_
  refine renew [(4, (.sl .nl (Enc.shp Int) 0 [])), (5, (.ref (.bx 5) 0 [] (.agg [(Enc.enc (r_3.a : List Int))]))), (6, (.int .i64 r_4)), (7, (.sl .nl (Enc.shp Int) 0 [])), (15, (Enc.enc (order_2 : List Int))), (16, (.int .i64 (order_2.length : Int))), (17, (.int .i64 0))] ⟨h4, h5, h6, h7, rfl, rfl, rfl⟩ ?_
  rintro s ⟨h4, h5, h6, h7, h15, h16, h17⟩
  refine .nsq ?_
  refine .block ?_
  refine .loop ?_
  exact t_f96_l1 H r_3 order_2 F r_4 .nil 0 _ ⟨h4, h5, h6, h7, h15, h16, h17⟩ h
end
def e96 (F : Nat) : Ent := ⟨96, da (fun (x : ((S1 (List Int)) × (List Int) × Unit)) => i_net_neighborsBehind F x.1 x.2.1) (fun (r : (List Int)) => (Enc.enc (r : (List Int)))), 0, false, selF []⟩
theorem p96 {F : Nat} {x0 : (S1 (List Int))} {x1 : (List Int)} {r : (List Int)} (h : i_net_neighborsBehind F x0 x1 = some r) : (e96 F).den [Enc.enc x0, Enc.enc x1] = some (Enc.enc (r : (List Int))) := da_put (f := fun (x : ((S1 (List Int)) × (List Int) × Unit)) => i_net_neighborsBehind F x.1 x.2.1) (t := fun (r : (List Int)) => (Enc.enc (r : (List Int)))) (x0, x1, ()) h
theorem o96 {D : Den} {σ : Sig} {F : Nat} (hF : Fits2 Try.prog D σ) (H : H96 D σ F) : (e96 F).Ok Try.prog := by
  refine ok_of (f := 96) (show unk 96 = 96 from rfl) (fun args r h => ?_) ⟨Try.f96, Try.func96, rfl, rfl⟩
  obtain ⟨⟨x0, x1, _⟩, y, rfl, hy, rfl⟩ := da_open h
  exact contract_run hF (by kernel_rfl) Try.func96 rfl c96 (show 2 ≤ Try.f96.ntmps by decide) (t96 H x0 x1 _ ⟨rfl, rfl⟩ hy)
/- math/bits.OnesCount64 -/
def A103_7 : AC := (AC.seq (AC.reg [] [(I.mk (some 32) none false (X.v (A.mov (O.t 0)))), (I.mk (some 33) none false (X.v (A.conv IntKind.i64 (O.t 32)))), (I.mk (some 34) none false (X.v (A.bin BinOp.and (O.t 33) (O.k (V.int IntKind.i64 (Int.ofNat 127)))))), (I.mk (some 2) none false (X.v (A.mov (O.t 34))))] []) AC.ret)
def A103_6 : AC := (AC.seq (AC.reg [] [(I.mk (some 28) none false (X.v (A.mov (O.t 0)))), (I.mk (some 29) none false (X.v (A.mov (O.t 0)))), (I.mk (some 30) none false (X.v (A.bin BinOp.shr (O.t 29) (O.k (V.int IntKind.u64 (Int.ofNat 32)))))), (I.mk (some 31) none false (X.v (A.bin BinOp.add (O.t 28) (O.t 30)))), (I.mk (some 0) none false (X.v (A.mov (O.t 31))))] []) A103_7)
def A103_5 : AC := (AC.seq (AC.reg [] [(I.mk (some 24) none false (X.v (A.mov (O.t 0)))), (I.mk (some 25) none false (X.v (A.mov (O.t 0)))), (I.mk (some 26) none false (X.v (A.bin BinOp.shr (O.t 25) (O.k (V.int IntKind.u64 (Int.ofNat 16)))))), (I.mk (some 27) none false (X.v (A.bin BinOp.add (O.t 24) (O.t 26)))), (I.mk (some 0) none false (X.v (A.mov (O.t 27))))] []) A103_6)
def A103_4 : AC := (AC.seq (AC.reg [] [(I.mk (some 20) none false (X.v (A.mov (O.t 0)))), (I.mk (some 21) none false (X.v (A.mov (O.t 0)))), (I.mk (some 22) none false (X.v (A.bin BinOp.shr (O.t 21) (O.k (V.int IntKind.u64 (Int.ofNat 8)))))), (I.mk (some 23) none false (X.v (A.bin BinOp.add (O.t 20) (O.t 22)))), (I.mk (some 0) none false (X.v (A.mov (O.t 23))))] []) A103_5)
def A103_3 : AC := (AC.seq (AC.reg [] [(I.mk (some 15) none false (X.v (A.mov (O.t 0)))), (I.mk (some 16) none false (X.v (A.bin BinOp.shr (O.t 15) (O.k (V.int IntKind.u64 (Int.ofNat 4)))))), (I.mk (some 17) none false (X.v (A.mov (O.t 0)))), (I.mk (some 18) none false (X.v (A.bin BinOp.add (O.t 16) (O.t 17)))), (I.mk (some 19) none false (X.v (A.bin BinOp.and (O.t 18) (O.k (V.int IntKind.u64 (Int.ofNat 1085102592571150095)))))), (I.mk (some 0) none false (X.v (A.mov (O.t 19))))] []) A103_4)
def A103_2 : AC := (AC.seq (AC.reg [] [(I.mk (some 9) none false (X.v (A.mov (O.t 0)))), (I.mk (some 10) none false (X.v (A.bin BinOp.shr (O.t 9) (O.k (V.int IntKind.u64 (Int.ofNat 2)))))), (I.mk (some 11) none false (X.v (A.bin BinOp.and (O.t 10) (O.k (V.int IntKind.u64 (Int.ofNat 3689348814741910323)))))), (I.mk (some 12) none false (X.v (A.mov (O.t 0)))), (I.mk (some 13) none false (X.v (A.bin BinOp.and (O.t 12) (O.k (V.int IntKind.u64 (Int.ofNat 3689348814741910323)))))), (I.mk (some 14) none false (X.v (A.bin BinOp.add (O.t 11) (O.t 13)))), (I.mk (some 0) none false (X.v (A.mov (O.t 14))))] []) A103_3)
def A103_1 : AC := (AC.seq (AC.reg [] [(I.mk (some 3) none false (X.v (A.mov (O.t 0)))), (I.mk (some 4) none false (X.v (A.bin BinOp.shr (O.t 3) (O.k (V.int IntKind.u64 (Int.ofNat 1)))))), (I.mk (some 5) none false (X.v (A.bin BinOp.and (O.t 4) (O.k (V.int IntKind.u64 (Int.ofNat 6148914691236517205)))))), (I.mk (some 6) none false (X.v (A.mov (O.t 0)))), (I.mk (some 7) none false (X.v (A.bin BinOp.and (O.t 6) (O.k (V.int IntKind.u64 (Int.ofNat 6148914691236517205)))))), (I.mk (some 8) none false (X.v (A.bin BinOp.add (O.t 5) (O.t 7)))), (I.mk (some 0) none false (X.v (A.mov (O.t 8))))] []) A103_2)
def A103 : AC := (AC.seq (AC.reg [] [(I.mk (some 2) none false (X.v (A.mov (O.k (V.int IntKind.i64 (Int.ofNat 0))))))] []) A103_1)
def an103 : List An := []
theorem c103 : cC Try.prog Try.f103.ntmps an103 (Try.f103.body.getD .skip) = some A103 := by kernel_rfl
structure H103 (D : Den) (σ : Sig) (F : Nat) : Prop where
  mk ::
abbrev R103 (r : Int) : (Nat → V) → Prop := RR Try.prog [.tmp 2] 0 false (Enc.enc (r : Int))
section
variable {D : Den} {σ : Sig} {F : Nat} {r : Int}
def bits_OnesCount64 (F : Nat) (x_1 : (Kd .u64)) : Option Int :=
  (shrI .u64 x_1.v 1).bind fun q_2 =>
  (shrI .u64 (IntKind.u64.wrap ((iand .u64 q_2 6148914691236517205) + (iand .u64 x_1.v 6148914691236517205))) 2).bind fun q_3 =>
  (shrI .u64 (IntKind.u64.wrap ((iand .u64 q_3 3689348814741910323) + (iand .u64 (IntKind.u64.wrap ((iand .u64 q_2 6148914691236517205) + (iand .u64 x_1.v 6148914691236517205))) 3689348814741910323))) 4).bind fun q_4 =>
  (shrI .u64 (iand .u64 (IntKind.u64.wrap (q_4 + (IntKind.u64.wrap ((iand .u64 q_3 3689348814741910323) + (iand .u64 (IntKind.u64.wrap ((iand .u64 q_2 6148914691236517205) + (iand .u64 x_1.v 6148914691236517205))) 3689348814741910323))))) 1085102592571150095) 8).bind fun q_5 =>
  (shrI .u64 (IntKind.u64.wrap ((iand .u64 (IntKind.u64.wrap (q_4 + (IntKind.u64.wrap ((iand .u64 q_3 3689348814741910323) + (iand .u64 (IntKind.u64.wrap ((iand .u64 q_2 6148914691236517205) + (iand .u64 x_1.v 6148914691236517205))) 3689348814741910323))))) 1085102592571150095) + q_5)) 16).bind fun q_6 =>
  (shrI .u64 (IntKind.u64.wrap ((IntKind.u64.wrap ((iand .u64 (IntKind.u64.wrap (q_4 + (IntKind.u64.wrap ((iand .u64 q_3 3689348814741910323) + (iand .u64 (IntKind.u64.wrap ((iand .u64 q_2 6148914691236517205) + (iand .u64 x_1.v 6148914691236517205))) 3689348814741910323))))) 1085102592571150095) + q_5)) + q_6)) 32).bind fun q_7 =>
  some (iand .i64 (w64 (IntKind.u64.wrap ((IntKind.u64.wrap ((IntKind.u64.wrap ((iand .u64 (IntKind.u64.wrap (q_4 + (IntKind.u64.wrap ((iand .u64 q_3 3689348814741910323) + (iand .u64 (IntKind.u64.wrap ((iand .u64 q_2 6148914691236517205) + (iand .u64 x_1.v 6148914691236517205))) 3689348814741910323))))) 1085102592571150095) + q_5)) + q_6)) + q_7))) 127)
theorem t103 (H : H103 D σ F) (x_1 : (Kd .u64)) (s : Nat → V) (hs : Facts [(0, (.int .u64 x_1.v))] s) (h : bits_OnesCount64 F x_1 = some r) : Run D σ (R103 r) (.run A103 []) s := by
  unfold bits_OnesCount64 at h
  have h0 := hs
  refine .seq ?_
  refine run_reg ?_
  refine e_end ?_
  refine g_v0 (.int .i64 0) rfl rfl ?_
  refine g_end ?_
  refine e_end ?_
  refine renew [(0, (.int .u64 x_1.v)), (2, (.int .i64 0))] ⟨h0, rfl⟩ ?_
  rintro s ⟨h0, h2⟩
  refine .nsq ?_
  refine .seq ?_
  refine run_reg ?_
  refine e_end ?_
  refine g_v1 (t := 0) (u := (.int .u64 x_1.v)) (.int .u64 x_1.v) h0 rfl rfl ?_
  obtain ⟨q_2, E_q_2, h⟩ := bind_some h
  refine g_v (.int .u64 q_2) (ev_shr rfl rfl E_q_2) ?_
  refine g_v1 (t := 4) (u := (.int .u64 q_2)) (.int .u64 (iand .u64 q_2 6148914691236517205)) rfl rfl rfl ?_
  refine g_v1 (t := 0) (u := (.int .u64 x_1.v)) (.int .u64 x_1.v) h0 rfl rfl ?_
  refine g_v1 (t := 6) (u := (.int .u64 x_1.v)) (.int .u64 (iand .u64 x_1.v 6148914691236517205)) rfl rfl rfl ?_
  refine g_v2 (t1 := 5) (t2 := 7) (u1 := (.int .u64 (iand .u64 q_2 6148914691236517205))) (u2 := (.int .u64 (iand .u64 x_1.v 6148914691236517205))) (.int .u64 (IntKind.u64.wrap ((iand .u64 q_2 6148914691236517205) + (iand .u64 x_1.v 6148914691236517205)))) rfl rfl rfl rfl ?_
  refine g_v1 (t := 8) (u := (.int .u64 (IntKind.u64.wrap ((iand .u64 q_2 6148914691236517205) + (iand .u64 x_1.v 6148914691236517205))))) (.int .u64 (IntKind.u64.wrap ((iand .u64 q_2 6148914691236517205) + (iand .u64 x_1.v 6148914691236517205)))) rfl rfl rfl ?_
  refine g_end ?_
  refine e_end ?_
  refine renew [(0, (.int .u64 (IntKind.u64.wrap ((iand .u64 q_2 6148914691236517205) + (iand .u64 x_1.v 6148914691236517205))))), (2, (.int .i64 0))] ⟨rfl, h2⟩ ?_
  rintro s ⟨h0, h2⟩
  refine .nsq ?_
  refine .seq ?_
  refine run_reg ?_
  refine e_end ?_
  refine g_v1 (t := 0) (u := (.int .u64 (IntKind.u64.wrap ((iand .u64 q_2 6148914691236517205) + (iand .u64 x_1.v 6148914691236517205))))) (.int .u64 (IntKind.u64.wrap ((iand .u64 q_2 6148914691236517205) + (iand .u64 x_1.v 6148914691236517205)))) h0 rfl rfl ?_
  obtain ⟨q_3, E_q_3, h⟩ := bind_some h
  refine g_v (.int .u64 q_3) (ev_shr rfl rfl E_q_3) ?_
  refine g_v1 (t := 10) (u := (.int .u64 q_3)) (.int .u64 (iand .u64 q_3 3689348814741910323)) rfl rfl rfl ?_
  refine g_v1 (t := 0) (u := (.int .u64 (IntKind.u64.wrap ((iand .u64 q_2 6148914691236517205) + (iand .u64 x_1.v 6148914691236517205))))) (.int .u64 (IntKind.u64.wrap ((iand .u64 q_2 6148914691236517205) + (iand .u64 x_1.v 6148914691236517205)))) h0 rfl rfl ?_
  refine g_v1 (t := 12) (u := (.int .u64 (IntKind.u64.wrap ((iand .u64 q_2 6148914691236517205) + (iand .u64 x_1.v 6148914691236517205))))) (.int .u64 (iand .u64 (IntKind.u64.wrap ((iand .u64 q_2 6148914691236517205) + (iand .u64 x_1.v 6148914691236517205))) 3689348814741910323)) rfl rfl rfl ?_
  refine g_v2 (t1 := 11) (t2 := 13) (u1 := (.int .u64 (iand .u64 q_3 3689348814741910323))) (u2 := (.int .u64 (iand .u64 (IntKind.u64.wrap ((iand .u64 q_2 6148914691236517205) + (iand .u64 x_1.v 6148914691236517205))) 3689348814741910323))) (.int .u64 (IntKind.u64.wrap ((iand .u64 q_3 3689348814741910323) + (iand .u64 (IntKind.u64.wrap ((iand .u64 q_2 6148914691236517205) + (iand .u64 x_1.v 6148914691236517205))) 3689348814741910323)))) rfl rfl rfl rfl ?_
  refine g_v1 (t := 14) (u := (.int .u64 (IntKind.u64.wrap ((iand .u64 q_3 3689348814741910323) + (iand .u64 (IntKind.u64.wrap ((iand .u64 q_2 6148914691236517205) + (iand .u64 x_1.v 6148914691236517205))) 3689348814741910323))))) (.int .u64 (IntKind.u64.wrap ((iand .u64 q_3 3689348814741910323) + (iand .u64 (IntKind.u64.wrap ((iand .u64 q_2 6148914691236517205) + (iand .u64 x_1.v 6148914691236517205))) 3689348814741910323)))) rfl rfl rfl ?_
  refine g_end ?_
  refine e_end ?_
  refine renew [(0, (.int .u64 (IntKind.u64.wrap ((iand .u64 q_3 3689348814741910323) + (iand .u64 (IntKind.u64.wrap ((iand .u64 q_2 6148914691236517205) + (iand .u64 x_1.v 6148914691236517205))) 3689348814741910323))))), (2, (.int .i64 0))] ⟨rfl, h2⟩ ?_
  rintro s ⟨h0, h2⟩
  refine .nsq ?_
  refine .seq ?_
  refine run_reg ?_
  refine e_end ?_
  refine g_v1 (t := 0) (u := (.int .u64 (IntKind.u64.wrap ((iand .u64 q_3 3689348814741910323) + (iand .u64 (IntKind.u64.wrap ((iand .u64 q_2 6148914691236517205) + (iand .u64 x_1.v 6148914691236517205))) 3689348814741910323))))) (.int .u64 (IntKind.u64.wrap ((iand .u64 q_3 3689348814741910323) + (iand .u64 (IntKind.u64.wrap ((iand .u64 q_2 6148914691236517205) + (iand .u64 x_1.v 6148914691236517205))) 3689348814741910323)))) h0 rfl rfl ?_
  obtain ⟨q_4, E_q_4, h⟩ := bind_some h
  refine g_v (.int .u64 q_4) (ev_shr rfl rfl E_q_4) ?_
  refine g_v1 (t := 0) (u := (.int .u64 (IntKind.u64.wrap ((iand .u64 q_3 3689348814741910323) + (iand .u64 (IntKind.u64.wrap ((iand .u64 q_2 6148914691236517205) + (iand .u64 x_1.v 6148914691236517205))) 3689348814741910323))))) (.int .u64 (IntKind.u64.wrap ((iand .u64 q_3 3689348814741910323) + (iand .u64 (IntKind.u64.wrap ((iand .u64 q_2 6148914691236517205) + (iand .u64 x_1.v 6148914691236517205))) 3689348814741910323)))) h0 rfl rfl ?_
  refine g_v2 (t1 := 16) (t2 := 17) (u1 := (.int .u64 q_4)) (u2 := (.int .u64 (IntKind.u64.wrap ((iand .u64 q_3 3689348814741910323) + (iand .u64 (IntKind.u64.wrap ((iand .u64 q_2 6148914691236517205) + (iand .u64 x_1.v 6148914691236517205))) 3689348814741910323))))) (.int .u64 (IntKind.u64.wrap (q_4 + (IntKind.u64.wrap ((iand .u64 q_3 3689348814741910323) + (iand .u64 (IntKind.u64.wrap ((iand .u64 q_2 6148914691236517205) + (iand .u64 x_1.v 6148914691236517205))) 3689348814741910323)))))) rfl rfl rfl rfl ?_
  refine g_v1 (t := 18) (u := (.int .u64 (IntKind.u64.wrap (q_4 + (IntKind.u64.wrap ((iand .u64 q_3 3689348814741910323) + (iand .u64 (IntKind.u64.wrap ((iand .u64 q_2 6148914691236517205) + (iand .u64 x_1.v 6148914691236517205))) 3689348814741910323))))))) (.int .u64 (iand .u64 (IntKind.u64.wrap (q_4 + (IntKind.u64.wrap ((iand .u64 q_3 3689348814741910323) + (iand .u64 (IntKind.u64.wrap ((iand .u64 q_2 6148914691236517205) + (iand .u64 x_1.v 6148914691236517205))) 3689348814741910323))))) 1085102592571150095)) rfl rfl rfl ?_
  refine g_v1 (t := 19) (u := (.int .u64 (iand .u64 (IntKind.u64.wrap (q_4 + (IntKind.u64.wrap ((iand .u64 q_3 3689348814741910323) + (iand .u64 (IntKind.u64.wrap ((iand .u64 q_2 6148914691236517205) + (iand .u64 x_1.v 6148914691236517205))) 3689348814741910323))))) 1085102592571150095))) (.int .u64 (iand .u64 (IntKind.u64.wrap (q_4 + (IntKind.u64.wrap ((iand .u64 q_3 3689348814741910323) + (iand .u64 (IntKind.u64.wrap ((iand .u64 q_2 6148914691236517205) + (iand .u64 x_1.v 6148914691236517205))) 3689348814741910323))))) 1085102592571150095)) rfl rfl rfl ?_
  refine g_end ?_
  refine e_end ?_
  refine renew [(0, (.int .u64 (iand .u64 (IntKind.u64.wrap (q_4 + (IntKind.u64.wrap ((iand .u64 q_3 3689348814741910323) + (iand .u64 (IntKind.u64.wrap ((iand .u64 q_2 6148914691236517205) + (iand .u64 x_1.v 6148914691236517205))) 3689348814741910323))))) 1085102592571150095))), (2, (.int .i64 0))] ⟨rfl, h2⟩ ?_
  rintro s ⟨h0, h2⟩
  refine .nsq ?_
  refine .seq ?_
  refine run_reg ?_
  refine e_end ?_
  refine g_v1 (t := 0) (u := (.int .u64 (iand .u64 (IntKind.u64.wrap (q_4 + (IntKind.u64.wrap ((iand .u64 q_3 3689348814741910323) + (iand .u64 (IntKind.u64.wrap ((iand .u64 q_2 6148914691236517205) + (iand .u64 x_1.v 6148914691236517205))) 3689348814741910323))))) 1085102592571150095))) (.int .u64 (iand .u64 (IntKind.u64.wrap (q_4 + (IntKind.u64.wrap ((iand .u64 q_3 3689348814741910323) + (iand .u64 (IntKind.u64.wrap ((iand .u64 q_2 6148914691236517205) + (iand .u64 x_1.v 6148914691236517205))) 3689348814741910323))))) 1085102592571150095)) h0 rfl rfl ?_
  refine g_v1 (t := 0) (u := (.int .u64 (iand .u64 (IntKind.u64.wrap (q_4 + (IntKind.u64.wrap ((iand .u64 q_3 3689348814741910323) + (iand .u64 (IntKind.u64.wrap ((iand .u64 q_2 6148914691236517205) + (iand .u64 x_1.v 6148914691236517205))) 3689348814741910323))))) 1085102592571150095))) (.int .u64 (iand .u64 (IntKind.u64.wrap (q_4 + (IntKind.u64.wrap ((iand .u64 q_3 3689348814741910323) + (iand .u64 (IntKind.u64.wrap ((iand .u64 q_2 6148914691236517205) + (iand .u64 x_1.v 6148914691236517205))) 3689348814741910323))))) 1085102592571150095)) h0 rfl rfl ?_
  obtain ⟨q_5, E_q_5, h⟩ := bind_some h
  refine g_v (.int .u64 q_5) (ev_shr rfl rfl E_q_5) ?_
  refine g_v2 (t1 := 20) (t2 := 22) (u1 := (.int .u64 (iand .u64 (IntKind.u64.wrap (q_4 + (IntKind.u64.wrap ((iand .u64 q_3 3689348814741910323) + (iand .u64 (IntKind.u64.wrap ((iand .u64 q_2 6148914691236517205) + (iand .u64 x_1.v 6148914691236517205))) 3689348814741910323))))) 1085102592571150095))) (u2 := (.int .u64 q_5)) (.int .u64 (IntKind.u64.wrap ((iand .u64 (IntKind.u64.wrap (q_4 + (IntKind.u64.wrap ((iand .u64 q_3 3689348814741910323) + (iand .u64 (IntKind.u64.wrap ((iand .u64 q_2 6148914691236517205) + (iand .u64 x_1.v 6148914691236517205))) 3689348814741910323))))) 1085102592571150095) + q_5))) rfl rfl rfl rfl ?_
  refine g_v1 (t := 23) (u := (.int .u64 (IntKind.u64.wrap ((iand .u64 (IntKind.u64.wrap (q_4 + (IntKind.u64.wrap ((iand .u64 q_3 3689348814741910323) + (iand .u64 (IntKind.u64.wrap ((iand .u64 q_2 6148914691236517205) + (iand .u64 x_1.v 6148914691236517205))) 3689348814741910323))))) 1085102592571150095) + q_5)))) (.int .u64 (IntKind.u64.wrap ((iand .u64 (IntKind.u64.wrap (q_4 + (IntKind.u64.wrap ((iand .u64 q_3 3689348814741910323) + (iand .u64 (IntKind.u64.wrap ((iand .u64 q_2 6148914691236517205) + (iand .u64 x_1.v 6148914691236517205))) 3689348814741910323))))) 1085102592571150095) + q_5))) rfl rfl rfl ?_
  refine g_end ?_
  refine e_end ?_
  refine renew [(0, (.int .u64 (IntKind.u64.wrap ((iand .u64 (IntKind.u64.wrap (q_4 + (IntKind.u64.wrap ((iand .u64 q_3 3689348814741910323) + (iand .u64 (IntKind.u64.wrap ((iand .u64 q_2 6148914691236517205) + (iand .u64 x_1.v 6148914691236517205))) 3689348814741910323))))) 1085102592571150095) + q_5)))), (2, (.int .i64 0))] ⟨rfl, h2⟩ ?_
  rintro s ⟨h0, h2⟩
  refine .nsq ?_
  refine .seq ?_
  refine run_reg ?_
  refine e_end ?_
  refine g_v1 (t := 0) (u := (.int .u64 (IntKind.u64.wrap ((iand .u64 (IntKind.u64.wrap (q_4 + (IntKind.u64.wrap ((iand .u64 q_3 3689348814741910323) + (iand .u64 (IntKind.u64.wrap ((iand .u64 q_2 6148914691236517205) + (iand .u64 x_1.v 6148914691236517205))) 3689348814741910323))))) 1085102592571150095) + q_5)))) (.int .u64 (IntKind.u64.wrap ((iand .u64 (IntKind.u64.wrap (q_4 + (IntKind.u64.wrap ((iand .u64 q_3 3689348814741910323) + (iand .u64 (IntKind.u64.wrap ((iand .u64 q_2 6148914691236517205) + (iand .u64 x_1.v 6148914691236517205))) 3689348814741910323))))) 1085102592571150095) + q_5))) h0 rfl rfl ?_
  refine g_v1 (t := 0) (u := (.int .u64 (IntKind.u64.wrap ((iand .u64 (IntKind.u64.wrap (q_4 + (IntKind.u64.wrap ((iand .u64 q_3 3689348814741910323) + (iand .u64 (IntKind.u64.wrap ((iand .u64 q_2 6148914691236517205) + (iand .u64 x_1.v 6148914691236517205))) 3689348814741910323))))) 1085102592571150095) + q_5)))) (.int .u64 (IntKind.u64.wrap ((iand .u64 (IntKind.u64.wrap (q_4 + (IntKind.u64.wrap ((iand .u64 q_3 3689348814741910323) + (iand .u64 (IntKind.u64.wrap ((iand .u64 q_2 6148914691236517205) + (iand .u64 x_1.v 6148914691236517205))) 3689348814741910323))))) 1085102592571150095) + q_5))) h0 rfl rfl ?_
  obtain ⟨q_6, E_q_6, h⟩ := bind_some h
  refine g_v (.int .u64 q_6) (ev_shr rfl rfl E_q_6) ?_
  refine g_v2 (t1 := 24) (t2 := 26) (u1 := (.int .u64 (IntKind.u64.wrap ((iand .u64 (IntKind.u64.wrap (q_4 + (IntKind.u64.wrap ((iand .u64 q_3 3689348814741910323) + (iand .u64 (IntKind.u64.wrap ((iand .u64 q_2 6148914691236517205) + (iand .u64 x_1.v 6148914691236517205))) 3689348814741910323))))) 1085102592571150095) + q_5)))) (u2 := (.int .u64 q_6)) (.int .u64 (IntKind.u64.wrap ((IntKind.u64.wrap ((iand .u64 (IntKind.u64.wrap (q_4 + (IntKind.u64.wrap ((iand .u64 q_3 3689348814741910323) + (iand .u64 (IntKind.u64.wrap ((iand .u64 q_2 6148914691236517205) + (iand .u64 x_1.v 6148914691236517205))) 3689348814741910323))))) 1085102592571150095) + q_5)) + q_6))) rfl rfl rfl rfl ?_
  refine g_v1 (t := 27) (u := (.int .u64 (IntKind.u64.wrap ((IntKind.u64.wrap ((iand .u64 (IntKind.u64.wrap (q_4 + (IntKind.u64.wrap ((iand .u64 q_3 3689348814741910323) + (iand .u64 (IntKind.u64.wrap ((iand .u64 q_2 6148914691236517205) + (iand .u64 x_1.v 6148914691236517205))) 3689348814741910323))))) 1085102592571150095) + q_5)) + q_6)))) (.int .u64 (IntKind.u64.wrap ((IntKind.u64.wrap ((iand .u64 (IntKind.u64.wrap (q_4 + (IntKind.u64.wrap ((iand .u64 q_3 3689348814741910323) + (iand .u64 (IntKind.u64.wrap ((iand .u64 q_2 6148914691236517205) + (iand .u64 x_1.v 6148914691236517205))) 3689348814741910323))))) 1085102592571150095) + q_5)) + q_6))) rfl rfl rfl ?_
  refine g_end ?_
  refine e_end ?_
  refine renew [(0, (.int .u64 (IntKind.u64.wrap ((IntKind.u64.wrap ((iand .u64 (IntKind.u64.wrap (q_4 + (IntKind.u64.wrap ((iand .u64 q_3 3689348814741910323) + (iand .u64 (IntKind.u64.wrap ((iand .u64 q_2 6148914691236517205) + (iand .u64 x_1.v 6148914691236517205))) 3689348814741910323))))) 1085102592571150095) + q_5)) + q_6)))), (2, (.int .i64 0))] ⟨rfl, h2⟩ ?_
  rintro s ⟨h0, h2⟩
  refine .nsq ?_
  refine .seq ?_
  refine run_reg ?_
  refine e_end ?_
  refine g_v1 (t := 0) (u := (.int .u64 (IntKind.u64.wrap ((IntKind.u64.wrap ((iand .u64 (IntKind.u64.wrap (q_4 + (IntKind.u64.wrap ((iand .u64 q_3 3689348814741910323) + (iand .u64 (IntKind.u64.wrap ((iand .u64 q_2 6148914691236517205) + (iand .u64 x_1.v 6148914691236517205))) 3689348814741910323))))) 1085102592571150095) + q_5)) + q_6)))) (.int .u64 (IntKind.u64.wrap ((IntKind.u64.wrap ((iand .u64 (IntKind.u64.wrap (q_4 + (IntKind.u64.wrap ((iand .u64 q_3 3689348814741910323) + (iand .u64 (IntKind.u64.wrap ((iand .u64 q_2 6148914691236517205) + (iand .u64 x_1.v 6148914691236517205))) 3689348814741910323))))) 1085102592571150095) + q_5)) + q_6))) h0 rfl rfl ?_
  refine g_v1 (t := 0) (u := (.int .u64 (IntKind.u64.wrap ((IntKind.u64.wrap ((iand .u64 (IntKind.u64.wrap (q_4 + (IntKind.u64.wrap ((iand .u64 q_3 3689348814741910323) + (iand .u64 (IntKind.u64.wrap ((iand .u64 q_2 6148914691236517205) + (iand .u64 x_1.v 6148914691236517205))) 3689348814741910323))))) 1085102592571150095) + q_5)) + q_6)))) (.int .u64 (IntKind.u64.wrap ((IntKind.u64.wrap ((iand .u64 (IntKind.u64.wrap (q_4 + (IntKind.u64.wrap ((iand .u64 q_3 3689348814741910323) + (iand .u64 (IntKind.u64.wrap ((iand .u64 q_2 6148914691236517205) + (iand .u64 x_1.v 6148914691236517205))) 3689348814741910323))))) 1085102592571150095) + q_5)) + q_6))) h0 rfl rfl ?_
  obtain ⟨q_7, E_q_7, h⟩ := bind_some h
  refine g_v (.int .u64 q_7) (ev_shr rfl rfl E_q_7) ?_
  refine g_v2 (t1 := 28) (t2 := 30) (u1 := (.int .u64 (IntKind.u64.wrap ((IntKind.u64.wrap ((iand .u64 (IntKind.u64.wrap (q_4 + (IntKind.u64.wrap ((iand .u64 q_3 3689348814741910323) + (iand .u64 (IntKind.u64.wrap ((iand .u64 q_2 6148914691236517205) + (iand .u64 x_1.v 6148914691236517205))) 3689348814741910323))))) 1085102592571150095) + q_5)) + q_6)))) (u2 := (.int .u64 q_7)) (.int .u64 (IntKind.u64.wrap ((IntKind.u64.wrap ((IntKind.u64.wrap ((iand .u64 (IntKind.u64.wrap (q_4 + (IntKind.u64.wrap ((iand .u64 q_3 3689348814741910323) + (iand .u64 (IntKind.u64.wrap ((iand .u64 q_2 6148914691236517205) + (iand .u64 x_1.v 6148914691236517205))) 3689348814741910323))))) 1085102592571150095) + q_5)) + q_6)) + q_7))) rfl rfl rfl rfl ?_
  refine g_v1 (t := 31) (u := (.int .u64 (IntKind.u64.wrap ((IntKind.u64.wrap ((IntKind.u64.wrap ((iand .u64 (IntKind.u64.wrap (q_4 + (IntKind.u64.wrap ((iand .u64 q_3 3689348814741910323) + (iand .u64 (IntKind.u64.wrap ((iand .u64 q_2 6148914691236517205) + (iand .u64 x_1.v 6148914691236517205))) 3689348814741910323))))) 1085102592571150095) + q_5)) + q_6)) + q_7)))) (.int .u64 (IntKind.u64.wrap ((IntKind.u64.wrap ((IntKind.u64.wrap ((iand .u64 (IntKind.u64.wrap (q_4 + (IntKind.u64.wrap ((iand .u64 q_3 3689348814741910323) + (iand .u64 (IntKind.u64.wrap ((iand .u64 q_2 6148914691236517205) + (iand .u64 x_1.v 6148914691236517205))) 3689348814741910323))))) 1085102592571150095) + q_5)) + q_6)) + q_7))) rfl rfl rfl ?_
  refine g_end ?_
  refine e_end ?_
  refine renew [(0, (.int .u64 (IntKind.u64.wrap ((IntKind.u64.wrap ((IntKind.u64.wrap ((iand .u64 (IntKind.u64.wrap (q_4 + (IntKind.u64.wrap ((iand .u64 q_3 3689348814741910323) + (iand .u64 (IntKind.u64.wrap ((iand .u64 q_2 6148914691236517205) + (iand .u64 x_1.v 6148914691236517205))) 3689348814741910323))))) 1085102592571150095) + q_5)) + q_6)) + q_7)))), (2, (.int .i64 0))] ⟨rfl, h2⟩ ?_
  rintro s ⟨h0, h2⟩
  refine .nsq ?_
  refine .seq ?_
  refine run_reg ?_
  refine e_end ?_
  refine g_v1 (t := 0) (u := (.int .u64 (IntKind.u64.wrap ((IntKind.u64.wrap ((IntKind.u64.wrap ((iand .u64 (IntKind.u64.wrap (q_4 + (IntKind.u64.wrap ((iand .u64 q_3 3689348814741910323) + (iand .u64 (IntKind.u64.wrap ((iand .u64 q_2 6148914691236517205) + (iand .u64 x_1.v 6148914691236517205))) 3689348814741910323))))) 1085102592571150095) + q_5)) + q_6)) + q_7)))) (.int .u64 (IntKind.u64.wrap ((IntKind.u64.wrap ((IntKind.u64.wrap ((iand .u64 (IntKind.u64.wrap (q_4 + (IntKind.u64.wrap ((iand .u64 q_3 3689348814741910323) + (iand .u64 (IntKind.u64.wrap ((iand .u64 q_2 6148914691236517205) + (iand .u64 x_1.v 6148914691236517205))) 3689348814741910323))))) 1085102592571150095) + q_5)) + q_6)) + q_7))) h0 rfl rfl ?_
  refine g_v1 (t := 32) (u := (.int .u64 (IntKind.u64.wrap ((IntKind.u64.wrap ((IntKind.u64.wrap ((iand .u64 (IntKind.u64.wrap (q_4 + (IntKind.u64.wrap ((iand .u64 q_3 3689348814741910323) + (iand .u64 (IntKind.u64.wrap ((iand .u64 q_2 6148914691236517205) + (iand .u64 x_1.v 6148914691236517205))) 3689348814741910323))))) 1085102592571150095) + q_5)) + q_6)) + q_7)))) (.int .i64 (w64 (IntKind.u64.wrap ((IntKind.u64.wrap ((IntKind.u64.wrap ((iand .u64 (IntKind.u64.wrap (q_4 + (IntKind.u64.wrap ((iand .u64 q_3 3689348814741910323) + (iand .u64 (IntKind.u64.wrap ((iand .u64 q_2 6148914691236517205) + (iand .u64 x_1.v 6148914691236517205))) 3689348814741910323))))) 1085102592571150095) + q_5)) + q_6)) + q_7)))) rfl rfl rfl ?_
  refine g_v1 (t := 33) (u := (.int .i64 (w64 (IntKind.u64.wrap ((IntKind.u64.wrap ((IntKind.u64.wrap ((iand .u64 (IntKind.u64.wrap (q_4 + (IntKind.u64.wrap ((iand .u64 q_3 3689348814741910323) + (iand .u64 (IntKind.u64.wrap ((iand .u64 q_2 6148914691236517205) + (iand .u64 x_1.v 6148914691236517205))) 3689348814741910323))))) 1085102592571150095) + q_5)) + q_6)) + q_7))))) (.int .i64 (iand .i64 (w64 (IntKind.u64.wrap ((IntKind.u64.wrap ((IntKind.u64.wrap ((iand .u64 (IntKind.u64.wrap (q_4 + (IntKind.u64.wrap ((iand .u64 q_3 3689348814741910323) + (iand .u64 (IntKind.u64.wrap ((iand .u64 q_2 6148914691236517205) + (iand .u64 x_1.v 6148914691236517205))) 3689348814741910323))))) 1085102592571150095) + q_5)) + q_6)) + q_7))) 127)) rfl rfl rfl ?_
  refine g_v1 (t := 34) (u := (.int .i64 (iand .i64 (w64 (IntKind.u64.wrap ((IntKind.u64.wrap ((IntKind.u64.wrap ((iand .u64 (IntKind.u64.wrap (q_4 + (IntKind.u64.wrap ((iand .u64 q_3 3689348814741910323) + (iand .u64 (IntKind.u64.wrap ((iand .u64 q_2 6148914691236517205) + (iand .u64 x_1.v 6148914691236517205))) 3689348814741910323))))) 1085102592571150095) + q_5)) + q_6)) + q_7))) 127))) (.int .i64 (iand .i64 (w64 (IntKind.u64.wrap ((IntKind.u64.wrap ((IntKind.u64.wrap ((iand .u64 (IntKind.u64.wrap (q_4 + (IntKind.u64.wrap ((iand .u64 q_3 3689348814741910323) + (iand .u64 (IntKind.u64.wrap ((iand .u64 q_2 6148914691236517205) + (iand .u64 x_1.v 6148914691236517205))) 3689348814741910323))))) 1085102592571150095) + q_5)) + q_6)) + q_7))) 127)) rfl rfl rfl ?_
  refine g_end ?_
  refine e_end ?_
  refine renew [(2, (.int .i64 (iand .i64 (w64 (IntKind.u64.wrap ((IntKind.u64.wrap ((IntKind.u64.wrap ((iand .u64 (IntKind.u64.wrap (q_4 + (IntKind.u64.wrap ((iand .u64 q_3 3689348814741910323) + (iand .u64 (IntKind.u64.wrap ((iand .u64 q_2 6148914691236517205) + (iand .u64 x_1.v 6148914691236517205))) 3689348814741910323))))) 1085102592571150095) + q_5)) + q_6)) + q_7))) 127)))] rfl ?_
  rintro s h2
  refine .nsq ?_
  refine .ret ?_
  have hr := Option.some.inj h
  subst hr
  exact rrA (res_tmp h2) rfl
end
def e103 (F : Nat) : Ent := ⟨103, da (fun (x : ((Kd .u64) × Unit)) => bits_OnesCount64 F x.1) (fun (r : Int) => (Enc.enc (r : Int))), 0, false, selF []⟩
theorem p103 {F : Nat} {x0 : (Kd .u64)} {r : Int} (h : bits_OnesCount64 F x0 = some r) : (e103 F).den [Enc.enc x0] = some (Enc.enc (r : Int)) := da_put (f := fun (x : ((Kd .u64) × Unit)) => bits_OnesCount64 F x.1) (t := fun (r : Int) => (Enc.enc (r : Int))) (x0, ()) h
theorem o103 {D : Den} {σ : Sig} {F : Nat} (hF : Fits2 Try.prog D σ) (H : H103 D σ F) : (e103 F).Ok Try.prog := by
  refine ok_of (f := 103) (show unk 103 = 103 from rfl) (fun args r h => ?_) ⟨Try.f103, Try.func103, rfl, rfl⟩
  obtain ⟨⟨x0, _⟩, y, rfl, hy, rfl⟩ := da_open h
  exact contract_run hF (by kernel_rfl) Try.func103 rfl c103 (show 1 ≤ Try.f103.ntmps by decide) (t103 H x0 _ rfl hy)
/- math/bits.OnesCount -/
def A52_2 : AC := (AC.seq (AC.reg [] [(I.mk (some 6) none false (X.v (A.mov (O.t 0)))), (I.mk (some 7) none false (X.call (O.k (V.fn 103 [] [])) [(O.t 6)])), (I.mk (some 2) none false (X.v (A.mov (O.t 7))))] []) AC.ret)
def A52_1 : AC := (AC.seq (AC.cond (O.k (V.bool false)) (AC.seq (AC.reg [] [(I.mk (some 3) none false (X.v (A.mov (O.t 0)))), (I.mk (some 4) none false (X.v (A.conv IntKind.u32 (O.t 3)))), (I.mk (some 5) none false (X.call (O.k (V.fn 102 [] [])) [(O.t 4)])), (I.mk (some 2) none false (X.v (A.mov (O.t 5))))] []) AC.ret) AC.skip) A52_2)
def A52 : AC := (AC.seq (AC.reg [] [(I.mk (some 2) none false (X.v (A.mov (O.k (V.int IntKind.i64 (Int.ofNat 0))))))] []) A52_1)
def an52 : List An := []
theorem c52 : cC Try.prog Try.f52.ntmps an52 (Try.f52.body.getD .skip) = some A52 := by kernel_rfl
structure H52 (D : Den) (σ : Sig) (F : Nat) : Prop where
  c103 : ∀ (x0 : (Kd .u64)) r, bits_OnesCount64 F x0 = some r → D 103 [Enc.enc x0] = some (Enc.enc (r : Int))
  g103 : σ 103 = some (0, false)
abbrev R52 (r : Int) : (Nat → V) → Prop := RR Try.prog [.tmp 2] 0 false (Enc.enc (r : Int))
section
variable {D : Den} {σ : Sig} {F : Nat} {r : Int}
def bits_OnesCount (F : Nat) (x_1 : (Kd .u64)) : Option Int :=
  (bits_OnesCount64 F (Kd.mk x_1.v : Kd .u64)).bind fun r_2 =>
  some r_2
theorem t52 (H : H52 D σ F) (x_1 : (Kd .u64)) (s : Nat → V) (hs : Facts [(0, (.int .u64 x_1.v))] s) (h : bits_OnesCount F x_1 = some r) : Run D σ (R52 r) (.run A52 []) s := by
  unfold bits_OnesCount at h
  have h0 := hs
  refine .seq ?_
  refine run_reg ?_
  refine e_end ?_
  refine g_v0 (.int .i64 0) rfl rfl ?_
  refine g_end ?_
  refine e_end ?_
  refine renew [(0, (.int .u64 x_1.v)), (2, (.int .i64 0))] ⟨h0, rfl⟩ ?_
  rintro s ⟨h0, h2⟩
  refine .nsq ?_
  refine .seq ?_
  refine run_condF rfl ?_
  refine .skip ?_
  refine .nsq ?_
  refine .seq ?_
  refine run_reg ?_
  refine e_end ?_
  refine g_v1 (t := 0) (u := (.int .u64 x_1.v)) (.int .u64 x_1.v) h0 rfl rfl ?_
  obtain ⟨r_2, E_r_2, h⟩ := bind_some h
  refine g_call (m := 0) (al := false) (r := (Enc.enc (r_2 : Int))) [Enc.enc ((Kd.mk x_1.v : Kd .u64) : (Kd .u64))] (ta_cons (v := (.int .u64 x_1.v)) rfl rfl rfl ta_nil) (H.c103 _ _ E_r_2) H.g103 rfl rfl rfl rfl ?_
  refine g_v1 (t := 7) (u := (.int .i64 r_2)) (.int .i64 r_2) rfl rfl rfl ?_
  refine g_end ?_
  refine e_end ?_
  refine renew [(2, (.int .i64 r_2))] rfl ?_
  rintro s h2
  refine .nsq ?_
  refine .ret ?_
  have hr := Option.some.inj h
  subst hr
  exact rrA (res_tmp h2) rfl
end
def e52 (F : Nat) : Ent := ⟨52, da (fun (x : ((Kd .u64) × Unit)) => bits_OnesCount F x.1) (fun (r : Int) => (Enc.enc (r : Int))), 0, false, selF []⟩
theorem p52 {F : Nat} {x0 : (Kd .u64)} {r : Int} (h : bits_OnesCount F x0 = some r) : (e52 F).den [Enc.enc x0] = some (Enc.enc (r : Int)) := da_put (f := fun (x : ((Kd .u64) × Unit)) => bits_OnesCount F x.1) (t := fun (r : Int) => (Enc.enc (r : Int))) (x0, ()) h
theorem o52 {D : Den} {σ : Sig} {F : Nat} (hF : Fits2 Try.prog D σ) (H : H52 D σ F) : (e52 F).Ok Try.prog := by
  refine ok_of (f := 52) (show unk 52 = 52 from rfl) (fun args r h => ?_) ⟨Try.f52, Try.func52, rfl, rfl⟩
  obtain ⟨⟨x0, _⟩, y, rfl, hy, rfl⟩ := da_open h
  exact contract_run hF (by kernel_rfl) Try.func52 rfl c52 (show 1 ≤ Try.f52.ntmps by decide) (t52 H x0 _ rfl hy)
/- loop.example/g01109/impl.EliminationWidth -/
def A43_4 : AC := (AC.reg [] [(I.mk (some 27) none false (X.v (A.mov (O.t 6)))), (I.mk (some 28) none false (X.v (A.mov (O.t 8)))), (I.mk (some 29) none false (X.v (A.conv IntKind.u64 (O.t 28)))), (I.mk (some 30) none false (X.call (O.k (V.fn 52 [] [])) [(O.t 29)])), (I.mk (some 31) none false (X.v (A.mx [(O.t 27), (O.t 30)]))), (I.mk (some 6) none false (X.v (A.mov (O.t 31))))] [])
def A43_5 : AC := (AC.reg [] [(I.mk (some 32) none false (X.v (A.bin BinOp.add (O.t 23) (O.k (V.int IntKind.i64 (Int.ofNat 1)))))), (I.mk (some 23) none false (X.v (A.mov (O.t 32))))] [])
def A43_3 : AC := (AC.seq (AC.block 1 (AC.seq (AC.reg [] [(I.mk (some 25) none false (X.v (A.idx (O.t 21) (O.t 23) 1))), (I.mk (some 26) none false (X.v (A.load Sh.s (O.t 25)))), (I.mk (some 8) none false (X.v (A.mov (O.t 26))))] []) A43_4)) A43_5)
def A43_2 : AC := (AC.seq (AC.cond (O.t 24) AC.skip (AC.exit 0)) A43_3)
def A43_1 : AC := (AC.seq (AC.reg [] [(I.mk (some 24) none false (X.v (A.bin BinOp.lss (O.t 23) (O.t 22))))] []) A43_2)
def A43_6 : AC := (AC.seq (AC.reg [] [(I.mk (some 33) none false (X.v (A.mov (O.t 6)))), (I.mk (some 4) none false (X.v (A.mov (O.t 33)))), (I.mk (some 5) none false (X.v (A.mov (O.k (V.bool true)))))] []) AC.ret)
def A43_7 : AC := (AC.cond (O.t 17) (AC.seq (AC.reg [] [(I.mk (some 4) none false (X.v (A.mov (O.k (V.int IntKind.i64 (Int.ofNat 0)))))), (I.mk (some 5) none false (X.v (A.mov (O.k (V.bool false)))))] []) AC.ret) AC.skip)
def A43_10 : AC := (AC.block 0 (AC.loop A43_1))
def A43_9 : AC := (AC.seq (AC.seq (AC.reg [] [(I.mk (some 18) none false (X.v (A.load (Sh.ag [Sh.s, Sh.p]) (O.t 2)))), (I.mk (some 19) none false (X.call (O.k (V.fn 55 [] [])) [(O.t 18)])), (I.mk (some 20) none false (X.v (A.mov (O.t 1)))), (I.mk (some 21) none false (X.call (O.k (V.fn 96 [] [])) [(O.t 19), (O.t 20)])), (I.mk (some 22) none false (X.v (A.len (O.t 21)))), (I.mk (some 23) none false (X.v (A.mov (O.k (V.int IntKind.i64 (Int.ofNat 0))))))] []) A43_10) A43_6)
def A43_8 : AC := (AC.seq (AC.reg [] [(I.mk (some 6) none false (X.v (A.mov (O.k (V.int IntKind.i64 (Int.negSucc 0))))))] []) A43_9)
def A43_11 : AC := (AC.seq (AC.seq (AC.reg [] [(I.mk (some 9) none false (X.v (A.load (Sh.ag [Sh.s, Sh.p]) (O.t 2)))), (I.mk (some 10) none false (X.call (O.k (V.fn 50 [] [])) [(O.t 9)])), (I.mk (some 11) none false (X.v (A.un UnOp.not (O.t 10)))), (I.mk (some 12) none false (X.v (A.mov (O.t 11)))), (I.mk (some 13) (some (12, false)) false (X.v (A.load (Sh.ag [Sh.s, Sh.p]) (O.t 2)))), (I.mk (some 14) (some (12, false)) false (X.v (A.mov (O.t 1)))), (I.mk (some 15) (some (12, false)) false (X.call (O.k (V.fn 60 [] [])) [(O.t 13), (O.t 14)])), (I.mk (some 16) (some (12, false)) false (X.v (A.un UnOp.not (O.t 15)))), (I.mk (some 17) none false (X.v (A.pick (O.t 12) (O.k (V.bool true)) (O.t 16))))] []) A43_7) A43_8)
def A43 : AC := (AC.seq (AC.reg [.clr [2]] [(I.mk (some 2) none false (X.box (O.t 0))), (I.mk (some 4) none false (X.v (A.mov (O.k (V.int IntKind.i64 (Int.ofNat 0)))))), (I.mk (some 5) none false (X.v (A.mov (O.k (V.bool false)))))] []) A43_11)
def an43 : List An := [{ id := 0, pre := [.clr [2]], ep := [], lin := [], sp := [] }]
theorem c43 : cC Try.prog Try.f43.ntmps an43 (Try.f43.body.getD .skip) = some A43 := by kernel_rfl
structure H43 (D : Den) (σ : Sig) (F : Nat) : Prop where
  c50 : ∀ (x0 : (Int × (List (Int × Int)))) r, i_IsGraph F x0 = some r → D 50 [Enc.enc x0] = some (Enc.enc (r : Bool))
  g50 : σ 50 = some (0, false)
  c60 : ∀ (x0 : (Int × (List (Int × Int)))) (x1 : (List Int)) r, i_isOrder F x0 x1 = some r → D 60 [Enc.enc x0, Enc.enc x1] = some (Enc.enc (r : Bool))
  g60 : σ 60 = some (0, false)
  c55 : ∀ (x0 : (Int × (List (Int × Int)))) r, i_netOf F x0 = some r → D 55 [Enc.enc x0] = some (Enc.enc (r : (S1 (List Int))))
  g55 : σ 55 = some (0, false)
  c96 : ∀ (x0 : (S1 (List Int))) (x1 : (List Int)) r, i_net_neighborsBehind F x0 x1 = some r → D 96 [Enc.enc x0, Enc.enc x1] = some (Enc.enc (r : (List Int)))
  g96 : σ 96 = some (0, false)
  c52 : ∀ (x0 : (Kd .u64)) r, bits_OnesCount F x0 = some r → D 52 [Enc.enc x0] = some (Enc.enc (r : Int))
  g52 : σ 52 = some (0, false)
abbrev R43 (r : (Int × Bool)) : (Nat → V) → Prop := RR Try.prog [.tmp 4, .tmp 5] 0 false (.tup [Enc.enc (r.1 : Int), Enc.enc (r.2 : Bool)])
section
variable {D : Den} {σ : Sig} {F : Nat} {r : (Int × Bool)}
def i_EliminationWidth_l1 (F : Nat) (r_7 : (List Int))  : Nat → Int → Int → Option (Int × Bool)
  | 0, _, _ => none
  | k + 1, width_10, t23_11 =>
    bif decide (t23_11 < (r_7.length : Int)) then
      (idx r_7 t23_11).bind fun e_14 =>
      (bits_OnesCount F (Kd.mk (IntKind.u64.wrap e_14) : Kd .u64)).bind fun r_15 =>
      (i_EliminationWidth_l1 F r_7 k) (if r_15 > width_10 then r_15 else width_10) (w64 (t23_11 + 1))
    else
      some (width_10, true)
theorem t_f43_l1 (H : H43 D σ F) (r_7 : (List Int))  : ∀ (k : Nat) (width_10 : Int) (t23_11 : Int) (s : Nat → V), Facts [(4, (.int .i64 0)), (5, (.bool false)), (6, (.int .i64 width_10)), (21, (Enc.enc (r_7 : List Int))), (22, (.int .i64 (r_7.length : Int))), (23, (.int .i64 t23_11))] s → i_EliminationWidth_l1 F r_7 k width_10 t23_11 = some r → Run D σ (R43 r) (.run A43_1 [.lp A43_1, .bk 0, .sq A43_6]) s := by
  intro k
  induction k with
  | zero => intro width_10 t23_11 s _ h; exact nomatch (h : (none : Option _) = some r)
  | succ k ih =>
    intro width_10 t23_11 s hs h
    rw [i_EliminationWidth_l1] at h
    obtain ⟨h4, h5, h6, h21, h22, h23⟩ := hs
    refine .seq ?_
    refine run_reg ?_
    refine e_end ?_
    refine g_v2 (t1 := 23) (t2 := 22) (u1 := (.int .i64 t23_11)) (u2 := (.int .i64 (r_7.length : Int))) (.bool (decide (t23_11 < (r_7.length : Int)))) h23 h22 rfl rfl ?_
    refine g_end ?_
    refine e_end ?_
    refine renew [(4, (.int .i64 0)), (5, (.bool false)), (6, (.int .i64 width_10)), (21, (Enc.enc (r_7 : List Int))), (22, (.int .i64 (r_7.length : Int))), (23, (.int .i64 t23_11)), (24, (.bool (decide (t23_11 < (r_7.length : Int)))))] ⟨h4, h5, h6, h21, h22, h23, rfl⟩ ?_
    rintro s ⟨h4, h5, h6, h21, h22, h23, h24⟩
    refine .nsq ?_
    refine .seq ?_
    refine run_cond (t := decide (t23_11 < (r_7.length : Int))) h24 h (fun h => ?_) (fun h => ?_)
    · refine .skip ?_
      refine .nsq ?_
      refine .seq ?_
      refine .block ?_
      refine .seq ?_
      refine run_reg ?_
      refine e_end ?_
      obtain ⟨e_14, E_e_14, h⟩ := bind_some h
      refine g_v (.ref .sh 0 [] (.int .i64 e_14)) (ev_idx (t := .sh) (lo := 0) (xs := r_7) h21 h23 E_e_14 rfl rfl) ?_
      refine g_v1 (t := 25) (u := (.ref .sh 0 [] (.int .i64 e_14))) (.int .i64 e_14) rfl rfl rfl ?_
      refine g_v1 (t := 26) (u := (.int .i64 e_14)) (.int .i64 e_14) rfl rfl rfl ?_
      refine g_end ?_
      refine e_end ?_
      refine renew [(4, (.int .i64 0)), (5, (.bool false)), (6, (.int .i64 width_10)), (8, (.int .i64 e_14)), (21, (Enc.enc (r_7 : List Int))), (22, (.int .i64 (r_7.length : Int))), (23, (.int .i64 t23_11))] ⟨h4, h5, h6, rfl, h21, h22, h23⟩ ?_
      rintro s ⟨h4, h5, h6, h8, h21, h22, h23⟩
      refine .nsq ?_
      refine run_reg ?_
      refine e_end ?_
      refine g_v1 (t := 6) (u := (.int .i64 width_10)) (.int .i64 width_10) h6 rfl rfl ?_
      refine g_v1 (t := 8) (u := (.int .i64 e_14)) (.int .i64 e_14) h8 rfl rfl ?_
      refine g_v1 (t := 28) (u := (.int .i64 e_14)) (.int .u64 (IntKind.u64.wrap e_14)) rfl rfl rfl ?_
      obtain ⟨r_15, E_r_15, h⟩ := bind_some h
      refine g_call (m := 0) (al := false) (r := (Enc.enc (r_15 : Int))) [Enc.enc ((Kd.mk (IntKind.u64.wrap e_14) : Kd .u64) : (Kd .u64))] (ta_cons (v := (.int .u64 (IntKind.u64.wrap e_14))) rfl rfl rfl ta_nil) (H.c52 _ _ E_r_15) H.g52 rfl rfl rfl rfl ?_
      refine g_v2 (t1 := 27) (t2 := 30) (u1 := (.int .i64 width_10)) (u2 := (.int .i64 r_15)) (.int .i64 (if r_15 > width_10 then r_15 else width_10)) rfl rfl rfl rfl ?_
      refine g_v1 (t := 31) (u := (.int .i64 (if r_15 > width_10 then r_15 else width_10))) (.int .i64 (if r_15 > width_10 then r_15 else width_10)) rfl rfl rfl ?_
      refine g_end ?_
      refine e_end ?_
      refine renew [(4, (.int .i64 0)), (5, (.bool false)), (6, (.int .i64 (if r_15 > width_10 then r_15 else width_10))), (21, (Enc.enc (r_7 : List Int))), (22, (.int .i64 (r_7.length : Int))), (23, (.int .i64 t23_11))] ⟨h4, h5, rfl, h21, h22, h23⟩ ?_
      rintro s ⟨h4, h5, h6, h21, h22, h23⟩
      refine .nbk ?_
      refine .nsq ?_
      refine run_reg ?_
      refine e_end ?_
      refine g_v1 (t := 23) (u := (.int .i64 t23_11)) (.int .i64 (w64 (t23_11 + 1))) h23 rfl rfl ?_
      refine g_v1 (t := 32) (u := (.int .i64 (w64 (t23_11 + 1)))) (.int .i64 (w64 (t23_11 + 1))) rfl rfl rfl ?_
      refine g_end ?_
      refine e_end ?_
      refine renew [(4, (.int .i64 0)), (5, (.bool false)), (6, (.int .i64 (if r_15 > width_10 then r_15 else width_10))), (21, (Enc.enc (r_7 : List Int))), (22, (.int .i64 (r_7.length : Int))), (23, (.int .i64 (w64 (t23_11 + 1))))] ⟨h4, h5, h6, h21, h22, rfl⟩ ?_
      rintro s ⟨h4, h5, h6, h21, h22, h23⟩
      refine .nlp ?_
      exact ih (if r_15 > width_10 then r_15 else width_10) (w64 (t23_11 + 1)) _ ⟨h4, h5, h6, h21, h22, h23⟩ h
    · refine .exit ?_
      refine .esq ?_
      refine .elp ?_
      refine .ebk ?_
      refine .nsq ?_
      refine .seq ?_
      refine run_reg ?_
      refine e_end ?_
      refine g_v1 (t := 6) (u := (.int .i64 width_10)) (.int .i64 width_10) h6 rfl rfl ?_
      refine g_v1 (t := 33) (u := (.int .i64 width_10)) (.int .i64 width_10) rfl rfl rfl ?_
      refine g_v0 (.bool true) rfl rfl ?_
      refine g_end ?_
      refine e_end ?_
      refine renew [(4, (.int .i64 width_10)), (5, (.bool true))] ⟨rfl, rfl⟩ ?_
      rintro s ⟨h4, h5⟩
      refine .nsq ?_
      refine .ret ?_
      have hr := Option.some.inj h
      subst hr
      exact rrB (res_tmp h4) (res_tmp h5) rfl
def i_EliminationWidth_j1 (F : Nat) (order_2 : (List Int)) (g_1 : (Int × (List (Int × Int))))  (t17_5 : Bool) : Option (Int × Bool) :=
  bif t17_5 then
    some (0, false)
  else
    (i_netOf F g_1).bind fun r_6 =>
    (i_net_neighborsBehind F r_6 order_2).bind fun r_7 =>
    i_EliminationWidth_l1 F r_7 F (-1) 0
theorem t_f43_j1 (H : H43 D σ F) (order_2 : (List Int)) (g_1 : (Int × (List (Int × Int))))  (t17_5 : Bool) (s : Nat → V) (hs : Facts [(1, (Enc.enc (order_2 : List Int))), (2, (.ref (.bx 2) 0 [] (.agg [(.int .i64 g_1.1), (Enc.enc (g_1.2 : List (Int × Int)))]))), (4, (.int .i64 0)), (5, (.bool false)), (17, (.bool t17_5))] s) (h : i_EliminationWidth_j1 F order_2 g_1  t17_5 = some r) : Run D σ (R43 r) (.nrm [.sq A43_7, .sq A43_8]) s := by
  unfold i_EliminationWidth_j1 at h
  obtain ⟨h1, h2, h4, h5, h17⟩ := hs
  refine .nsq ?_
  refine run_cond (t := t17_5) h17 h (fun h => ?_) (fun h => ?_)
  · refine .seq ?_
    refine run_reg ?_
    refine e_end ?_
    refine g_v0 (.int .i64 0) rfl rfl ?_
    refine g_v0 (.bool false) rfl rfl ?_
    refine g_end ?_
    refine e_end ?_
    refine renew [(1, (Enc.enc (order_2 : List Int))), (2, (.ref (.bx 2) 0 [] (.agg [(.int .i64 g_1.1), (Enc.enc (g_1.2 : List (Int × Int)))]))), (4, (.int .i64 0)), (5, (.bool false))] ⟨h1, h2, rfl, rfl⟩ ?_
    rintro s ⟨h1, h2, h4, h5⟩
    refine .nsq ?_
    refine .ret ?_
    have hr := Option.some.inj h
    subst hr
    exact rrB (res_tmp h4) (res_tmp h5) rfl
  · refine .skip ?_
    refine .nsq ?_
    refine .seq ?_
    refine run_reg ?_
    refine e_end ?_
    refine g_v0 (.int .i64 (-1)) rfl rfl ?_
    refine g_end ?_
    refine e_end ?_
    refine renew [(1, (Enc.enc (order_2 : List Int))), (2, (.ref (.bx 2) 0 [] (.agg [(.int .i64 g_1.1), (Enc.enc (g_1.2 : List (Int × Int)))]))), (4, (.int .i64 0)), (5, (.bool false)), (6, (.int .i64 (-1)))] ⟨h1, h2, h4, h5, rfl⟩ ?_
    rintro s ⟨h1, h2, h4, h5, h6⟩
    refine .nsq ?_
    refine .seq ?_
    refine .seq ?_
    refine run_reg ?_
    refine e_end ?_
    refine g_v1 (t := 2) (u := (.ref (.bx 2) 0 [] (.agg [(.int .i64 g_1.1), (Enc.enc (g_1.2 : List (Int × Int)))]))) (.agg [(.int .i64 g_1.1), (Enc.enc (g_1.2 : List (Int × Int)))]) h2 rfl rfl ?_
    obtain ⟨r_6, E_r_6, h⟩ := bind_some h
    refine g_call (m := 0) (al := false) (r := (Enc.enc (r_6 : (S1 (List Int))))) [Enc.enc (g_1 : (Int × (List (Int × Int))))] (ta_cons (v := (.agg [(.int .i64 g_1.1), (Enc.enc (g_1.2 : List (Int × Int)))])) rfl rfl (Enc.erase_enc (g_1 : (Int × (List (Int × Int))))) ta_nil) (H.c55 _ _ E_r_6) H.g55 rfl rfl rfl rfl ?_
    refine g_v1 (t := 1) (u := (Enc.enc (order_2 : List Int))) (Enc.enc (order_2 : List Int)) h1 rfl rfl ?_
    obtain ⟨r_7, E_r_7, h⟩ := bind_some h
    refine g_call (m := 0) (al := false) (r := (Enc.enc (r_7 : (List Int)))) [Enc.enc (r_6 : (S1 (List Int))), Enc.enc (order_2 : (List Int))] (ta_cons (v := (.agg [(Enc.enc (r_6.a : List Int))])) rfl rfl (Enc.erase_enc (r_6 : (S1 (List Int)))) (ta_cons (v := (Enc.enc (order_2 : List Int))) rfl rfl (Enc.erase_enc (order_2 : (List Int))) ta_nil)) (H.c96 _ _ _ E_r_7) H.g96 rfl rfl rfl rfl ?_
    refine g_v (.int .i64 (r_7.length : Int)) (ev_len (xs := r_7) rfl) ?_
    refine g_v0 (.int .i64 0) rfl rfl ?_
    refine g_end ?_
    refine e_end ?_
    refine renew [(4, (.int .i64 0)), (5, (.bool false)), (6, (.int .i64 (-1))), (21, (Enc.enc (r_7 : List Int))), (22, (.int .i64 (r_7.length : Int))), (23, (.int .i64 0))] ⟨h4, h5, h6, rfl, rfl, rfl⟩ ?_
    rintro s ⟨h4, h5, h6, h21, h22, h23⟩
    refine .nsq ?_
    refine .block ?_
    refine .loop ?_
    exact t_f43_l1 H r_7 F (-1) 0 _ ⟨h4, h5, h6, h21, h22, h23⟩ h
def i_EliminationWidth (F : Nat) (g_1 : (Int × (List (Int × Int)))) (order_2 : (List Int)) : Option (Int × Bool) :=
  (i_IsGraph F g_1).bind fun r_16 =>
  bif (!r_16) then
    i_EliminationWidth_j1 F order_2 g_1 true
  else
    (i_isOrder F g_1 order_2).bind fun r_17 =>
    i_EliminationWidth_j1 F order_2 g_1 (!r_17)
theorem t43 (H : H43 D σ F) (g_1 : (Int × (List (Int × Int)))) (order_2 : (List Int)) (s : Nat → V) (hs : Facts [(0, (.agg [(.int .i64 g_1.1), (Enc.enc (g_1.2 : List (Int × Int)))])), (1, (Enc.enc (order_2 : List Int)))] s) (h : i_EliminationWidth F g_1 order_2 = some r) : Run D σ (R43 r) (.run A43 []) s := by
  unfold i_EliminationWidth at h
  obtain ⟨h0, h1⟩ := hs
  refine .seq ?_
  refine run_reg ?_
  refine e_clr ?_
  refine e_end ?_
  refine g_box (.agg [(.int .i64 g_1.1), (Enc.enc (g_1.2 : List (Int × Int)))]) (rd_of (keep_clear (s := s) (pk := [2]) h0 rfl (map_agg (maps_cons rfl (maps_cons (Enc.map_enc _ (g_1.2 : List (Int × Int))) maps_nil)))) rfl) (gone_clear (s := s) (pk := [2]) (t := 2) rfl) rfl ?_
  refine g_v0 (.int .i64 0) rfl rfl ?_
  refine g_v0 (.bool false) rfl rfl ?_
  refine g_end ?_
  refine e_end ?_
  refine renew [(1, (Enc.enc (order_2 : List Int))), (2, (.ref (.bx 2) 0 [] (.agg [(.int .i64 g_1.1), (Enc.enc (g_1.2 : List (Int × Int)))]))), (4, (.int .i64 0)), (5, (.bool false))] ⟨(keep_clear (s := s) (pk := [2]) h1 rfl (Enc.map_enc _ (order_2 : List Int))), rfl, rfl, rfl⟩ ?_
  rintro s ⟨h1, h2, h4, h5⟩
  refine .nsq ?_
  refine .seq ?_
  refine .seq ?_
  refine run_reg ?_
  refine e_end ?_
  refine g_v1 (t := 2) (u := (.ref (.bx 2) 0 [] (.agg [(.int .i64 g_1.1), (Enc.enc (g_1.2 : List (Int × Int)))]))) (.agg [(.int .i64 g_1.1), (Enc.enc (g_1.2 : List (Int × Int)))]) h2 rfl rfl ?_
  obtain ⟨r_16, E_r_16, h⟩ := bind_some h
  refine g_call (m := 0) (al := false) (r := (Enc.enc (r_16 : Bool))) [Enc.enc (g_1 : (Int × (List (Int × Int))))] (ta_cons (v := (.agg [(.int .i64 g_1.1), (Enc.enc (g_1.2 : List (Int × Int)))])) rfl rfl (Enc.erase_enc (g_1 : (Int × (List (Int × Int))))) ta_nil) (H.c50 _ _ E_r_16) H.g50 rfl rfl rfl rfl ?_
  refine g_v1 (t := 10) (u := (.bool r_16)) (.bool (!r_16)) rfl rfl rfl ?_
  refine g_v1 (t := 11) (u := (.bool (!r_16))) (.bool (!r_16)) rfl rfl rfl ?_
  refine split_on (c := (!r_16)) h (fun hg4 h => ?_) (fun hg4 h => ?_)
  · refine g_no (Eq.trans (b := .bool (!r_16)) rfl (congrArg V.bool hg4)) ?_
    refine g_no (Eq.trans (b := .bool (!r_16)) rfl (congrArg V.bool hg4)) ?_
    refine g_no (Eq.trans (b := .bool (!r_16)) rfl (congrArg V.bool hg4)) ?_
    refine g_no (Eq.trans (b := .bool (!r_16)) rfl (congrArg V.bool hg4)) ?_
    refine g_v2 (t1 := 12) (t2 := 16) (u1 := (.bool true)) (u2 := (.tup [])) (.bool true) (Eq.trans (b := .bool (!r_16)) rfl (congrArg V.bool hg4)) rfl rfl rfl ?_
    refine g_end ?_
    refine e_end ?_
    refine renew [(1, (Enc.enc (order_2 : List Int))), (2, (.ref (.bx 2) 0 [] (.agg [(.int .i64 g_1.1), (Enc.enc (g_1.2 : List (Int × Int)))]))), (4, (.int .i64 0)), (5, (.bool false)), (17, (.bool true))] ⟨h1, h2, h4, h5, rfl⟩ ?_
    rintro s ⟨h1, h2, h4, h5, h17⟩
    exact t_f43_j1 H order_2 g_1 true _ ⟨h1, h2, h4, h5, h17⟩ h
  · refine g_yes (Eq.trans (b := .bool (!r_16)) rfl (congrArg V.bool hg4)) (g_v1 (t := 2) (u := (.ref (.bx 2) 0 [] (.agg [(.int .i64 g_1.1), (Enc.enc (g_1.2 : List (Int × Int)))]))) (.agg [(.int .i64 g_1.1), (Enc.enc (g_1.2 : List (Int × Int)))]) h2 rfl rfl ?_)
    refine g_yes (Eq.trans (b := .bool (!r_16)) rfl (congrArg V.bool hg4)) (g_v1 (t := 1) (u := (Enc.enc (order_2 : List Int))) (Enc.enc (order_2 : List Int)) h1 rfl rfl ?_)
    obtain ⟨r_17, E_r_17, h⟩ := bind_some h
    refine g_yes (Eq.trans (b := .bool (!r_16)) rfl (congrArg V.bool hg4)) (g_call (m := 0) (al := false) (r := (Enc.enc (r_17 : Bool))) [Enc.enc (g_1 : (Int × (List (Int × Int)))), Enc.enc (order_2 : (List Int))] (ta_cons (v := (.agg [(.int .i64 g_1.1), (Enc.enc (g_1.2 : List (Int × Int)))])) rfl rfl (Enc.erase_enc (g_1 : (Int × (List (Int × Int))))) (ta_cons (v := (Enc.enc (order_2 : List Int))) rfl rfl (Enc.erase_enc (order_2 : (List Int))) ta_nil)) (H.c60 _ _ _ E_r_17) H.g60 rfl rfl rfl rfl ?_)
    refine g_yes (Eq.trans (b := .bool (!r_16)) rfl (congrArg V.bool hg4)) (g_v1 (t := 15) (u := (.bool r_17)) (.bool (!r_17)) rfl rfl rfl ?_)
    refine g_v2 (t1 := 12) (t2 := 16) (u1 := (.bool false)) (u2 := (.bool (!r_17))) (.bool (!r_17)) (Eq.trans (b := .bool (!r_16)) rfl (congrArg V.bool hg4)) rfl rfl rfl ?_
    refine g_end ?_
    refine e_end ?_
    refine renew [(1, (Enc.enc (order_2 : List Int))), (2, (.ref (.bx 2) 0 [] (.agg [(.int .i64 g_1.1), (Enc.enc (g_1.2 : List (Int × Int)))]))), (4, (.int .i64 0)), (5, (.bool false)), (17, (.bool (!r_17)))] ⟨h1, h2, h4, h5, rfl⟩ ?_
    rintro s ⟨h1, h2, h4, h5, h17⟩
    exact t_f43_j1 H order_2 g_1 (!r_17) _ ⟨h1, h2, h4, h5, h17⟩ h
end
def e43 (F : Nat) : Ent := ⟨43, da (fun (x : ((Int × (List (Int × Int))) × (List Int) × Unit)) => i_EliminationWidth F x.1 x.2.1) (fun (r : (Int × Bool)) => (.tup [Enc.enc (r.1 : Int), Enc.enc (r.2 : Bool)])), 0, false, selF []⟩
theorem p43 {F : Nat} {x0 : (Int × (List (Int × Int)))} {x1 : (List Int)} {r : (Int × Bool)} (h : i_EliminationWidth F x0 x1 = some r) : (e43 F).den [Enc.enc x0, Enc.enc x1] = some (.tup [Enc.enc (r.1 : Int), Enc.enc (r.2 : Bool)]) := da_put (f := fun (x : ((Int × (List (Int × Int))) × (List Int) × Unit)) => i_EliminationWidth F x.1 x.2.1) (t := fun (r : (Int × Bool)) => (.tup [Enc.enc (r.1 : Int), Enc.enc (r.2 : Bool)])) (x0, x1, ()) h
theorem o43 {D : Den} {σ : Sig} {F : Nat} (hF : Fits2 Try.prog D σ) (H : H43 D σ F) : (e43 F).Ok Try.prog := by
  refine ok_of (f := 43) (show unk 43 = 43 from rfl) (fun args r h => ?_) ⟨Try.f43, Try.func43, rfl, rfl⟩
  obtain ⟨⟨x0, x1, _⟩, y, rfl, hy, rfl⟩ := da_open h
  exact contract_run hF (by kernel_rfl) Try.func43 rfl c43 (show 2 ≤ Try.f43.ntmps by decide) (t43 H x0 x1 _ ⟨rfl, rfl⟩ hy)
/- loop.example/g01109/laws.eqIntA2 -/
def A104_2 : AC := (AC.cond (O.t 7) AC.skip (AC.exit 0))
def A104_4 : AC := (AC.cond (O.t 16) (AC.seq (AC.reg [] [(I.mk (some 4) none false (X.v (A.mov (O.k (V.bool false)))))] []) AC.ret) AC.skip)
def A104_5 : AC := (AC.reg [] [(I.mk (some 8) none false (X.v (A.mov (O.t 5)))), (I.mk (some 9) none false (X.v (A.bin BinOp.add (O.t 8) (O.k (V.int IntKind.i64 (Int.ofNat 1)))))), (I.mk (some 5) none false (X.v (A.mov (O.t 9))))] [])
def A104_3 : AC := (AC.seq (AC.block 1 (AC.seq (AC.reg [] [(I.mk (some 10) none false (X.v (A.mov (O.t 5)))), (I.mk (some 11) none false (X.v (A.idxA (O.t 2) (O.t 10) 2 1))), (I.mk (some 12) none false (X.v (A.load Sh.s (O.t 11)))), (I.mk (some 13) none false (X.v (A.mov (O.t 5)))), (I.mk (some 14) none false (X.v (A.idxA (O.t 3) (O.t 13) 2 1))), (I.mk (some 15) none false (X.v (A.load Sh.s (O.t 14)))), (I.mk (some 16) none false (X.v (A.bin BinOp.neq (O.t 12) (O.t 15))))] []) A104_4)) A104_5)
def A104_1 : AC := (AC.seq (AC.seq (AC.reg [] [(I.mk (some 6) none false (X.v (A.mov (O.t 5)))), (I.mk (some 7) none false (X.v (A.bin BinOp.lss (O.t 6) (O.k (V.int IntKind.i64 (Int.ofNat 2))))))] []) A104_2) A104_3)
def A104_6 : AC := (AC.seq (AC.reg [] [(I.mk (some 4) none false (X.v (A.mov (O.k (V.bool true)))))] []) AC.ret)
def A104_8 : AC := (AC.block 0 (AC.loop A104_1))
def A104_7 : AC := (AC.seq (AC.seq (AC.reg [] [(I.mk (some 5) none false (X.v (A.mov (O.k (V.int IntKind.i64 (Int.ofNat 0))))))] []) A104_8) A104_6)
def A104 : AC := (AC.seq (AC.reg [.clr [2, 3]] [(I.mk (some 2) none false (X.box (O.t 0))), (I.mk (some 3) none false (X.box (O.t 1))), (I.mk (some 4) none false (X.v (A.mov (O.k (V.bool false)))))] []) A104_7)
def an104 : List An := [{ id := 0, pre := [.clr [2, 3]], ep := [], lin := [], sp := [] }]
theorem c104 : cC Try.prog Try.f104.ntmps an104 (Try.f104.body.getD .skip) = some A104 := by kernel_rfl
structure H104 (D : Den) (σ : Sig) (F : Nat) : Prop where
  mk ::
abbrev R104 (r : Bool) : (Nat → V) → Prop := RR Try.prog [.tmp 4] 0 false (Enc.enc (r : Bool))
section
variable {D : Den} {σ : Sig} {F : Nat} {r : Bool}
def w_eqIntA2_l1 (F : Nat) (a_1 : (Int × Int)) (b_2 : (Int × Int))  : Nat → Int → Option Bool
  | 0, _ => none
  | k + 1, i_3 =>
    bif decide (i_3 < 2) then
      (idx [a_1.1, a_1.2] i_3).bind fun e_6 =>
      (idx [b_2.1, b_2.2] i_3).bind fun e_7 =>
      bif (e_6 != e_7) then
        some false
      else
        (w_eqIntA2_l1 F a_1 b_2 k) (w64 (i_3 + 1))
    else
      some true
theorem t_f104_l1 (H : H104 D σ F) (a_1 : (Int × Int)) (b_2 : (Int × Int))  : ∀ (k : Nat) (i_3 : Int) (s : Nat → V), Facts [(2, (.ref (.bx 2) 0 [] (.agg [(.int .i64 a_1.1), (.int .i64 a_1.2)]))), (3, (.ref (.bx 3) 0 [] (.agg [(.int .i64 b_2.1), (.int .i64 b_2.2)]))), (4, (.bool false)), (5, (.int .i64 i_3))] s → w_eqIntA2_l1 F a_1 b_2 k i_3 = some r → Run D σ (R104 r) (.run A104_1 [.lp A104_1, .bk 0, .sq A104_6]) s := by
  intro k
  induction k with
  | zero => intro i_3 s _ h; exact nomatch (h : (none : Option _) = some r)
  | succ k ih =>
    intro i_3 s hs h
    rw [w_eqIntA2_l1] at h
    obtain ⟨h2, h3, h4, h5⟩ := hs
    refine .seq ?_
    refine .seq ?_
    refine run_reg ?_
    refine e_end ?_
    refine g_v1 (t := 5) (u := (.int .i64 i_3)) (.int .i64 i_3) h5 rfl rfl ?_
    refine g_v1 (t := 6) (u := (.int .i64 i_3)) (.bool (decide (i_3 < 2))) rfl rfl rfl ?_
    refine g_end ?_
    refine e_end ?_
    refine renew [(2, (.ref (.bx 2) 0 [] (.agg [(.int .i64 a_1.1), (.int .i64 a_1.2)]))), (3, (.ref (.bx 3) 0 [] (.agg [(.int .i64 b_2.1), (.int .i64 b_2.2)]))), (4, (.bool false)), (5, (.int .i64 i_3)), (7, (.bool (decide (i_3 < 2))))] ⟨h2, h3, h4, h5, rfl⟩ ?_
    rintro s ⟨h2, h3, h4, h5, h7⟩
    refine .nsq ?_
    refine run_cond (t := decide (i_3 < 2)) h7 h (fun h => ?_) (fun h => ?_)
    · refine .skip ?_
      refine .nsq ?_
      refine .seq ?_
      refine .block ?_
      refine .seq ?_
      refine run_reg ?_
      refine e_end ?_
      refine g_v1 (t := 5) (u := (.int .i64 i_3)) (.int .i64 i_3) h5 rfl rfl ?_
      obtain ⟨e_6, E_e_6, h⟩ := bind_some h
      refine g_v (.ref (.bx 2) 0 [i_3.toNat] (.int .i64 e_6)) (ev_idxA (xs := [a_1.1, a_1.2]) (a := e_6) (n := i_3) (q := []) h2 rfl E_e_6 rfl rfl rfl) ?_
      refine g_v1 (t := 11) (u := (.ref (.bx 2) 0 [i_3.toNat] (.int .i64 e_6))) (.int .i64 e_6) rfl rfl rfl ?_
      refine g_v1 (t := 5) (u := (.int .i64 i_3)) (.int .i64 i_3) h5 rfl rfl ?_
      obtain ⟨e_7, E_e_7, h⟩ := bind_some h
      refine g_v (.ref (.bx 3) 0 [i_3.toNat] (.int .i64 e_7)) (ev_idxA (xs := [b_2.1, b_2.2]) (a := e_7) (n := i_3) (q := []) h3 rfl E_e_7 rfl rfl rfl) ?_
      refine g_v1 (t := 14) (u := (.ref (.bx 3) 0 [i_3.toNat] (.int .i64 e_7))) (.int .i64 e_7) rfl rfl rfl ?_
      refine g_v2 (t1 := 12) (t2 := 15) (u1 := (.int .i64 e_6)) (u2 := (.int .i64 e_7)) (.bool (e_6 != e_7)) rfl rfl rfl rfl ?_
      refine g_end ?_
      refine e_end ?_
      refine renew [(2, (.ref (.bx 2) 0 [] (.agg [(.int .i64 a_1.1), (.int .i64 a_1.2)]))), (3, (.ref (.bx 3) 0 [] (.agg [(.int .i64 b_2.1), (.int .i64 b_2.2)]))), (4, (.bool false)), (5, (.int .i64 i_3)), (16, (.bool (e_6 != e_7)))] ⟨h2, h3, h4, h5, rfl⟩ ?_
      rintro s ⟨h2, h3, h4, h5, h16⟩
      refine .nsq ?_
      refine run_cond (t := (e_6 != e_7)) h16 h (fun h => ?_) (fun h => ?_)
      · refine .seq ?_
        refine run_reg ?_
        refine e_end ?_
        refine g_v0 (.bool false) rfl rfl ?_
        refine g_end ?_
        refine e_end ?_
        refine renew [(2, (.ref (.bx 2) 0 [] (.agg [(.int .i64 a_1.1), (.int .i64 a_1.2)]))), (3, (.ref (.bx 3) 0 [] (.agg [(.int .i64 b_2.1), (.int .i64 b_2.2)]))), (4, (.bool false)), (5, (.int .i64 i_3))] ⟨h2, h3, rfl, h5⟩ ?_
        rintro s ⟨h2, h3, h4, h5⟩
        refine .nsq ?_
        refine .ret ?_
        have hr := Option.some.inj h
        subst hr
        exact rrA (res_tmp h4) rfl
      · refine .skip ?_
        refine .nbk ?_
        refine .nsq ?_
        refine run_reg ?_
        refine e_end ?_
        refine g_v1 (t := 5) (u := (.int .i64 i_3)) (.int .i64 i_3) h5 rfl rfl ?_
        refine g_v1 (t := 8) (u := (.int .i64 i_3)) (.int .i64 (w64 (i_3 + 1))) rfl rfl rfl ?_
        refine g_v1 (t := 9) (u := (.int .i64 (w64 (i_3 + 1)))) (.int .i64 (w64 (i_3 + 1))) rfl rfl rfl ?_
        refine g_end ?_
        refine e_end ?_
        refine renew [(2, (.ref (.bx 2) 0 [] (.agg [(.int .i64 a_1.1), (.int .i64 a_1.2)]))), (3, (.ref (.bx 3) 0 [] (.agg [(.int .i64 b_2.1), (.int .i64 b_2.2)]))), (4, (.bool false)), (5, (.int .i64 (w64 (i_3 + 1))))] ⟨h2, h3, h4, rfl⟩ ?_
        rintro s ⟨h2, h3, h4, h5⟩
        refine .nlp ?_
        exact ih (w64 (i_3 + 1)) _ ⟨h2, h3, h4, h5⟩ h
    · refine .exit ?_
      refine .esq ?_
      refine .elp ?_
      refine .ebk ?_
      refine .nsq ?_
      refine .seq ?_
      refine run_reg ?_
      refine e_end ?_
      refine g_v0 (.bool true) rfl rfl ?_
      refine g_end ?_
      refine e_end ?_
      refine renew [(4, (.bool true))] rfl ?_
      rintro s h4
      refine .nsq ?_
      refine .ret ?_
      have hr := Option.some.inj h
      subst hr
      exact rrA (res_tmp h4) rfl
def w_eqIntA2 (F : Nat) (a_1 : (Int × Int)) (b_2 : (Int × Int)) : Option Bool :=
  w_eqIntA2_l1 F a_1 b_2 F 0
theorem t104 (H : H104 D σ F) (a_1 : (Int × Int)) (b_2 : (Int × Int)) (s : Nat → V) (hs : Facts [(0, (.agg [(.int .i64 a_1.1), (.int .i64 a_1.2)])), (1, (.agg [(.int .i64 b_2.1), (.int .i64 b_2.2)]))] s) (h : w_eqIntA2 F a_1 b_2 = some r) : Run D σ (R104 r) (.run A104 []) s := by
  unfold w_eqIntA2 at h
  obtain ⟨h0, h1⟩ := hs
  refine .seq ?_
  refine run_reg ?_
  refine e_clr ?_
  refine e_end ?_
  refine g_box (.agg [(.int .i64 a_1.1), (.int .i64 a_1.2)]) (rd_of (keep_clear (s := s) (pk := [2, 3]) h0 rfl (map_agg (maps_cons rfl (maps_cons rfl maps_nil)))) rfl) (gone_clear (s := s) (pk := [2, 3]) (t := 2) rfl) rfl ?_
  refine g_box (.agg [(.int .i64 b_2.1), (.int .i64 b_2.2)]) (rd_of (keep_clear (s := s) (pk := [2, 3]) h1 rfl (map_agg (maps_cons rfl (maps_cons rfl maps_nil)))) rfl) (gone_clear (s := s) (pk := [2, 3]) (t := 3) rfl) rfl ?_
  refine g_v0 (.bool false) rfl rfl ?_
  refine g_end ?_
  refine e_end ?_
  refine renew [(2, (.ref (.bx 2) 0 [] (.agg [(.int .i64 a_1.1), (.int .i64 a_1.2)]))), (3, (.ref (.bx 3) 0 [] (.agg [(.int .i64 b_2.1), (.int .i64 b_2.2)]))), (4, (.bool false))] ⟨rfl, rfl, rfl⟩ ?_
  rintro s ⟨h2, h3, h4⟩
  refine .nsq ?_
  refine .seq ?_
  refine .seq ?_
  refine run_reg ?_
  refine e_end ?_
  refine g_v0 (.int .i64 0) rfl rfl ?_
  refine g_end ?_
  refine e_end ?_
  refine renew [(2, (.ref (.bx 2) 0 [] (.agg [(.int .i64 a_1.1), (.int .i64 a_1.2)]))), (3, (.ref (.bx 3) 0 [] (.agg [(.int .i64 b_2.1), (.int .i64 b_2.2)]))), (4, (.bool false)), (5, (.int .i64 0))] ⟨h2, h3, h4, rfl⟩ ?_
  rintro s ⟨h2, h3, h4, h5⟩
  refine .nsq ?_
  refine .block ?_
  refine .loop ?_
  exact t_f104_l1 H a_1 b_2 F 0 _ ⟨h2, h3, h4, h5⟩ h
end
def e104 (F : Nat) : Ent := ⟨104, da (fun (x : ((Int × Int) × (Int × Int) × Unit)) => w_eqIntA2 F x.1 x.2.1) (fun (r : Bool) => (Enc.enc (r : Bool))), 0, false, selF []⟩
theorem p104 {F : Nat} {x0 : (Int × Int)} {x1 : (Int × Int)} {r : Bool} (h : w_eqIntA2 F x0 x1 = some r) : (e104 F).den [Enc.enc x0, Enc.enc x1] = some (Enc.enc (r : Bool)) := da_put (f := fun (x : ((Int × Int) × (Int × Int) × Unit)) => w_eqIntA2 F x.1 x.2.1) (t := fun (r : Bool) => (Enc.enc (r : Bool))) (x0, x1, ()) h
theorem o104 {D : Den} {σ : Sig} {F : Nat} (hF : Fits2 Try.prog D σ) (H : H104 D σ F) : (e104 F).Ok Try.prog := by
  refine ok_of (f := 104) (show unk 104 = 104 from rfl) (fun args r h => ?_) ⟨Try.f104, Try.func104, rfl, rfl⟩
  obtain ⟨⟨x0, x1, _⟩, y, rfl, hy, rfl⟩ := da_open h
  exact contract_run hF (by kernel_rfl) Try.func104 rfl c104 (show 2 ≤ Try.f104.ntmps by decide) (t104 H x0 x1 _ ⟨rfl, rfl⟩ hy)
/- loop.example/g01109/laws.eqIntA2S -/
def A53_2 : AC := (AC.cond (O.t 14) AC.skip (AC.exit 0))
def A53_4 : AC := (AC.cond (O.t 26) (AC.seq (AC.reg [] [(I.mk (some 4) none false (X.v (A.mov (O.k (V.bool false)))))] []) AC.ret) AC.skip)
def A53_5 : AC := (AC.reg [] [(I.mk (some 15) none false (X.v (A.mov (O.t 5)))), (I.mk (some 16) none false (X.v (A.bin BinOp.add (O.t 15) (O.k (V.int IntKind.i64 (Int.ofNat 1)))))), (I.mk (some 5) none false (X.v (A.mov (O.t 16))))] [])
def A53_3 : AC := (AC.seq (AC.block 1 (AC.seq (AC.reg [] [(I.mk (some 17) none false (X.v (A.mov (O.t 0)))), (I.mk (some 18) none false (X.v (A.mov (O.t 5)))), (I.mk (some 19) none false (X.v (A.idx (O.t 17) (O.t 18) 2))), (I.mk (some 20) none false (X.v (A.load (Sh.ag [Sh.s, Sh.s]) (O.t 19)))), (I.mk (some 21) none false (X.v (A.mov (O.t 1)))), (I.mk (some 22) none false (X.v (A.mov (O.t 5)))), (I.mk (some 23) none false (X.v (A.idx (O.t 21) (O.t 22) 2))), (I.mk (some 24) none false (X.v (A.load (Sh.ag [Sh.s, Sh.s]) (O.t 23)))), (I.mk (some 25) none false (X.call (O.k (V.fn 104 [] [])) [(O.t 20), (O.t 24)])), (I.mk (some 26) none false (X.v (A.un UnOp.not (O.t 25))))] []) A53_4)) A53_5)
def A53_1 : AC := (AC.seq (AC.seq (AC.reg [] [(I.mk (some 11) none false (X.v (A.mov (O.t 5)))), (I.mk (some 12) none false (X.v (A.mov (O.t 0)))), (I.mk (some 13) none false (X.v (A.len (O.t 12)))), (I.mk (some 14) none false (X.v (A.bin BinOp.lss (O.t 11) (O.t 13))))] []) A53_2) A53_3)
def A53_6 : AC := (AC.seq (AC.reg [] [(I.mk (some 4) none false (X.v (A.mov (O.k (V.bool true)))))] []) AC.ret)
def A53_8 : AC := (AC.cond (O.t 10) (AC.seq (AC.reg [] [(I.mk (some 4) none false (X.v (A.mov (O.k (V.bool false)))))] []) AC.ret) AC.skip)
def A53_10 : AC := (AC.block 0 (AC.loop A53_1))
def A53_9 : AC := (AC.seq (AC.seq (AC.reg [] [(I.mk (some 5) none false (X.v (A.mov (O.k (V.int IntKind.i64 (Int.ofNat 0))))))] []) A53_10) A53_6)
def A53_7 : AC := (AC.seq (AC.seq (AC.reg [] [(I.mk (some 6) none false (X.v (A.mov (O.t 0)))), (I.mk (some 7) none false (X.v (A.len (O.t 6)))), (I.mk (some 8) none false (X.v (A.mov (O.t 1)))), (I.mk (some 9) none false (X.v (A.len (O.t 8)))), (I.mk (some 10) none false (X.v (A.bin BinOp.neq (O.t 7) (O.t 9))))] []) A53_8) A53_9)
def A53 : AC := (AC.seq (AC.reg [] [(I.mk (some 4) none false (X.v (A.mov (O.k (V.bool false)))))] []) A53_7)
def an53 : List An := []
theorem c53 : cC Try.prog Try.f53.ntmps an53 (Try.f53.body.getD .skip) = some A53 := by kernel_rfl
structure H53 (D : Den) (σ : Sig) (F : Nat) : Prop where
  c104 : ∀ (x0 : (Int × Int)) (x1 : (Int × Int)) r, w_eqIntA2 F x0 x1 = some r → D 104 [Enc.enc x0, Enc.enc x1] = some (Enc.enc (r : Bool))
  g104 : σ 104 = some (0, false)
abbrev R53 (r : Bool) : (Nat → V) → Prop := RR Try.prog [.tmp 4] 0 false (Enc.enc (r : Bool))
section
variable {D : Den} {σ : Sig} {F : Nat} {r : Bool}
def w_eqIntA2S_l1 (F : Nat) (a_1 : (List (Int × Int))) (b_2 : (List (Int × Int)))  : Nat → Int → Option Bool
  | 0, _ => none
  | k + 1, i_6 =>
    bif decide (i_6 < (a_1.length : Int)) then
      (idx a_1 i_6).bind fun e_10 =>
      (idx b_2 i_6).bind fun e_11 =>
      (w_eqIntA2 F e_10 e_11).bind fun r_12 =>
      bif (!r_12) then
        some false
      else
        (w_eqIntA2S_l1 F a_1 b_2 k) (w64 (i_6 + 1))
    else
      some true
theorem t_f53_l1 (H : H53 D σ F) (a_1 : (List (Int × Int))) (b_2 : (List (Int × Int)))  : ∀ (k : Nat) (i_6 : Int) (s : Nat → V), Facts [(0, (Enc.enc (a_1 : List (Int × Int)))), (1, (Enc.enc (b_2 : List (Int × Int)))), (4, (.bool false)), (5, (.int .i64 i_6))] s → w_eqIntA2S_l1 F a_1 b_2 k i_6 = some r → Run D σ (R53 r) (.run A53_1 [.lp A53_1, .bk 0, .sq A53_6]) s := by
  intro k
  induction k with
  | zero => intro i_6 s _ h; exact nomatch (h : (none : Option _) = some r)
  | succ k ih =>
    intro i_6 s hs h
    rw [w_eqIntA2S_l1] at h
    obtain ⟨h0, h1, h4, h5⟩ := hs
    refine .seq ?_
    refine .seq ?_
    refine run_reg ?_
    refine e_end ?_
    refine g_v1 (t := 5) (u := (.int .i64 i_6)) (.int .i64 i_6) h5 rfl rfl ?_
    refine g_v1 (t := 0) (u := (Enc.enc (a_1 : List (Int × Int)))) (Enc.enc (a_1 : List (Int × Int))) h0 rfl rfl ?_
    refine g_v (.int .i64 (a_1.length : Int)) (ev_len (xs := a_1) rfl) ?_
    refine g_v2 (t1 := 11) (t2 := 13) (u1 := (.int .i64 i_6)) (u2 := (.int .i64 (a_1.length : Int))) (.bool (decide (i_6 < (a_1.length : Int)))) rfl rfl rfl rfl ?_
    refine g_end ?_
    refine e_end ?_
    refine renew [(0, (Enc.enc (a_1 : List (Int × Int)))), (1, (Enc.enc (b_2 : List (Int × Int)))), (4, (.bool false)), (5, (.int .i64 i_6)), (14, (.bool (decide (i_6 < (a_1.length : Int)))))] ⟨h0, h1, h4, h5, rfl⟩ ?_
    rintro s ⟨h0, h1, h4, h5, h14⟩
    refine .nsq ?_
    refine run_cond (t := decide (i_6 < (a_1.length : Int))) h14 h (fun h => ?_) (fun h => ?_)
    · refine .skip ?_
      refine .nsq ?_
      refine .seq ?_
      refine .block ?_
      refine .seq ?_
      refine run_reg ?_
      refine e_end ?_
      refine g_v1 (t := 0) (u := (Enc.enc (a_1 : List (Int × Int)))) (Enc.enc (a_1 : List (Int × Int))) h0 rfl rfl ?_
      refine g_v1 (t := 5) (u := (.int .i64 i_6)) (.int .i64 i_6) h5 rfl rfl ?_
      obtain ⟨e_10, E_e_10, h⟩ := bind_some h
      refine g_v (.ref .sh 0 [] (.agg [(.int .i64 e_10.1), (.int .i64 e_10.2)])) (ev_idx (t := .sh) (lo := 0) (xs := a_1) rfl rfl E_e_10 rfl rfl) ?_
      refine g_v1 (t := 19) (u := (.ref .sh 0 [] (.agg [(.int .i64 e_10.1), (.int .i64 e_10.2)]))) (.agg [(.int .i64 e_10.1), (.int .i64 e_10.2)]) rfl rfl rfl ?_
      refine g_v1 (t := 1) (u := (Enc.enc (b_2 : List (Int × Int)))) (Enc.enc (b_2 : List (Int × Int))) h1 rfl rfl ?_
      refine g_v1 (t := 5) (u := (.int .i64 i_6)) (.int .i64 i_6) h5 rfl rfl ?_
      obtain ⟨e_11, E_e_11, h⟩ := bind_some h
      refine g_v (.ref .sh 0 [] (.agg [(.int .i64 e_11.1), (.int .i64 e_11.2)])) (ev_idx (t := .sh) (lo := 0) (xs := b_2) rfl rfl E_e_11 rfl rfl) ?_
      refine g_v1 (t := 23) (u := (.ref .sh 0 [] (.agg [(.int .i64 e_11.1), (.int .i64 e_11.2)]))) (.agg [(.int .i64 e_11.1), (.int .i64 e_11.2)]) rfl rfl rfl ?_
      obtain ⟨r_12, E_r_12, h⟩ := bind_some h
      refine g_call (m := 0) (al := false) (r := (Enc.enc (r_12 : Bool))) [Enc.enc (e_10 : (Int × Int)), Enc.enc (e_11 : (Int × Int))] (ta_cons (v := (.agg [(.int .i64 e_10.1), (.int .i64 e_10.2)])) rfl rfl (Enc.erase_enc (e_10 : (Int × Int))) (ta_cons (v := (.agg [(.int .i64 e_11.1), (.int .i64 e_11.2)])) rfl rfl (Enc.erase_enc (e_11 : (Int × Int))) ta_nil)) (H.c104 _ _ _ E_r_12) H.g104 rfl rfl rfl rfl ?_
      refine g_v1 (t := 25) (u := (.bool r_12)) (.bool (!r_12)) rfl rfl rfl ?_
      refine g_end ?_
      refine e_end ?_
      refine renew [(0, (Enc.enc (a_1 : List (Int × Int)))), (1, (Enc.enc (b_2 : List (Int × Int)))), (4, (.bool false)), (5, (.int .i64 i_6)), (26, (.bool (!r_12)))] ⟨h0, h1, h4, h5, rfl⟩ ?_
      rintro s ⟨h0, h1, h4, h5, h26⟩
      refine .nsq ?_
      refine run_cond (t := (!r_12)) h26 h (fun h => ?_) (fun h => ?_)
      · refine .seq ?_
        refine run_reg ?_
        refine e_end ?_
        refine g_v0 (.bool false) rfl rfl ?_
        refine g_end ?_
        refine e_end ?_
        refine renew [(0, (Enc.enc (a_1 : List (Int × Int)))), (1, (Enc.enc (b_2 : List (Int × Int)))), (4, (.bool false)), (5, (.int .i64 i_6))] ⟨h0, h1, rfl, h5⟩ ?_
        rintro s ⟨h0, h1, h4, h5⟩
        refine .nsq ?_
        refine .ret ?_
        have hr := Option.some.inj h
        subst hr
        exact rrA (res_tmp h4) rfl
      · refine .skip ?_
        refine .nbk ?_
        refine .nsq ?_
        refine run_reg ?_
        refine e_end ?_
        refine g_v1 (t := 5) (u := (.int .i64 i_6)) (.int .i64 i_6) h5 rfl rfl ?_
        refine g_v1 (t := 15) (u := (.int .i64 i_6)) (.int .i64 (w64 (i_6 + 1))) rfl rfl rfl ?_
        refine g_v1 (t := 16) (u := (.int .i64 (w64 (i_6 + 1)))) (.int .i64 (w64 (i_6 + 1))) rfl rfl rfl ?_
        refine g_end ?_
        refine e_end ?_
        refine renew [(0, (Enc.enc (a_1 : List (Int × Int)))), (1, (Enc.enc (b_2 : List (Int × Int)))), (4, (.bool false)), (5, (.int .i64 (w64 (i_6 + 1))))] ⟨h0, h1, h4, rfl⟩ ?_
        rintro s ⟨h0, h1, h4, h5⟩
        refine .nlp ?_
        exact ih (w64 (i_6 + 1)) _ ⟨h0, h1, h4, h5⟩ h
    · refine .exit ?_
      refine .esq ?_
      refine .elp ?_
      refine .ebk ?_
      refine .nsq ?_
      refine .seq ?_
      refine run_reg ?_
      refine e_end ?_
      refine g_v0 (.bool true) rfl rfl ?_
      refine g_end ?_
      refine e_end ?_
      refine renew [(4, (.bool true))] rfl ?_
      rintro s h4
      refine .nsq ?_
      refine .ret ?_
      have hr := Option.some.inj h
      subst hr
      exact rrA (res_tmp h4) rfl
def w_eqIntA2S (F : Nat) (a_1 : (List (Int × Int))) (b_2 : (List (Int × Int))) : Option Bool :=
  bif ((a_1.length : Int) != (b_2.length : Int)) then
    some false
  else
    w_eqIntA2S_l1 F a_1 b_2 F 0
theorem t53 (H : H53 D σ F) (a_1 : (List (Int × Int))) (b_2 : (List (Int × Int))) (s : Nat → V) (hs : Facts [(0, (Enc.enc (a_1 : List (Int × Int)))), (1, (Enc.enc (b_2 : List (Int × Int))))] s) (h : w_eqIntA2S F a_1 b_2 = some r) : Run D σ (R53 r) (.run A53 []) s := by
  unfold w_eqIntA2S at h
  obtain ⟨h0, h1⟩ := hs
  refine .seq ?_
  refine run_reg ?_
  refine e_end ?_
  refine g_v0 (.bool false) rfl rfl ?_
  refine g_end ?_
  refine e_end ?_
  refine renew [(0, (Enc.enc (a_1 : List (Int × Int)))), (1, (Enc.enc (b_2 : List (Int × Int)))), (4, (.bool false))] ⟨h0, h1, rfl⟩ ?_
  rintro s ⟨h0, h1, h4⟩
  refine .nsq ?_
  refine .seq ?_
  refine .seq ?_
  refine run_reg ?_
  refine e_end ?_
  refine g_v1 (t := 0) (u := (Enc.enc (a_1 : List (Int × Int)))) (Enc.enc (a_1 : List (Int × Int))) h0 rfl rfl ?_
  refine g_v (.int .i64 (a_1.length : Int)) (ev_len (xs := a_1) rfl) ?_
  refine g_v1 (t := 1) (u := (Enc.enc (b_2 : List (Int × Int)))) (Enc.enc (b_2 : List (Int × Int))) h1 rfl rfl ?_
  refine g_v (.int .i64 (b_2.length : Int)) (ev_len (xs := b_2) rfl) ?_
  refine g_v2 (t1 := 7) (t2 := 9) (u1 := (.int .i64 (a_1.length : Int))) (u2 := (.int .i64 (b_2.length : Int))) (.bool ((a_1.length : Int) != (b_2.length : Int))) rfl rfl rfl rfl ?_
  refine g_end ?_
  refine e_end ?_
  refine renew [(0, (Enc.enc (a_1 : List (Int × Int)))), (1, (Enc.enc (b_2 : List (Int × Int)))), (4, (.bool false)), (10, (.bool ((a_1.length : Int) != (b_2.length : Int))))] ⟨h0, h1, h4, rfl⟩ ?_
  rintro s ⟨h0, h1, h4, h10⟩
  refine .nsq ?_
  refine run_cond (t := ((a_1.length : Int) != (b_2.length : Int))) h10 h (fun h => ?_) (fun h => ?_)
  · refine .seq ?_
    refine run_reg ?_
    refine e_end ?_
    refine g_v0 (.bool false) rfl rfl ?_
    refine g_end ?_
    refine e_end ?_
    refine renew [(0, (Enc.enc (a_1 : List (Int × Int)))), (1, (Enc.enc (b_2 : List (Int × Int)))), (4, (.bool false))] ⟨h0, h1, rfl⟩ ?_
    rintro s ⟨h0, h1, h4⟩
    refine .nsq ?_
    refine .ret ?_
    have hr := Option.some.inj h
    subst hr
    exact rrA (res_tmp h4) rfl
  · refine .skip ?_
    refine .nsq ?_
    refine .seq ?_
    refine .seq ?_
    refine run_reg ?_
    refine e_end ?_
    refine g_v0 (.int .i64 0) rfl rfl ?_
    refine g_end ?_
    refine e_end ?_
    refine renew [(0, (Enc.enc (a_1 : List (Int × Int)))), (1, (Enc.enc (b_2 : List (Int × Int)))), (4, (.bool false)), (5, (.int .i64 0))] ⟨h0, h1, h4, rfl⟩ ?_
    rintro s ⟨h0, h1, h4, h5⟩
    refine .nsq ?_
    refine .block ?_
    refine .loop ?_
    exact t_f53_l1 H a_1 b_2 F 0 _ ⟨h0, h1, h4, h5⟩ h
end
def e53 (F : Nat) : Ent := ⟨53, da (fun (x : ((List (Int × Int)) × (List (Int × Int)) × Unit)) => w_eqIntA2S F x.1 x.2.1) (fun (r : Bool) => (Enc.enc (r : Bool))), 0, false, selF []⟩
theorem p53 {F : Nat} {x0 : (List (Int × Int))} {x1 : (List (Int × Int))} {r : Bool} (h : w_eqIntA2S F x0 x1 = some r) : (e53 F).den [Enc.enc x0, Enc.enc x1] = some (Enc.enc (r : Bool)) := da_put (f := fun (x : ((List (Int × Int)) × (List (Int × Int)) × Unit)) => w_eqIntA2S F x.1 x.2.1) (t := fun (r : Bool) => (Enc.enc (r : Bool))) (x0, x1, ()) h
theorem o53 {D : Den} {σ : Sig} {F : Nat} (hF : Fits2 Try.prog D σ) (H : H53 D σ F) : (e53 F).Ok Try.prog := by
  refine ok_of (f := 53) (show unk 53 = 53 from rfl) (fun args r h => ?_) ⟨Try.f53, Try.func53, rfl, rfl⟩
  obtain ⟨⟨x0, x1, _⟩, y, rfl, hy, rfl⟩ := da_open h
  exact contract_run hF (by kernel_rfl) Try.func53 rfl c53 (show 2 ≤ Try.f53.ntmps by decide) (t53 H x0 x1 _ ⟨rfl, rfl⟩ hy)
/- loop.example/g01109/laws.eqGraph -/
def A20_2 : AC := (AC.cond (O.t 9) (AC.seq (AC.reg [] [(I.mk (some 4) none false (X.v (A.mov (O.k (V.bool false)))))] []) AC.ret) AC.skip)
def A20_4 : AC := (AC.cond (O.t 15) (AC.seq (AC.reg [] [(I.mk (some 4) none false (X.v (A.mov (O.k (V.bool false)))))] []) AC.ret) AC.skip)
def A20_5 : AC := (AC.seq (AC.reg [] [(I.mk (some 4) none false (X.v (A.mov (O.k (V.bool true)))))] []) AC.ret)
def A20_3 : AC := (AC.seq (AC.seq (AC.reg [] [(I.mk (some 10) none false (X.v (A.fld (O.t 2) 1 1))), (I.mk (some 11) none false (X.v (A.load Sh.p (O.t 10)))), (I.mk (some 12) none false (X.v (A.fld (O.t 3) 1 1))), (I.mk (some 13) none false (X.v (A.load Sh.p (O.t 12)))), (I.mk (some 14) none false (X.call (O.k (V.fn 53 [] [])) [(O.t 11), (O.t 13)])), (I.mk (some 15) none false (X.v (A.un UnOp.not (O.t 14))))] []) A20_4) A20_5)
def A20_1 : AC := (AC.seq (AC.seq (AC.reg [] [(I.mk (some 5) none false (X.v (A.fld (O.t 2) 0 0))), (I.mk (some 6) none false (X.v (A.load Sh.s (O.t 5)))), (I.mk (some 7) none false (X.v (A.fld (O.t 3) 0 0))), (I.mk (some 8) none false (X.v (A.load Sh.s (O.t 7)))), (I.mk (some 9) none false (X.v (A.bin BinOp.neq (O.t 6) (O.t 8))))] []) A20_2) A20_3)
def A20 : AC := (AC.seq (AC.reg [.clr [2, 3]] [(I.mk (some 2) none false (X.box (O.t 0))), (I.mk (some 3) none false (X.box (O.t 1))), (I.mk (some 4) none false (X.v (A.mov (O.k (V.bool false)))))] []) A20_1)
def an20 : List An := [{ id := 0, pre := [.clr [2, 3]], ep := [], lin := [], sp := [] }]
theorem c20 : cC Try.prog Try.f20.ntmps an20 (Try.f20.body.getD .skip) = some A20 := by kernel_rfl
structure H20 (D : Den) (σ : Sig) (F : Nat) : Prop where
  c53 : ∀ (x0 : (List (Int × Int))) (x1 : (List (Int × Int))) r, w_eqIntA2S F x0 x1 = some r → D 53 [Enc.enc x0, Enc.enc x1] = some (Enc.enc (r : Bool))
  g53 : σ 53 = some (0, false)
abbrev R20 (r : Bool) : (Nat → V) → Prop := RR Try.prog [.tmp 4] 0 false (Enc.enc (r : Bool))
section
variable {D : Den} {σ : Sig} {F : Nat} {r : Bool}
def w_eqGraph (F : Nat) (a_1 : (Int × (List (Int × Int)))) (b_2 : (Int × (List (Int × Int)))) : Option Bool :=
  bif (a_1.1 != b_2.1) then
    some false
  else
    (w_eqIntA2S F a_1.2 b_2.2).bind fun r_3 =>
    bif (!r_3) then
      some false
    else
      some true
theorem t20 (H : H20 D σ F) (a_1 : (Int × (List (Int × Int)))) (b_2 : (Int × (List (Int × Int)))) (s : Nat → V) (hs : Facts [(0, (.agg [(.int .i64 a_1.1), (Enc.enc (a_1.2 : List (Int × Int)))])), (1, (.agg [(.int .i64 b_2.1), (Enc.enc (b_2.2 : List (Int × Int)))]))] s) (h : w_eqGraph F a_1 b_2 = some r) : Run D σ (R20 r) (.run A20 []) s := by
  unfold w_eqGraph at h
  obtain ⟨h0, h1⟩ := hs
  refine .seq ?_
  refine run_reg ?_
  refine e_clr ?_
  refine e_end ?_
  refine g_box (.agg [(.int .i64 a_1.1), (Enc.enc (a_1.2 : List (Int × Int)))]) (rd_of (keep_clear (s := s) (pk := [2, 3]) h0 rfl (map_agg (maps_cons rfl (maps_cons (Enc.map_enc _ (a_1.2 : List (Int × Int))) maps_nil)))) rfl) (gone_clear (s := s) (pk := [2, 3]) (t := 2) rfl) rfl ?_
  refine g_box (.agg [(.int .i64 b_2.1), (Enc.enc (b_2.2 : List (Int × Int)))]) (rd_of (keep_clear (s := s) (pk := [2, 3]) h1 rfl (map_agg (maps_cons rfl (maps_cons (Enc.map_enc _ (b_2.2 : List (Int × Int))) maps_nil)))) rfl) (gone_clear (s := s) (pk := [2, 3]) (t := 3) rfl) rfl ?_
  refine g_v0 (.bool false) rfl rfl ?_
  refine g_end ?_
  refine e_end ?_
  refine renew [(2, (.ref (.bx 2) 0 [] (.agg [(.int .i64 a_1.1), (Enc.enc (a_1.2 : List (Int × Int)))]))), (3, (.ref (.bx 3) 0 [] (.agg [(.int .i64 b_2.1), (Enc.enc (b_2.2 : List (Int × Int)))]))), (4, (.bool false))] ⟨rfl, rfl, rfl⟩ ?_
  rintro s ⟨h2, h3, h4⟩
  refine .nsq ?_
  refine .seq ?_
  refine .seq ?_
  refine run_reg ?_
  refine e_end ?_
  refine g_v1 (t := 2) (u := (.ref (.bx 2) 0 [] (.agg [(.int .i64 a_1.1), (Enc.enc (a_1.2 : List (Int × Int)))]))) (.ref (.bx 2) 0 [0] (.int .i64 a_1.1)) h2 rfl rfl ?_
  refine g_v1 (t := 5) (u := (.ref (.bx 2) 0 [0] (.int .i64 a_1.1))) (.int .i64 a_1.1) rfl rfl rfl ?_
  refine g_v1 (t := 3) (u := (.ref (.bx 3) 0 [] (.agg [(.int .i64 b_2.1), (Enc.enc (b_2.2 : List (Int × Int)))]))) (.ref (.bx 3) 0 [0] (.int .i64 b_2.1)) h3 rfl rfl ?_
  refine g_v1 (t := 7) (u := (.ref (.bx 3) 0 [0] (.int .i64 b_2.1))) (.int .i64 b_2.1) rfl rfl rfl ?_
  refine g_v2 (t1 := 6) (t2 := 8) (u1 := (.int .i64 a_1.1)) (u2 := (.int .i64 b_2.1)) (.bool (a_1.1 != b_2.1)) rfl rfl rfl rfl ?_
  refine g_end ?_
  refine e_end ?_
  refine renew [(2, (.ref (.bx 2) 0 [] (.agg [(.int .i64 a_1.1), (Enc.enc (a_1.2 : List (Int × Int)))]))), (3, (.ref (.bx 3) 0 [] (.agg [(.int .i64 b_2.1), (Enc.enc (b_2.2 : List (Int × Int)))]))), (4, (.bool false)), (9, (.bool (a_1.1 != b_2.1)))] ⟨h2, h3, h4, rfl⟩ ?_
  rintro s ⟨h2, h3, h4, h9⟩
  refine .nsq ?_
  refine run_cond (t := (a_1.1 != b_2.1)) h9 h (fun h => ?_) (fun h => ?_)
  · refine .seq ?_
    refine run_reg ?_
    refine e_end ?_
    refine g_v0 (.bool false) rfl rfl ?_
    refine g_end ?_
    refine e_end ?_
    refine renew [(2, (.ref (.bx 2) 0 [] (.agg [(.int .i64 a_1.1), (Enc.enc (a_1.2 : List (Int × Int)))]))), (3, (.ref (.bx 3) 0 [] (.agg [(.int .i64 b_2.1), (Enc.enc (b_2.2 : List (Int × Int)))]))), (4, (.bool false))] ⟨h2, h3, rfl⟩ ?_
    rintro s ⟨h2, h3, h4⟩
    refine .nsq ?_
    refine .ret ?_
    have hr := Option.some.inj h
    subst hr
    exact rrA (res_tmp h4) rfl
  · refine .skip ?_
    refine .nsq ?_
    refine .seq ?_
    refine .seq ?_
    refine run_reg ?_
    refine e_end ?_
    refine g_v1 (t := 2) (u := (.ref (.bx 2) 0 [] (.agg [(.int .i64 a_1.1), (Enc.enc (a_1.2 : List (Int × Int)))]))) (.ref (.bx 2) 0 [1] (Enc.enc (a_1.2 : List (Int × Int)))) h2 rfl rfl ?_
    refine g_v1 (t := 10) (u := (.ref (.bx 2) 0 [1] (Enc.enc (a_1.2 : List (Int × Int))))) (Enc.enc (a_1.2 : List (Int × Int))) rfl rfl rfl ?_
    refine g_v1 (t := 3) (u := (.ref (.bx 3) 0 [] (.agg [(.int .i64 b_2.1), (Enc.enc (b_2.2 : List (Int × Int)))]))) (.ref (.bx 3) 0 [1] (Enc.enc (b_2.2 : List (Int × Int)))) h3 rfl rfl ?_
    refine g_v1 (t := 12) (u := (.ref (.bx 3) 0 [1] (Enc.enc (b_2.2 : List (Int × Int))))) (Enc.enc (b_2.2 : List (Int × Int))) rfl rfl rfl ?_
    obtain ⟨r_3, E_r_3, h⟩ := bind_some h
    refine g_call (m := 0) (al := false) (r := (Enc.enc (r_3 : Bool))) [Enc.enc (a_1.2 : (List (Int × Int))), Enc.enc (b_2.2 : (List (Int × Int)))] (ta_cons (v := (Enc.enc (a_1.2 : List (Int × Int)))) rfl rfl (Enc.erase_enc (a_1.2 : (List (Int × Int)))) (ta_cons (v := (Enc.enc (b_2.2 : List (Int × Int)))) rfl rfl (Enc.erase_enc (b_2.2 : (List (Int × Int)))) ta_nil)) (H.c53 _ _ _ E_r_3) H.g53 rfl rfl rfl rfl ?_
    refine g_v1 (t := 14) (u := (.bool r_3)) (.bool (!r_3)) rfl rfl rfl ?_
    refine g_end ?_
    refine e_end ?_
    refine renew [(4, (.bool false)), (15, (.bool (!r_3)))] ⟨h4, rfl⟩ ?_
    rintro s ⟨h4, h15⟩
    refine .nsq ?_
    refine run_cond (t := (!r_3)) h15 h (fun h => ?_) (fun h => ?_)
    · refine .seq ?_
      refine run_reg ?_
      refine e_end ?_
      refine g_v0 (.bool false) rfl rfl ?_
      refine g_end ?_
      refine e_end ?_
      refine renew [(4, (.bool false))] rfl ?_
      rintro s h4
      refine .nsq ?_
      refine .ret ?_
      have hr := Option.some.inj h
      subst hr
      exact rrA (res_tmp h4) rfl
    · refine .skip ?_
      refine .nsq ?_
      refine .seq ?_
      refine run_reg ?_
      refine e_end ?_
      refine g_v0 (.bool true) rfl rfl ?_
      refine g_end ?_
      refine e_end ?_
      refine renew [(4, (.bool true))] rfl ?_
      rintro s h4
      refine .nsq ?_
      refine .ret ?_
      have hr := Option.some.inj h
      subst hr
      exact rrA (res_tmp h4) rfl
end
def e20 (F : Nat) : Ent := ⟨20, da (fun (x : ((Int × (List (Int × Int))) × (Int × (List (Int × Int))) × Unit)) => w_eqGraph F x.1 x.2.1) (fun (r : Bool) => (Enc.enc (r : Bool))), 0, false, selF []⟩
theorem p20 {F : Nat} {x0 : (Int × (List (Int × Int)))} {x1 : (Int × (List (Int × Int)))} {r : Bool} (h : w_eqGraph F x0 x1 = some r) : (e20 F).den [Enc.enc x0, Enc.enc x1] = some (Enc.enc (r : Bool)) := da_put (f := fun (x : ((Int × (List (Int × Int))) × (Int × (List (Int × Int))) × Unit)) => w_eqGraph F x.1 x.2.1) (t := fun (r : Bool) => (Enc.enc (r : Bool))) (x0, x1, ()) h
theorem o20 {D : Den} {σ : Sig} {F : Nat} (hF : Fits2 Try.prog D σ) (H : H20 D σ F) : (e20 F).Ok Try.prog := by
  refine ok_of (f := 20) (show unk 20 = 20 from rfl) (fun args r h => ?_) ⟨Try.f20, Try.func20, rfl, rfl⟩
  obtain ⟨⟨x0, x1, _⟩, y, rfl, hy, rfl⟩ := da_open h
  exact contract_run hF (by kernel_rfl) Try.func20 rfl c20 (show 2 ≤ Try.f20.ntmps by decide) (t20 H x0 x1 _ ⟨rfl, rfl⟩ hy)
/- loop.example/g01109/laws.eqIntS -/
def A21_2 : AC := (AC.cond (O.t 14) AC.skip (AC.exit 0))
def A21_4 : AC := (AC.cond (O.t 25) (AC.seq (AC.reg [] [(I.mk (some 4) none false (X.v (A.mov (O.k (V.bool false)))))] []) AC.ret) AC.skip)
def A21_5 : AC := (AC.reg [] [(I.mk (some 15) none false (X.v (A.mov (O.t 5)))), (I.mk (some 16) none false (X.v (A.bin BinOp.add (O.t 15) (O.k (V.int IntKind.i64 (Int.ofNat 1)))))), (I.mk (some 5) none false (X.v (A.mov (O.t 16))))] [])
def A21_3 : AC := (AC.seq (AC.block 1 (AC.seq (AC.reg [] [(I.mk (some 17) none false (X.v (A.mov (O.t 0)))), (I.mk (some 18) none false (X.v (A.mov (O.t 5)))), (I.mk (some 19) none false (X.v (A.idx (O.t 17) (O.t 18) 1))), (I.mk (some 20) none false (X.v (A.load Sh.s (O.t 19)))), (I.mk (some 21) none false (X.v (A.mov (O.t 1)))), (I.mk (some 22) none false (X.v (A.mov (O.t 5)))), (I.mk (some 23) none false (X.v (A.idx (O.t 21) (O.t 22) 1))), (I.mk (some 24) none false (X.v (A.load Sh.s (O.t 23)))), (I.mk (some 25) none false (X.v (A.bin BinOp.neq (O.t 20) (O.t 24))))] []) A21_4)) A21_5)
def A21_1 : AC := (AC.seq (AC.seq (AC.reg [] [(I.mk (some 11) none false (X.v (A.mov (O.t 5)))), (I.mk (some 12) none false (X.v (A.mov (O.t 0)))), (I.mk (some 13) none false (X.v (A.len (O.t 12)))), (I.mk (some 14) none false (X.v (A.bin BinOp.lss (O.t 11) (O.t 13))))] []) A21_2) A21_3)
def A21_6 : AC := (AC.seq (AC.reg [] [(I.mk (some 4) none false (X.v (A.mov (O.k (V.bool true)))))] []) AC.ret)
def A21_8 : AC := (AC.cond (O.t 10) (AC.seq (AC.reg [] [(I.mk (some 4) none false (X.v (A.mov (O.k (V.bool false)))))] []) AC.ret) AC.skip)
def A21_10 : AC := (AC.block 0 (AC.loop A21_1))
def A21_9 : AC := (AC.seq (AC.seq (AC.reg [] [(I.mk (some 5) none false (X.v (A.mov (O.k (V.int IntKind.i64 (Int.ofNat 0))))))] []) A21_10) A21_6)
def A21_7 : AC := (AC.seq (AC.seq (AC.reg [] [(I.mk (some 6) none false (X.v (A.mov (O.t 0)))), (I.mk (some 7) none false (X.v (A.len (O.t 6)))), (I.mk (some 8) none false (X.v (A.mov (O.t 1)))), (I.mk (some 9) none false (X.v (A.len (O.t 8)))), (I.mk (some 10) none false (X.v (A.bin BinOp.neq (O.t 7) (O.t 9))))] []) A21_8) A21_9)
def A21 : AC := (AC.seq (AC.reg [] [(I.mk (some 4) none false (X.v (A.mov (O.k (V.bool false)))))] []) A21_7)
def an21 : List An := []
theorem c21 : cC Try.prog Try.f21.ntmps an21 (Try.f21.body.getD .skip) = some A21 := by kernel_rfl
structure H21 (D : Den) (σ : Sig) (F : Nat) : Prop where
  mk ::
abbrev R21 (r : Bool) : (Nat → V) → Prop := RR Try.prog [.tmp 4] 0 false (Enc.enc (r : Bool))
section
variable {D : Den} {σ : Sig} {F : Nat} {r : Bool}
def w_eqIntS_l1 (F : Nat) (a_1 : (List Int)) (b_2 : (List Int))  : Nat → Int → Option Bool
  | 0, _ => none
  | k + 1, i_5 =>
    bif decide (i_5 < (a_1.length : Int)) then
      (idx a_1 i_5).bind fun e_8 =>
      (idx b_2 i_5).bind fun e_9 =>
      bif (e_8 != e_9) then
        some false
      else
        (w_eqIntS_l1 F a_1 b_2 k) (w64 (i_5 + 1))
    else
      some true
theorem t_f21_l1 (H : H21 D σ F) (a_1 : (List Int)) (b_2 : (List Int))  : ∀ (k : Nat) (i_5 : Int) (s : Nat → V), Facts [(0, (Enc.enc (a_1 : List Int))), (1, (Enc.enc (b_2 : List Int))), (4, (.bool false)), (5, (.int .i64 i_5))] s → w_eqIntS_l1 F a_1 b_2 k i_5 = some r → Run D σ (R21 r) (.run A21_1 [.lp A21_1, .bk 0, .sq A21_6]) s := by
  intro k
  induction k with
  | zero => intro i_5 s _ h; exact nomatch (h : (none : Option _) = some r)
  | succ k ih =>
    intro i_5 s hs h
    rw [w_eqIntS_l1] at h
    obtain ⟨h0, h1, h4, h5⟩ := hs
    refine .seq ?_
    refine .seq ?_
    refine run_reg ?_
    refine e_end ?_
    refine g_v1 (t := 5) (u := (.int .i64 i_5)) (.int .i64 i_5) h5 rfl rfl ?_
    refine g_v1 (t := 0) (u := (Enc.enc (a_1 : List Int))) (Enc.enc (a_1 : List Int)) h0 rfl rfl ?_
    refine g_v (.int .i64 (a_1.length : Int)) (ev_len (xs := a_1) rfl) ?_
    refine g_v2 (t1 := 11) (t2 := 13) (u1 := (.int .i64 i_5)) (u2 := (.int .i64 (a_1.length : Int))) (.bool (decide (i_5 < (a_1.length : Int)))) rfl rfl rfl rfl ?_
    refine g_end ?_
    refine e_end ?_
    refine renew [(0, (Enc.enc (a_1 : List Int))), (1, (Enc.enc (b_2 : List Int))), (4, (.bool false)), (5, (.int .i64 i_5)), (14, (.bool (decide (i_5 < (a_1.length : Int)))))] ⟨h0, h1, h4, h5, rfl⟩ ?_
    rintro s ⟨h0, h1, h4, h5, h14⟩
    refine .nsq ?_
    refine run_cond (t := decide (i_5 < (a_1.length : Int))) h14 h (fun h => ?_) (fun h => ?_)
    · refine .skip ?_
      refine .nsq ?_
      refine .seq ?_
      refine .block ?_
      refine .seq ?_
      refine run_reg ?_
      refine e_end ?_
      refine g_v1 (t := 0) (u := (Enc.enc (a_1 : List Int))) (Enc.enc (a_1 : List Int)) h0 rfl rfl ?_
      refine g_v1 (t := 5) (u := (.int .i64 i_5)) (.int .i64 i_5) h5 rfl rfl ?_
      obtain ⟨e_8, E_e_8, h⟩ := bind_some h
      refine g_v (.ref .sh 0 [] (.int .i64 e_8)) (ev_idx (t := .sh) (lo := 0) (xs := a_1) rfl rfl E_e_8 rfl rfl) ?_
      refine g_v1 (t := 19) (u := (.ref .sh 0 [] (.int .i64 e_8))) (.int .i64 e_8) rfl rfl rfl ?_
      refine g_v1 (t := 1) (u := (Enc.enc (b_2 : List Int))) (Enc.enc (b_2 : List Int)) h1 rfl rfl ?_
      refine g_v1 (t := 5) (u := (.int .i64 i_5)) (.int .i64 i_5) h5 rfl rfl ?_
      obtain ⟨e_9, E_e_9, h⟩ := bind_some h
      refine g_v (.ref .sh 0 [] (.int .i64 e_9)) (ev_idx (t := .sh) (lo := 0) (xs := b_2) rfl rfl E_e_9 rfl rfl) ?_
      refine g_v1 (t := 23) (u := (.ref .sh 0 [] (.int .i64 e_9))) (.int .i64 e_9) rfl rfl rfl ?_
      refine g_v2 (t1 := 20) (t2 := 24) (u1 := (.int .i64 e_8)) (u2 := (.int .i64 e_9)) (.bool (e_8 != e_9)) rfl rfl rfl rfl ?_
      refine g_end ?_
      refine e_end ?_
      refine renew [(0, (Enc.enc (a_1 : List Int))), (1, (Enc.enc (b_2 : List Int))), (4, (.bool false)), (5, (.int .i64 i_5)), (25, (.bool (e_8 != e_9)))] ⟨h0, h1, h4, h5, rfl⟩ ?_
      rintro s ⟨h0, h1, h4, h5, h25⟩
      refine .nsq ?_
      refine run_cond (t := (e_8 != e_9)) h25 h (fun h => ?_) (fun h => ?_)
      · refine .seq ?_
        refine run_reg ?_
        refine e_end ?_
        refine g_v0 (.bool false) rfl rfl ?_
        refine g_end ?_
        refine e_end ?_
        refine renew [(0, (Enc.enc (a_1 : List Int))), (1, (Enc.enc (b_2 : List Int))), (4, (.bool false)), (5, (.int .i64 i_5))] ⟨h0, h1, rfl, h5⟩ ?_
        rintro s ⟨h0, h1, h4, h5⟩
        refine .nsq ?_
        refine .ret ?_
        have hr := Option.some.inj h
        subst hr
        exact rrA (res_tmp h4) rfl
      · refine .skip ?_
        refine .nbk ?_
        refine .nsq ?_
        refine run_reg ?_
        refine e_end ?_
        refine g_v1 (t := 5) (u := (.int .i64 i_5)) (.int .i64 i_5) h5 rfl rfl ?_
        refine g_v1 (t := 15) (u := (.int .i64 i_5)) (.int .i64 (w64 (i_5 + 1))) rfl rfl rfl ?_
        refine g_v1 (t := 16) (u := (.int .i64 (w64 (i_5 + 1)))) (.int .i64 (w64 (i_5 + 1))) rfl rfl rfl ?_
        refine g_end ?_
        refine e_end ?_
        refine renew [(0, (Enc.enc (a_1 : List Int))), (1, (Enc.enc (b_2 : List Int))), (4, (.bool false)), (5, (.int .i64 (w64 (i_5 + 1))))] ⟨h0, h1, h4, rfl⟩ ?_
        rintro s ⟨h0, h1, h4, h5⟩
        refine .nlp ?_
        exact ih (w64 (i_5 + 1)) _ ⟨h0, h1, h4, h5⟩ h
    · refine .exit ?_
      refine .esq ?_
      refine .elp ?_
      refine .ebk ?_
      refine .nsq ?_
      refine .seq ?_
      refine run_reg ?_
      refine e_end ?_
      refine g_v0 (.bool true) rfl rfl ?_
      refine g_end ?_
      refine e_end ?_
      refine renew [(4, (.bool true))] rfl ?_
      rintro s h4
      refine .nsq ?_
      refine .ret ?_
      have hr := Option.some.inj h
      subst hr
      exact rrA (res_tmp h4) rfl
def w_eqIntS (F : Nat) (a_1 : (List Int)) (b_2 : (List Int)) : Option Bool :=
  bif ((a_1.length : Int) != (b_2.length : Int)) then
    some false
  else
    w_eqIntS_l1 F a_1 b_2 F 0
theorem t21 (H : H21 D σ F) (a_1 : (List Int)) (b_2 : (List Int)) (s : Nat → V) (hs : Facts [(0, (Enc.enc (a_1 : List Int))), (1, (Enc.enc (b_2 : List Int)))] s) (h : w_eqIntS F a_1 b_2 = some r) : Run D σ (R21 r) (.run A21 []) s := by
  unfold w_eqIntS at h
  obtain ⟨h0, h1⟩ := hs
  refine .seq ?_
  refine run_reg ?_
  refine e_end ?_
  refine g_v0 (.bool false) rfl rfl ?_
  refine g_end ?_
  refine e_end ?_
  refine renew [(0, (Enc.enc (a_1 : List Int))), (1, (Enc.enc (b_2 : List Int))), (4, (.bool false))] ⟨h0, h1, rfl⟩ ?_
  rintro s ⟨h0, h1, h4⟩
  refine .nsq ?_
  refine .seq ?_
  refine .seq ?_
  refine run_reg ?_
  refine e_end ?_
  refine g_v1 (t := 0) (u := (Enc.enc (a_1 : List Int))) (Enc.enc (a_1 : List Int)) h0 rfl rfl ?_
  refine g_v (.int .i64 (a_1.length : Int)) (ev_len (xs := a_1) rfl) ?_
  refine g_v1 (t := 1) (u := (Enc.enc (b_2 : List Int))) (Enc.enc (b_2 : List Int)) h1 rfl rfl ?_
  refine g_v (.int .i64 (b_2.length : Int)) (ev_len (xs := b_2) rfl) ?_
  refine g_v2 (t1 := 7) (t2 := 9) (u1 := (.int .i64 (a_1.length : Int))) (u2 := (.int .i64 (b_2.length : Int))) (.bool ((a_1.length : Int) != (b_2.length : Int))) rfl rfl rfl rfl ?_
  refine g_end ?_
  refine e_end ?_
  refine renew [(0, (Enc.enc (a_1 : List Int))), (1, (Enc.enc (b_2 : List Int))), (4, (.bool false)), (10, (.bool ((a_1.length : Int) != (b_2.length : Int))))] ⟨h0, h1, h4, rfl⟩ ?_
  rintro s ⟨h0, h1, h4, h10⟩
  refine .nsq ?_
  refine run_cond (t := ((a_1.length : Int) != (b_2.length : Int))) h10 h (fun h => ?_) (fun h => ?_)
  · refine .seq ?_
    refine run_reg ?_
    refine e_end ?_
    refine g_v0 (.bool false) rfl rfl ?_
    refine g_end ?_
    refine e_end ?_
    refine renew [(0, (Enc.enc (a_1 : List Int))), (1, (Enc.enc (b_2 : List Int))), (4, (.bool false))] ⟨h0, h1, rfl⟩ ?_
    rintro s ⟨h0, h1, h4⟩
    refine .nsq ?_
    refine .ret ?_
    have hr := Option.some.inj h
    subst hr
    exact rrA (res_tmp h4) rfl
  · refine .skip ?_
    refine .nsq ?_
    refine .seq ?_
    refine .seq ?_
    refine run_reg ?_
    refine e_end ?_
    refine g_v0 (.int .i64 0) rfl rfl ?_
    refine g_end ?_
    refine e_end ?_
    refine renew [(0, (Enc.enc (a_1 : List Int))), (1, (Enc.enc (b_2 : List Int))), (4, (.bool false)), (5, (.int .i64 0))] ⟨h0, h1, h4, rfl⟩ ?_
    rintro s ⟨h0, h1, h4, h5⟩
    refine .nsq ?_
    refine .block ?_
    refine .loop ?_
    exact t_f21_l1 H a_1 b_2 F 0 _ ⟨h0, h1, h4, h5⟩ h
end
def e21 (F : Nat) : Ent := ⟨21, da (fun (x : ((List Int) × (List Int) × Unit)) => w_eqIntS F x.1 x.2.1) (fun (r : Bool) => (Enc.enc (r : Bool))), 0, false, selF []⟩
theorem p21 {F : Nat} {x0 : (List Int)} {x1 : (List Int)} {r : Bool} (h : w_eqIntS F x0 x1 = some r) : (e21 F).den [Enc.enc x0, Enc.enc x1] = some (Enc.enc (r : Bool)) := da_put (f := fun (x : ((List Int) × (List Int) × Unit)) => w_eqIntS F x.1 x.2.1) (t := fun (r : Bool) => (Enc.enc (r : Bool))) (x0, x1, ()) h
theorem o21 {D : Den} {σ : Sig} {F : Nat} (hF : Fits2 Try.prog D σ) (H : H21 D σ F) : (e21 F).Ok Try.prog := by
  refine ok_of (f := 21) (show unk 21 = 21 from rfl) (fun args r h => ?_) ⟨Try.f21, Try.func21, rfl, rfl⟩
  obtain ⟨⟨x0, x1, _⟩, y, rfl, hy, rfl⟩ := da_open h
  exact contract_run hF (by kernel_rfl) Try.func21 rfl c21 (show 2 ≤ Try.f21.ntmps by decide) (t21 H x0 x1 _ ⟨rfl, rfl⟩ hy)
/- loop.example/g01109/laws.FnExactEliminationWidth -/
def A14_1 : AC := (AC.cond (O.t 45) (AC.seq (AC.reg [] [(I.mk (some 4) none false (X.v (A.mov (O.k (V.bool false)))))] []) AC.ret) AC.skip)
def A14_3 : AC := (AC.cond (O.t 50) (AC.seq (AC.reg [] [(I.mk (some 4) none false (X.v (A.mov (O.k (V.bool false)))))] []) AC.ret) AC.skip)
def A14_5 : AC := (AC.cond (O.t 55) (AC.seq (AC.reg [] [(I.mk (some 4) none false (X.v (A.mov (O.k (V.bool false)))))] []) AC.ret) AC.skip)
def A14_6 : AC := (AC.seq (AC.reg [] [(I.mk (some 4) none false (X.v (A.mov (O.k (V.bool true)))))] []) AC.ret)
def A14_4 : AC := (AC.seq (AC.seq (AC.reg [] [(I.mk (some 51) none false (X.v (A.mov (O.t 9)))), (I.mk (some 52) none false (X.v (A.mov (O.t 1)))), (I.mk (some 53) none false (X.call (O.k (V.fn 18 [] [])) [(O.t 52)])), (I.mk (some 54) none false (X.call (O.k (V.fn 21 [] [])) [(O.t 51), (O.t 53)])), (I.mk (some 55) none false (X.v (A.un UnOp.not (O.t 54))))] []) A14_5) A14_6)
def A14_2 : AC := (AC.seq (AC.seq (AC.reg [] [(I.mk (some 46) none false (X.v (A.load (Sh.ag [Sh.s, Sh.p]) (O.t 8)))), (I.mk (some 47) none false (X.v (A.load (Sh.ag [Sh.s, Sh.p]) (O.t 2)))), (I.mk (some 48) none false (X.call (O.k (V.fn 17 [] [])) [(O.t 47)])), (I.mk (some 49) none false (X.call (O.k (V.fn 20 [] [])) [(O.t 46), (O.t 48)])), (I.mk (some 50) none false (X.v (A.un UnOp.not (O.t 49))))] []) A14_3) A14_4)
def A14_8 : AC := (AC.cond (O.t 14) (AC.seq (AC.reg [] [(I.mk (some 4) none false (X.v (A.mov (O.k (V.bool true)))))] []) AC.ret) AC.skip)
def A14_12 : AC := (AC.cond (O.t 19) (AC.seq (AC.reg [] [(I.mk (some 4) none false (X.v (A.mov (O.k (V.bool true)))))] []) AC.ret) AC.skip)
def A14_17 : AC := (AC.seq (AC.seq (AC.reg [] [(I.mk (some 38) none false (X.v (A.mov (O.t 10)))), (I.mk (some 39) none false (X.v (A.mov (O.t 6)))), (I.mk (some 40) none false (X.v (A.bin BinOp.neq (O.t 38) (O.t 39)))), (I.mk (some 41) none false (X.v (A.mov (O.t 40)))), (I.mk (some 42) (some (41, false)) false (X.v (A.mov (O.t 11)))), (I.mk (some 43) (some (41, false)) false (X.v (A.mov (O.t 7)))), (I.mk (some 44) (some (41, false)) false (X.v (A.beq true (O.t 42) (O.t 43)))), (I.mk (some 45) none false (X.v (A.pick (O.t 41) (O.k (V.bool true)) (O.t 44))))] []) A14_1) A14_2)
def A14_16 : AC := (AC.seq (AC.reg [] [(I.mk (some 33) none false (X.v (A.load (Sh.ag [Sh.s, Sh.p]) (O.t 8)))), (I.mk (some 34) none false (X.v (A.mov (O.t 9)))), (I.mk (some 35) none false (X.call (O.k (V.fn 43 [] [])) [(O.t 33), (O.t 34)])), (I.mk (some 32) none false (X.v (A.mov (O.t 35)))), (I.mk (some 36) none false (X.v (A.extS (O.t 32) 0))), (I.mk (some 37) none false (X.v (A.extS (O.t 32) 1))), (I.mk (some 10) none false (X.v (A.mov (O.t 36)))), (I.mk (some 11) none false (X.v (A.mov (O.t 37))))] []) A14_17)
def A14_15 : AC := (AC.seq (AC.reg [] [(I.mk (some 30) none false (X.v (A.mov (O.t 1)))), (I.mk (some 31) none false (X.call (O.k (V.fn 18 [] [])) [(O.t 30)])), (I.mk (some 9) none false (X.v (A.mov (O.t 31))))] []) A14_16)
def A14_14 : AC := (AC.seq (AC.reg [.clr [8]] [(I.mk (some 28) none false (X.v (A.load (Sh.ag [Sh.s, Sh.p]) (O.t 2)))), (I.mk (some 29) none false (X.call (O.k (V.fn 17 [] [])) [(O.t 28)])), (I.mk (some 8) none false (X.alloc (V.agg [(V.int IntKind.i64 (Int.ofNat 0)), (V.sl Tok.nl (Sh.ag [Sh.s, Sh.s]) 0 [])]))), (I.mk none none false (X.store (Sh.ag [Sh.s, Sh.p]) (O.t 8) (O.t 29)))] []) A14_15)
def A14_13 : AC := (AC.seq (AC.reg [] [(I.mk (some 21) none false (X.v (A.load (Sh.ag [Sh.s, Sh.p]) (O.t 2)))), (I.mk (some 22) none false (X.call (O.k (V.fn 17 [] [])) [(O.t 21)])), (I.mk (some 23) none false (X.v (A.mov (O.t 1)))), (I.mk (some 24) none false (X.call (O.k (V.fn 18 [] [])) [(O.t 23)])), (I.mk (some 25) none false (X.call (O.k (V.fn 42 [] [])) [(O.t 22), (O.t 24)])), (I.mk (some 20) none false (X.v (A.mov (O.t 25)))), (I.mk (some 26) none false (X.v (A.extS (O.t 20) 0))), (I.mk (some 27) none false (X.v (A.extS (O.t 20) 1))), (I.mk (some 6) none false (X.v (A.mov (O.t 26)))), (I.mk (some 7) none false (X.v (A.mov (O.t 27))))] []) A14_14)
def A14_11 : AC := (AC.seq (AC.seq (AC.reg [] [(I.mk (some 18) none false (X.v (A.mov (O.t 5)))), (I.mk (some 19) none false (X.v (A.bin BinOp.lss (O.t 18) (O.k (V.int IntKind.i64 (Int.ofNat 0))))))] []) A14_12) A14_13)
def A14_10 : AC := (AC.seq (AC.reg [] [(I.mk (some 15) none false (X.v (A.load (Sh.ag [Sh.s, Sh.p]) (O.t 2)))), (I.mk (some 16) none false (X.v (A.mov (O.t 5)))), (I.mk (some 17) none false (X.call (O.k (V.fn 15 [] [])) [(O.t 15), (O.t 16)])), (I.mk (some 5) none false (X.v (A.mov (O.t 17))))] []) A14_11)
def A14_9 : AC := (AC.seq (AC.reg [] [(I.mk (some 5) none false (X.v (A.mov (O.k (V.int IntKind.i64 (Int.ofNat 1048576))))))] []) A14_10)
def A14_7 : AC := (AC.seq (AC.seq (AC.reg [] [(I.mk (some 12) none false (X.v (A.mov (O.t 1)))), (I.mk (some 13) none false (X.v (A.len (O.t 12)))), (I.mk (some 14) none false (X.v (A.bin BinOp.gtr (O.t 13) (O.k (V.int IntKind.i64 (Int.ofNat 1048576))))))] []) A14_8) A14_9)
def A14 : AC := (AC.seq (AC.reg [.clr [2]] [(I.mk (some 2) none false (X.box (O.t 0))), (I.mk (some 4) none false (X.v (A.mov (O.k (V.bool false)))))] []) A14_7)
def an14 : List An := [{ id := 0, pre := [.clr [2]], ep := [], lin := [], sp := [] }, { id := 8, pre := [.clr [8]], ep := [], lin := [], sp := [] }]
theorem c14 : cC Try.prog Try.f14.ntmps an14 (Try.f14.body.getD .skip) = some A14 := by kernel_rfl
structure H14 (D : Den) (σ : Sig) (F : Nat) : Prop where
  c15 : ∀ (x0 : (Int × (List (Int × Int)))) (x1 : Int) r, w_szGraph F x0 x1 = some r → D 15 [Enc.enc x0, Enc.enc x1] = some (Enc.enc (r : Int))
  g15 : σ 15 = some (0, false)
  c17 : ∀ (x0 : (Int × (List (Int × Int)))) r, w_toGraph F x0 = some r → D 17 [Enc.enc x0] = some (Enc.enc (r : (Int × (List (Int × Int)))))
  g17 : σ 17 = some (0, true)
  c18 : ∀ (x0 : (List Int)) r, w_toIntS F x0 = some r → D 18 [Enc.enc x0] = some (Enc.enc (r : (List Int)))
  g18 : σ 18 = some (0, false)
  c42 : ∀ (x0 : (Int × (List (Int × Int)))) (x1 : (List Int)) r, s_EliminationWidth F x0 x1 = some r → D 42 [Enc.enc x0, Enc.enc x1] = some (.tup [Enc.enc (r.1 : Int), Enc.enc (r.2 : Bool)])
  g42 : σ 42 = some (0, false)
  c43 : ∀ (x0 : (Int × (List (Int × Int)))) (x1 : (List Int)) r, i_EliminationWidth F x0 x1 = some r → D 43 [Enc.enc x0, Enc.enc x1] = some (.tup [Enc.enc (r.1 : Int), Enc.enc (r.2 : Bool)])
  g43 : σ 43 = some (0, false)
  c20 : ∀ (x0 : (Int × (List (Int × Int)))) (x1 : (Int × (List (Int × Int)))) r, w_eqGraph F x0 x1 = some r → D 20 [Enc.enc x0, Enc.enc x1] = some (Enc.enc (r : Bool))
  g20 : σ 20 = some (0, false)
  c21 : ∀ (x0 : (List Int)) (x1 : (List Int)) r, w_eqIntS F x0 x1 = some r → D 21 [Enc.enc x0, Enc.enc x1] = some (Enc.enc (r : Bool))
  g21 : σ 21 = some (0, false)
abbrev R14 (r : Bool) : (Nat → V) → Prop := RR Try.prog [.tmp 4] 0 false (Enc.enc (r : Bool))
section
variable {D : Den} {σ : Sig} {F : Nat} {r : Bool}
def w_FnExactEliminationWidth_j1 (F : Nat) (aOrder_2 : (List Int)) (aG_1 : (Int × (List (Int × Int)))) (r_7 : (Int × (List (Int × Int)))) (r_8 : (List Int))  (t45_10 : Bool) : Option Bool :=
  bif t45_10 then
    some false
  else
    (w_toGraph F aG_1).bind fun r_11 =>
    (w_eqGraph F r_7 r_11).bind fun r_12 =>
    bif (!r_12) then
      some false
    else
      (w_toIntS F aOrder_2).bind fun r_13 =>
      (w_eqIntS F r_8 r_13).bind fun r_14 =>
      bif (!r_14) then
        some false
      else
        some true
theorem t_f14_j1 (H : H14 D σ F) (aOrder_2 : (List Int)) (aG_1 : (Int × (List (Int × Int)))) (r_7 : (Int × (List (Int × Int)))) (r_8 : (List Int))  (t45_10 : Bool) (s : Nat → V) (hs : Facts [(1, (Enc.enc (aOrder_2 : List Int))), (2, (.ref (.bx 2) 0 [] (.agg [(.int .i64 aG_1.1), (Enc.enc (aG_1.2 : List (Int × Int)))]))), (4, (.bool false)), (8, (.ref (.bx 8) 0 [] (.agg [(.int .i64 r_7.1), (Enc.enc (r_7.2 : List (Int × Int)))]))), (9, (Enc.enc (r_8 : List Int))), (45, (.bool t45_10))] s) (h : w_FnExactEliminationWidth_j1 F aOrder_2 aG_1 r_7 r_8  t45_10 = some r) : Run D σ (R14 r) (.nrm [.sq A14_1, .sq A14_2]) s := by
  unfold w_FnExactEliminationWidth_j1 at h
  obtain ⟨h1, h2, h4, h8, h9, h45⟩ := hs
  refine .nsq ?_
  refine run_cond (t := t45_10) h45 h (fun h => ?_) (fun h => ?_)
  · refine .seq ?_
    refine run_reg ?_
    refine e_end ?_
    refine g_v0 (.bool false) rfl rfl ?_
    refine g_end ?_
    refine e_end ?_
    refine renew [(1, (Enc.enc (aOrder_2 : List Int))), (2, (.ref (.bx 2) 0 [] (.agg [(.int .i64 aG_1.1), (Enc.enc (aG_1.2 : List (Int × Int)))]))), (4, (.bool false)), (8, (.ref (.bx 8) 0 [] (.agg [(.int .i64 r_7.1), (Enc.enc (r_7.2 : List (Int × Int)))]))), (9, (Enc.enc (r_8 : List Int)))] ⟨h1, h2, rfl, h8, h9⟩ ?_
    rintro s ⟨h1, h2, h4, h8, h9⟩
    refine .nsq ?_
    refine .ret ?_
    have hr := Option.some.inj h
    subst hr
    exact rrA (res_tmp h4) rfl
  · refine .skip ?_
    refine .nsq ?_
    refine .seq ?_
    refine .seq ?_
    refine run_reg ?_
    refine e_end ?_
    refine g_v1 (t := 8) (u := (.ref (.bx 8) 0 [] (.agg [(.int .i64 r_7.1), (Enc.enc (r_7.2 : List (Int × Int)))]))) (.agg [(.int .i64 r_7.1), (Enc.enc (r_7.2 : List (Int × Int)))]) h8 rfl rfl ?_
    refine g_v1 (t := 2) (u := (.ref (.bx 2) 0 [] (.agg [(.int .i64 aG_1.1), (Enc.enc (aG_1.2 : List (Int × Int)))]))) (.agg [(.int .i64 aG_1.1), (Enc.enc (aG_1.2 : List (Int × Int)))]) h2 rfl rfl ?_
    obtain ⟨r_11, E_r_11, h⟩ := bind_some h
    refine g_call (m := 0) (al := true) (r := (Enc.enc (r_11 : (Int × (List (Int × Int)))))) [Enc.enc (aG_1 : (Int × (List (Int × Int))))] (ta_cons (v := (.agg [(.int .i64 aG_1.1), (Enc.enc (aG_1.2 : List (Int × Int)))])) rfl rfl (Enc.erase_enc (aG_1 : (Int × (List (Int × Int))))) ta_nil) (H.c17 _ _ E_r_11) H.g17 (hal_of (ht_cons (v := (.agg [(.int .i64 aG_1.1), (Enc.enc (aG_1.2 : List (Int × Int)))])) rfl rfl rfl ht_nil)) rfl rfl rfl ?_
    obtain ⟨r_12, E_r_12, h⟩ := bind_some h
    refine g_call (m := 0) (al := false) (r := (Enc.enc (r_12 : Bool))) [Enc.enc (r_7 : (Int × (List (Int × Int)))), Enc.enc (r_11 : (Int × (List (Int × Int))))] (ta_cons (v := (.agg [(.int .i64 r_7.1), (Enc.enc (r_7.2 : List (Int × Int)))])) rfl rfl (Enc.erase_enc (r_7 : (Int × (List (Int × Int))))) (ta_cons (v := (.agg [(.int .i64 r_11.1), (Enc.enc (r_11.2 : List (Int × Int)))])) rfl rfl (Enc.erase_enc (r_11 : (Int × (List (Int × Int))))) ta_nil)) (H.c20 _ _ _ E_r_12) H.g20 rfl rfl rfl rfl ?_
    refine g_v1 (t := 49) (u := (.bool r_12)) (.bool (!r_12)) rfl rfl rfl ?_
    refine g_end ?_
    refine e_end ?_
    refine renew [(1, (Enc.enc (aOrder_2 : List Int))), (4, (.bool false)), (9, (Enc.enc (r_8 : List Int))), (50, (.bool (!r_12)))] ⟨h1, h4, h9, rfl⟩ ?_
    rintro s ⟨h1, h4, h9, h50⟩
    refine .nsq ?_
    refine run_cond (t := (!r_12)) h50 h (fun h => ?_) (fun h => ?_)
    · refine .seq ?_
      refine run_reg ?_
      refine e_end ?_
      refine g_v0 (.bool false) rfl rfl ?_
      refine g_end ?_
      refine e_end ?_
      refine renew [(1, (Enc.enc (aOrder_2 : List Int))), (4, (.bool false)), (9, (Enc.enc (r_8 : List Int)))] ⟨h1, rfl, h9⟩ ?_
      rintro s ⟨h1, h4, h9⟩
      refine .nsq ?_
      refine .ret ?_
      have hr := Option.some.inj h
      subst hr
      exact rrA (res_tmp h4) rfl
    · refine .skip ?_
      refine .nsq ?_
      refine .seq ?_
      refine .seq ?_
      refine run_reg ?_
      refine e_end ?_
      refine g_v1 (t := 9) (u := (Enc.enc (r_8 : List Int))) (Enc.enc (r_8 : List Int)) h9 rfl rfl ?_
      refine g_v1 (t := 1) (u := (Enc.enc (aOrder_2 : List Int))) (Enc.enc (aOrder_2 : List Int)) h1 rfl rfl ?_
      obtain ⟨r_13, E_r_13, h⟩ := bind_some h
      refine g_call (m := 0) (al := false) (r := (Enc.enc (r_13 : (List Int)))) [Enc.enc (aOrder_2 : (List Int))] (ta_cons (v := (Enc.enc (aOrder_2 : List Int))) rfl rfl (Enc.erase_enc (aOrder_2 : (List Int))) ta_nil) (H.c18 _ _ E_r_13) H.g18 rfl rfl rfl rfl ?_
      obtain ⟨r_14, E_r_14, h⟩ := bind_some h
      refine g_call (m := 0) (al := false) (r := (Enc.enc (r_14 : Bool))) [Enc.enc (r_8 : (List Int)), Enc.enc (r_13 : (List Int))] (ta_cons (v := (Enc.enc (r_8 : List Int))) rfl rfl (Enc.erase_enc (r_8 : (List Int))) (ta_cons (v := (Enc.enc (r_13 : List Int))) rfl rfl (Enc.erase_enc (r_13 : (List Int))) ta_nil)) (H.c21 _ _ _ E_r_14) H.g21 rfl rfl rfl rfl ?_
      refine g_v1 (t := 54) (u := (.bool r_14)) (.bool (!r_14)) rfl rfl rfl ?_
      refine g_end ?_
      refine e_end ?_
      refine renew [(4, (.bool false)), (55, (.bool (!r_14)))] ⟨h4, rfl⟩ ?_
      rintro s ⟨h4, h55⟩
      refine .nsq ?_
      refine run_cond (t := (!r_14)) h55 h (fun h => ?_) (fun h => ?_)
      · refine .seq ?_
        refine run_reg ?_
        refine e_end ?_
        refine g_v0 (.bool false) rfl rfl ?_
        refine g_end ?_
        refine e_end ?_
        refine renew [(4, (.bool false))] rfl ?_
        rintro s h4
        refine .nsq ?_
        refine .ret ?_
        have hr := Option.some.inj h
        subst hr
        exact rrA (res_tmp h4) rfl
      · refine .skip ?_
        refine .nsq ?_
        refine .seq ?_
        refine run_reg ?_
        refine e_end ?_
        refine g_v0 (.bool true) rfl rfl ?_
        refine g_end ?_
        refine e_end ?_
        refine renew [(4, (.bool true))] rfl ?_
        rintro s h4
        refine .nsq ?_
        refine .ret ?_
        have hr := Option.some.inj h
        subst hr
        exact rrA (res_tmp h4) rfl
def w_FnExactEliminationWidth (F : Nat) (aG_1 : (Int × (List (Int × Int)))) (aOrder_2 : (List Int)) : Option Bool :=
  bif decide ((aOrder_2.length : Int) > 1048576) then
    some true
  else
    (w_szGraph F aG_1 1048576).bind fun r_3 =>
    bif decide (r_3 < 0) then
      some true
    else
      (w_toGraph F aG_1).bind fun r_4 =>
      (w_toIntS F aOrder_2).bind fun r_5 =>
      (s_EliminationWidth F r_4 r_5).bind fun r_6 =>
      (w_toGraph F aG_1).bind fun r_7 =>
      (w_toIntS F aOrder_2).bind fun r_8 =>
      (i_EliminationWidth F r_7 r_8).bind fun r_9 =>
      bif (r_9.1 != r_6.1) then
        w_FnExactEliminationWidth_j1 F aOrder_2 aG_1 r_7 r_8 true
      else
        w_FnExactEliminationWidth_j1 F aOrder_2 aG_1 r_7 r_8 (r_9.2 != r_6.2)
theorem t14 (H : H14 D σ F) (aG_1 : (Int × (List (Int × Int)))) (aOrder_2 : (List Int)) (s : Nat → V) (hs : Facts [(0, (.agg [(.int .i64 aG_1.1), (Enc.enc (aG_1.2 : List (Int × Int)))])), (1, (Enc.enc (aOrder_2 : List Int)))] s) (h : w_FnExactEliminationWidth F aG_1 aOrder_2 = some r) : Run D σ (R14 r) (.run A14 []) s := by
  unfold w_FnExactEliminationWidth at h
  obtain ⟨h0, h1⟩ := hs
  refine .seq ?_
  refine run_reg ?_
  refine e_clr ?_
  refine e_end ?_
  refine g_box (.agg [(.int .i64 aG_1.1), (Enc.enc (aG_1.2 : List (Int × Int)))]) (rd_of (keep_clear (s := s) (pk := [2]) h0 rfl (map_agg (maps_cons rfl (maps_cons (Enc.map_enc _ (aG_1.2 : List (Int × Int))) maps_nil)))) rfl) (gone_clear (s := s) (pk := [2]) (t := 2) rfl) rfl ?_
  refine g_v0 (.bool false) rfl rfl ?_
  refine g_end ?_
  refine e_end ?_
  refine renew [(1, (Enc.enc (aOrder_2 : List Int))), (2, (.ref (.bx 2) 0 [] (.agg [(.int .i64 aG_1.1), (Enc.enc (aG_1.2 : List (Int × Int)))]))), (4, (.bool false))] ⟨(keep_clear (s := s) (pk := [2]) h1 rfl (Enc.map_enc _ (aOrder_2 : List Int))), rfl, rfl⟩ ?_
  rintro s ⟨h1, h2, h4⟩
  refine .nsq ?_
  refine .seq ?_
  refine .seq ?_
  refine run_reg ?_
  refine e_end ?_
  refine g_v1 (t := 1) (u := (Enc.enc (aOrder_2 : List Int))) (Enc.enc (aOrder_2 : List Int)) h1 rfl rfl ?_
  refine g_v (.int .i64 (aOrder_2.length : Int)) (ev_len (xs := aOrder_2) rfl) ?_
  refine g_v1 (t := 13) (u := (.int .i64 (aOrder_2.length : Int))) (.bool (decide ((aOrder_2.length : Int) > 1048576))) rfl rfl rfl ?_
  refine g_end ?_
  refine e_end ?_
  refine renew [(1, (Enc.enc (aOrder_2 : List Int))), (2, (.ref (.bx 2) 0 [] (.agg [(.int .i64 aG_1.1), (Enc.enc (aG_1.2 : List (Int × Int)))]))), (4, (.bool false)), (14, (.bool (decide ((aOrder_2.length : Int) > 1048576))))] ⟨h1, h2, h4, rfl⟩ ?_
  rintro s ⟨h1, h2, h4, h14⟩
  refine .nsq ?_
  refine run_cond (t := decide ((aOrder_2.length : Int) > 1048576)) h14 h (fun h => ?_) (fun h => ?_)
  · refine .seq ?_
    refine run_reg ?_
    refine e_end ?_
    refine g_v0 (.bool true) rfl rfl ?_
    refine g_end ?_
    refine e_end ?_
    refine renew [(1, (Enc.enc (aOrder_2 : List Int))), (2, (.ref (.bx 2) 0 [] (.agg [(.int .i64 aG_1.1), (Enc.enc (aG_1.2 : List (Int × Int)))]))), (4, (.bool true))] ⟨h1, h2, rfl⟩ ?_
    rintro s ⟨h1, h2, h4⟩
    refine .nsq ?_
    refine .ret ?_
    have hr := Option.some.inj h
    subst hr
    exact rrA (res_tmp h4) rfl
  · refine .skip ?_
    refine .nsq ?_
    refine .seq ?_
    refine run_reg ?_
    refine e_end ?_
    refine g_v0 (.int .i64 1048576) rfl rfl ?_
    refine g_end ?_
    refine e_end ?_
    refine renew [(1, (Enc.enc (aOrder_2 : List Int))), (2, (.ref (.bx 2) 0 [] (.agg [(.int .i64 aG_1.1), (Enc.enc (aG_1.2 : List (Int × Int)))]))), (4, (.bool false)), (5, (.int .i64 1048576))] ⟨h1, h2, h4, rfl⟩ ?_
    rintro s ⟨h1, h2, h4, h5⟩
    refine .nsq ?_
    refine .seq ?_
    refine run_reg ?_
    refine e_end ?_
    refine g_v1 (t := 2) (u := (.ref (.bx 2) 0 [] (.agg [(.int .i64 aG_1.1), (Enc.enc (aG_1.2 : List (Int × Int)))]))) (.agg [(.int .i64 aG_1.1), (Enc.enc (aG_1.2 : List (Int × Int)))]) h2 rfl rfl ?_
    refine g_v1 (t := 5) (u := (.int .i64 1048576)) (.int .i64 1048576) h5 rfl rfl ?_
    obtain ⟨r_3, E_r_3, h⟩ := bind_some h
    refine g_call (m := 0) (al := false) (r := (Enc.enc (r_3 : Int))) [Enc.enc (aG_1 : (Int × (List (Int × Int)))), Enc.enc (1048576 : Int)] (ta_cons (v := (.agg [(.int .i64 aG_1.1), (Enc.enc (aG_1.2 : List (Int × Int)))])) rfl rfl (Enc.erase_enc (aG_1 : (Int × (List (Int × Int))))) (ta_cons (v := (.int .i64 1048576)) rfl rfl rfl ta_nil)) (H.c15 _ _ _ E_r_3) H.g15 rfl rfl rfl rfl ?_
    refine g_v1 (t := 17) (u := (.int .i64 r_3)) (.int .i64 r_3) rfl rfl rfl ?_
    refine g_end ?_
    refine e_end ?_
    refine renew [(1, (Enc.enc (aOrder_2 : List Int))), (2, (.ref (.bx 2) 0 [] (.agg [(.int .i64 aG_1.1), (Enc.enc (aG_1.2 : List (Int × Int)))]))), (4, (.bool false)), (5, (.int .i64 r_3))] ⟨h1, h2, h4, rfl⟩ ?_
    rintro s ⟨h1, h2, h4, h5⟩
    refine .nsq ?_
    refine .seq ?_
    refine .seq ?_
    refine run_reg ?_
    refine e_end ?_
    refine g_v1 (t := 5) (u := (.int .i64 r_3)) (.int .i64 r_3) h5 rfl rfl ?_
    refine g_v1 (t := 18) (u := (.int .i64 r_3)) (.bool (decide (r_3 < 0))) rfl rfl rfl ?_
    refine g_end ?_
    refine e_end ?_
    refine renew [(1, (Enc.enc (aOrder_2 : List Int))), (2, (.ref (.bx 2) 0 [] (.agg [(.int .i64 aG_1.1), (Enc.enc (aG_1.2 : List (Int × Int)))]))), (4, (.bool false)), (19, (.bool (decide (r_3 < 0))))] ⟨h1, h2, h4, rfl⟩ ?_
    rintro s ⟨h1, h2, h4, h19⟩
    refine .nsq ?_
    refine run_cond (t := decide (r_3 < 0)) h19 h (fun h => ?_) (fun h => ?_)
    · refine .seq ?_
      refine run_reg ?_
      refine e_end ?_
      refine g_v0 (.bool true) rfl rfl ?_
      refine g_end ?_
      refine e_end ?_
      refine renew [(1, (Enc.enc (aOrder_2 : List Int))), (2, (.ref (.bx 2) 0 [] (.agg [(.int .i64 aG_1.1), (Enc.enc (aG_1.2 : List (Int × Int)))]))), (4, (.bool true))] ⟨h1, h2, rfl⟩ ?_
      rintro s ⟨h1, h2, h4⟩
      refine .nsq ?_
      refine .ret ?_
      have hr := Option.some.inj h
      subst hr
      exact rrA (res_tmp h4) rfl
    · refine .skip ?_
      refine .nsq ?_
      refine .seq ?_
      refine run_reg ?_
      refine e_end ?_
      refine g_v1 (t := 2) (u := (.ref (.bx 2) 0 [] (.agg [(.int .i64 aG_1.1), (Enc.enc (aG_1.2 : List (Int × Int)))]))) (.agg [(.int .i64 aG_1.1), (Enc.enc (aG_1.2 : List (Int × Int)))]) h2 rfl rfl ?_
      obtain ⟨r_4, E_r_4, h⟩ := bind_some h
      refine g_call (m := 0) (al := true) (r := (Enc.enc (r_4 : (Int × (List (Int × Int)))))) [Enc.enc (aG_1 : (Int × (List (Int × Int))))] (ta_cons (v := (.agg [(.int .i64 aG_1.1), (Enc.enc (aG_1.2 : List (Int × Int)))])) rfl rfl (Enc.erase_enc (aG_1 : (Int × (List (Int × Int))))) ta_nil) (H.c17 _ _ E_r_4) H.g17 (hal_of (ht_cons (v := (.agg [(.int .i64 aG_1.1), (Enc.enc (aG_1.2 : List (Int × Int)))])) rfl rfl rfl ht_nil)) rfl rfl rfl ?_
      refine g_v1 (t := 1) (u := (Enc.enc (aOrder_2 : List Int))) (Enc.enc (aOrder_2 : List Int)) h1 rfl rfl ?_
      obtain ⟨r_5, E_r_5, h⟩ := bind_some h
      refine g_call (m := 0) (al := false) (r := (Enc.enc (r_5 : (List Int)))) [Enc.enc (aOrder_2 : (List Int))] (ta_cons (v := (Enc.enc (aOrder_2 : List Int))) rfl rfl (Enc.erase_enc (aOrder_2 : (List Int))) ta_nil) (H.c18 _ _ E_r_5) H.g18 rfl rfl rfl rfl ?_
      obtain ⟨r_6, E_r_6, h⟩ := bind_some h
      refine g_call (m := 0) (al := false) (r := (.tup [Enc.enc (r_6.1 : Int), Enc.enc (r_6.2 : Bool)])) [Enc.enc (r_4 : (Int × (List (Int × Int)))), Enc.enc (r_5 : (List Int))] (ta_cons (v := (.agg [(.int .i64 r_4.1), (Enc.enc (r_4.2 : List (Int × Int)))])) rfl rfl (Enc.erase_enc (r_4 : (Int × (List (Int × Int))))) (ta_cons (v := (Enc.enc (r_5 : List Int))) rfl rfl (Enc.erase_enc (r_5 : (List Int))) ta_nil)) (H.c42 _ _ _ E_r_6) H.g42 rfl rfl rfl rfl ?_
      refine g_v1 (t := 25) (u := (.tup [(.int .i64 r_6.1), (.bool r_6.2)])) (.tup [(.int .i64 r_6.1), (.bool r_6.2)]) rfl rfl rfl ?_
      refine g_v1 (t := 20) (u := (.tup [(.int .i64 r_6.1), (.bool r_6.2)])) (.int .i64 r_6.1) rfl rfl rfl ?_
      refine g_v1 (t := 20) (u := (.tup [(.int .i64 r_6.1), (.bool r_6.2)])) (.bool r_6.2) rfl rfl rfl ?_
      refine g_v1 (t := 26) (u := (.int .i64 r_6.1)) (.int .i64 r_6.1) rfl rfl rfl ?_
      refine g_v1 (t := 27) (u := (.bool r_6.2)) (.bool r_6.2) rfl rfl rfl ?_
      refine g_end ?_
      refine e_end ?_
      refine renew [(1, (Enc.enc (aOrder_2 : List Int))), (2, (.ref (.bx 2) 0 [] (.agg [(.int .i64 aG_1.1), (Enc.enc (aG_1.2 : List (Int × Int)))]))), (4, (.bool false)), (6, (.int .i64 r_6.1)), (7, (.bool r_6.2))] ⟨h1, h2, h4, rfl, rfl⟩ ?_
      rintro s ⟨h1, h2, h4, h6, h7⟩
      refine .nsq ?_
      refine .seq ?_
      refine run_reg ?_
      refine e_clr ?_
      refine e_end ?_
      refine g_v1 (t := 2) (u := (.ref (.bx 2) 0 [] (.agg [(.int .i64 aG_1.1), (Enc.enc (aG_1.2 : List (Int × Int)))]))) (.agg [(.int .i64 aG_1.1), (Enc.enc (aG_1.2 : List (Int × Int)))]) (keep_clear (s := s) (pk := [8]) h2 rfl (map_bx rfl (map_agg (maps_cons rfl (maps_cons (Enc.map_enc _ (aG_1.2 : List (Int × Int))) maps_nil))))) rfl rfl ?_
      obtain ⟨r_7, E_r_7, h⟩ := bind_some h
      refine g_call (m := 0) (al := true) (r := (Enc.enc (r_7 : (Int × (List (Int × Int)))))) [Enc.enc (aG_1 : (Int × (List (Int × Int))))] (ta_cons (v := (.agg [(.int .i64 aG_1.1), (Enc.enc (aG_1.2 : List (Int × Int)))])) rfl rfl (Enc.erase_enc (aG_1 : (Int × (List (Int × Int))))) ta_nil) (H.c17 _ _ E_r_7) H.g17 (hal_of (ht_cons (v := (.agg [(.int .i64 aG_1.1), (Enc.enc (aG_1.2 : List (Int × Int)))])) rfl rfl rfl ht_nil)) rfl rfl rfl ?_
      refine g_alloc (gone_clear (s := s) (pk := [8]) (t := 8) rfl) ?_
      refine g_store (.agg [(.int .i64 r_7.1), (Enc.enc (r_7.2 : List (Int × Int)))]) (rd_of rfl rfl) (rd_of rfl rfl) (by refine ⟨by decide, by decide, rfl, rfl, rfl, ?_⟩; first | rfl | simp [V.toks, V.tokss, Enc.toks_enc]) ?_
      refine g_end ?_
      refine e_end ?_
      refine renew [(1, (Enc.enc (aOrder_2 : List Int))), (2, (.ref (.bx 2) 0 [] (.agg [(.int .i64 aG_1.1), (Enc.enc (aG_1.2 : List (Int × Int)))]))), (4, (.bool false)), (6, (.int .i64 r_6.1)), (7, (.bool r_6.2)), (8, (.ref (.bx 8) 0 [] (.agg [(.int .i64 r_7.1), (Enc.enc (r_7.2 : List (Int × Int)))])))] ⟨(keep_mut (keep_clear (s := s) (pk := [8]) h1 rfl (Enc.map_enc _ (aOrder_2 : List Int))) (Enc.mut_enc _ _ _ _ (aOrder_2 : List Int))), (keep_mut (keep_clear (s := s) (pk := [8]) h2 rfl (map_bx rfl (map_agg (maps_cons rfl (maps_cons (Enc.map_enc _ (aG_1.2 : List (Int × Int))) maps_nil))))) (mut_ref_ne rfl rfl (mut_agg (muts_cons rfl (muts_cons (Enc.mut_enc _ _ _ _ (aG_1.2 : List (Int × Int))) rfl))))), (keep_mut (keep_clear (s := s) (pk := [8]) h4 rfl rfl) rfl), (keep_mut (keep_clear (s := s) (pk := [8]) h6 rfl rfl) rfl), (keep_mut (keep_clear (s := s) (pk := [8]) h7 rfl rfl) rfl), (keep_mut rfl rfl)⟩ ?_
      rintro s ⟨h1, h2, h4, h6, h7, h8⟩
      refine .nsq ?_
      refine .seq ?_
      refine run_reg ?_
      refine e_end ?_
      refine g_v1 (t := 1) (u := (Enc.enc (aOrder_2 : List Int))) (Enc.enc (aOrder_2 : List Int)) h1 rfl rfl ?_
      obtain ⟨r_8, E_r_8, h⟩ := bind_some h
      refine g_call (m := 0) (al := false) (r := (Enc.enc (r_8 : (List Int)))) [Enc.enc (aOrder_2 : (List Int))] (ta_cons (v := (Enc.enc (aOrder_2 : List Int))) rfl rfl (Enc.erase_enc (aOrder_2 : (List Int))) ta_nil) (H.c18 _ _ E_r_8) H.g18 rfl rfl rfl rfl ?_
      refine g_v1 (t := 31) (u := (Enc.enc (r_8 : List Int))) (Enc.enc (r_8 : List Int)) rfl rfl rfl ?_
      refine g_end ?_
      refine e_end ?_
      refine renew [(1, (Enc.enc (aOrder_2 : List Int))), (2, (.ref (.bx 2) 0 [] (.agg [(.int .i64 aG_1.1), (Enc.enc (aG_1.2 : List (Int × Int)))]))), (4, (.bool false)), (6, (.int .i64 r_6.1)), (7, (.bool r_6.2)), (8, (.ref (.bx 8) 0 [] (.agg [(.int .i64 r_7.1), (Enc.enc (r_7.2 : List (Int × Int)))]))), (9, (Enc.enc (r_8 : List Int)))] ⟨h1, h2, h4, h6, h7, h8, rfl⟩ ?_
      rintro s ⟨h1, h2, h4, h6, h7, h8, h9⟩
      refine .nsq ?_
      refine .seq ?_
      refine run_reg ?_
      refine e_end ?_
      refine g_v1 (t := 8) (u := (.ref (.bx 8) 0 [] (.agg [(.int .i64 r_7.1), (Enc.enc (r_7.2 : List (Int × Int)))]))) (.agg [(.int .i64 r_7.1), (Enc.enc (r_7.2 : List (Int × Int)))]) h8 rfl rfl ?_
      refine g_v1 (t := 9) (u := (Enc.enc (r_8 : List Int))) (Enc.enc (r_8 : List Int)) h9 rfl rfl ?_
      obtain ⟨r_9, E_r_9, h⟩ := bind_some h
      refine g_call (m := 0) (al := false) (r := (.tup [Enc.enc (r_9.1 : Int), Enc.enc (r_9.2 : Bool)])) [Enc.enc (r_7 : (Int × (List (Int × Int)))), Enc.enc (r_8 : (List Int))] (ta_cons (v := (.agg [(.int .i64 r_7.1), (Enc.enc (r_7.2 : List (Int × Int)))])) rfl rfl (Enc.erase_enc (r_7 : (Int × (List (Int × Int))))) (ta_cons (v := (Enc.enc (r_8 : List Int))) rfl rfl (Enc.erase_enc (r_8 : (List Int))) ta_nil)) (H.c43 _ _ _ E_r_9) H.g43 rfl rfl rfl rfl ?_
      refine g_v1 (t := 35) (u := (.tup [(.int .i64 r_9.1), (.bool r_9.2)])) (.tup [(.int .i64 r_9.1), (.bool r_9.2)]) rfl rfl rfl ?_
      refine g_v1 (t := 32) (u := (.tup [(.int .i64 r_9.1), (.bool r_9.2)])) (.int .i64 r_9.1) rfl rfl rfl ?_
      refine g_v1 (t := 32) (u := (.tup [(.int .i64 r_9.1), (.bool r_9.2)])) (.bool r_9.2) rfl rfl rfl ?_
      refine g_v1 (t := 36) (u := (.int .i64 r_9.1)) (.int .i64 r_9.1) rfl rfl rfl ?_
      refine g_v1 (t := 37) (u := (.bool r_9.2)) (.bool r_9.2) rfl rfl rfl ?_
      refine g_end ?_
      refine e_end ?_
      refine renew [(1, (Enc.enc (aOrder_2 : List Int))), (2, (.ref (.bx 2) 0 [] (.agg [(.int .i64 aG_1.1), (Enc.enc (aG_1.2 : List (Int × Int)))]))), (4, (.bool false)), (6, (.int .i64 r_6.1)), (7, (.bool r_6.2)), (8, (.ref (.bx 8) 0 [] (.agg [(.int .i64 r_7.1), (Enc.enc (r_7.2 : List (Int × Int)))]))), (9, (Enc.enc (r_8 : List Int))), (10, (.int .i64 r_9.1)), (11, (.bool r_9.2))] ⟨h1, h2, h4, h6, h7, h8, h9, rfl, rfl⟩ ?_
      rintro s ⟨h1, h2, h4, h6, h7, h8, h9, h10, h11⟩
      refine .nsq ?_
      refine .seq ?_
      refine .seq ?_
      refine run_reg ?_
      refine e_end ?_
      refine g_v1 (t := 10) (u := (.int .i64 r_9.1)) (.int .i64 r_9.1) h10 rfl rfl ?_
      refine g_v1 (t := 6) (u := (.int .i64 r_6.1)) (.int .i64 r_6.1) h6 rfl rfl ?_
      refine g_v2 (t1 := 38) (t2 := 39) (u1 := (.int .i64 r_9.1)) (u2 := (.int .i64 r_6.1)) (.bool (r_9.1 != r_6.1)) rfl rfl rfl rfl ?_
      refine g_v1 (t := 40) (u := (.bool (r_9.1 != r_6.1))) (.bool (r_9.1 != r_6.1)) rfl rfl rfl ?_
      refine split_on (c := (r_9.1 != r_6.1)) h (fun hg4 h => ?_) (fun hg4 h => ?_)
      · refine g_no (Eq.trans (b := .bool (r_9.1 != r_6.1)) rfl (congrArg V.bool hg4)) ?_
        refine g_no (Eq.trans (b := .bool (r_9.1 != r_6.1)) rfl (congrArg V.bool hg4)) ?_
        refine g_no (Eq.trans (b := .bool (r_9.1 != r_6.1)) rfl (congrArg V.bool hg4)) ?_
        refine g_v2 (t1 := 41) (t2 := 44) (u1 := (.bool true)) (u2 := (.tup [])) (.bool true) (Eq.trans (b := .bool (r_9.1 != r_6.1)) rfl (congrArg V.bool hg4)) rfl rfl rfl ?_
        refine g_end ?_
        refine e_end ?_
        refine renew [(1, (Enc.enc (aOrder_2 : List Int))), (2, (.ref (.bx 2) 0 [] (.agg [(.int .i64 aG_1.1), (Enc.enc (aG_1.2 : List (Int × Int)))]))), (4, (.bool false)), (8, (.ref (.bx 8) 0 [] (.agg [(.int .i64 r_7.1), (Enc.enc (r_7.2 : List (Int × Int)))]))), (9, (Enc.enc (r_8 : List Int))), (45, (.bool true))] ⟨h1, h2, h4, h8, h9, rfl⟩ ?_
        rintro s ⟨h1, h2, h4, h8, h9, h45⟩
        exact t_f14_j1 H aOrder_2 aG_1 r_7 r_8 true _ ⟨h1, h2, h4, h8, h9, h45⟩ h
      · refine g_yes (Eq.trans (b := .bool (r_9.1 != r_6.1)) rfl (congrArg V.bool hg4)) (g_v1 (t := 11) (u := (.bool r_9.2)) (.bool r_9.2) h11 rfl rfl ?_)
        refine g_yes (Eq.trans (b := .bool (r_9.1 != r_6.1)) rfl (congrArg V.bool hg4)) (g_v1 (t := 7) (u := (.bool r_6.2)) (.bool r_6.2) h7 rfl rfl ?_)
        refine g_yes (Eq.trans (b := .bool (r_9.1 != r_6.1)) rfl (congrArg V.bool hg4)) (g_v2 (t1 := 42) (t2 := 43) (u1 := (.bool r_9.2)) (u2 := (.bool r_6.2)) (.bool (r_9.2 != r_6.2)) rfl rfl rfl rfl ?_)
        refine g_v2 (t1 := 41) (t2 := 44) (u1 := (.bool false)) (u2 := (.bool (r_9.2 != r_6.2))) (.bool (r_9.2 != r_6.2)) (Eq.trans (b := .bool (r_9.1 != r_6.1)) rfl (congrArg V.bool hg4)) rfl rfl rfl ?_
        refine g_end ?_
        refine e_end ?_
        refine renew [(1, (Enc.enc (aOrder_2 : List Int))), (2, (.ref (.bx 2) 0 [] (.agg [(.int .i64 aG_1.1), (Enc.enc (aG_1.2 : List (Int × Int)))]))), (4, (.bool false)), (8, (.ref (.bx 8) 0 [] (.agg [(.int .i64 r_7.1), (Enc.enc (r_7.2 : List (Int × Int)))]))), (9, (Enc.enc (r_8 : List Int))), (45, (.bool (r_9.2 != r_6.2)))] ⟨h1, h2, h4, h8, h9, rfl⟩ ?_
        rintro s ⟨h1, h2, h4, h8, h9, h45⟩
        exact t_f14_j1 H aOrder_2 aG_1 r_7 r_8 (r_9.2 != r_6.2) _ ⟨h1, h2, h4, h8, h9, h45⟩ h
end
def e14 (F : Nat) : Ent := ⟨14, da (fun (x : ((Int × (List (Int × Int))) × (List Int) × Unit)) => w_FnExactEliminationWidth F x.1 x.2.1) (fun (r : Bool) => (Enc.enc (r : Bool))), 0, false, selF []⟩
theorem p14 {F : Nat} {x0 : (Int × (List (Int × Int)))} {x1 : (List Int)} {r : Bool} (h : w_FnExactEliminationWidth F x0 x1 = some r) : (e14 F).den [Enc.enc x0, Enc.enc x1] = some (Enc.enc (r : Bool)) := da_put (f := fun (x : ((Int × (List (Int × Int))) × (List Int) × Unit)) => w_FnExactEliminationWidth F x.1 x.2.1) (t := fun (r : Bool) => (Enc.enc (r : Bool))) (x0, x1, ()) h
theorem o14 {D : Den} {σ : Sig} {F : Nat} (hF : Fits2 Try.prog D σ) (H : H14 D σ F) : (e14 F).Ok Try.prog := by
  refine ok_of (f := 14) (show unk 14 = 14 from rfl) (fun args r h => ?_) ⟨Try.f14, Try.func14, rfl, rfl⟩
  obtain ⟨⟨x0, x1, _⟩, y, rfl, hy, rfl⟩ := da_open h
  exact contract_run hF (by kernel_rfl) Try.func14 rfl c14 (show 2 ≤ Try.f14.ntmps by decide) (t14 H x0 x1 _ ⟨rfl, rfl⟩ hy)
end Go.Zq
