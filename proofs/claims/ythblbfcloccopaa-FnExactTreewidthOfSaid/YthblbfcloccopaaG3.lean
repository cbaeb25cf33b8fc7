/- Functions of the program as typed functions, and that the machine runs as they say (part 3). No further condition. -/
import Derived.Test.YthblbfcloccopaaK2
import Derived.Test.YthblbfcloccopaaProg
import Derived.Test.YthblbfcloccopaaChecked
import Derived.KernelRfl
import Derived.Test.YthblbfcloccopaaG2
set_option linter.unusedVariables false
set_option linter.unusedSimpArgs false
/- Functions of the program, as typed functions, and that the machine runs as they say. -/
namespace Go.Zq
open Go.Proofs
/- (loop.example/g01109/impl.net).bestOrders -/
def A106s1_2 : AC := (AC.cond (O.t 19) AC.skip (AC.exit 0))
def A106s1_11 : AC := (AC.cond (O.t 58) (AC.reg [] [(I.mk (some 59) none false (X.v (A.mov (O.t 7)))), (I.mk (some 60) none false (X.v (A.mov (O.t 8)))), (I.mk (some 61) none false (X.v (A.mov (O.t 11)))), (I.mk (some 62) none false (X.v (A.idx (O.t 59) (O.t 60) 1))), (I.mk none none false (X.store Sh.s (O.t 62) (O.t 61)))] []) AC.skip)
def A106s1_10 : AC := (AC.seq (AC.reg [] [(I.mk (some 49) none false (X.v (A.mov (O.t 9)))), (I.mk (some 50) none false (X.v (A.bin BinOp.eql (O.t 49) (O.k (V.int IntKind.i64 (Int.ofNat 0)))))), (I.mk (some 51) none false (X.v (A.mov (O.t 50)))), (I.mk (some 52) (some (51, false)) false (X.v (A.mov (O.t 11)))), (I.mk (some 53) (some (51, false)) false (X.v (A.mov (O.t 7)))), (I.mk (some 54) (some (51, false)) false (X.v (A.mov (O.t 8)))), (I.mk (some 55) (some (51, false)) false (X.v (A.idx (O.t 53) (O.t 54) 1))), (I.mk (some 56) (some (51, false)) false (X.v (A.load Sh.s (O.t 55)))), (I.mk (some 57) (some (51, false)) false (X.v (A.bin BinOp.lss (O.t 52) (O.t 56)))), (I.mk (some 58) none false (X.v (A.pick (O.t 51) (O.k (V.bool true)) (O.t 57))))] []) A106s1_11)
def A106s1_9 : AC := (AC.seq (AC.reg [] [(I.mk (some 37) none false (X.v (A.mov (O.t 2)))), (I.mk (some 38) none false (X.v (A.mov (O.t 8)))), (I.mk (some 39) none false (X.v (A.mov (O.t 10)))), (I.mk (some 40) none false (X.call (O.t 37) [(O.t 38), (O.t 39)])), (I.mk (some 41) none false (X.v (A.mov (O.t 7)))), (I.mk (some 42) none false (X.v (A.mov (O.t 8)))), (I.mk (some 43) none false (X.v (A.mov (O.t 10)))), (I.mk (some 44) none false (X.v (A.bin BinOp.shl (O.k (V.int IntKind.i64 (Int.ofNat 1))) (O.t 43)))), (I.mk (some 45) none false (X.v (A.bin BinOp.or (O.t 42) (O.t 44)))), (I.mk (some 46) none false (X.v (A.idx (O.t 41) (O.t 45) 1))), (I.mk (some 47) none false (X.v (A.load Sh.s (O.t 46)))), (I.mk (some 48) none false (X.v (A.mx [(O.t 40), (O.t 47)]))), (I.mk (some 11) none false (X.v (A.mov (O.t 48))))] []) A106s1_10)
def A106s1_12 : AC := (AC.reg [] [(I.mk (some 63) none false (X.v (A.bin BinOp.add (O.t 32) (O.k (V.int IntKind.i64 (Int.ofNat 1)))))), (I.mk (some 32) none false (X.v (A.mov (O.t 63))))] [])
def A106s1_8 : AC := (AC.seq (AC.block 3 (AC.seq (AC.reg [] [(I.mk (some 34) none false (X.v (A.mov (O.t 32)))), (I.mk (some 35) none false (X.v (A.idx (O.t 30) (O.t 32) 1))), (I.mk (some 36) none false (X.v (A.load Sh.s (O.t 35)))), (I.mk (some 9) none false (X.v (A.mov (O.t 34)))), (I.mk (some 10) none false (X.v (A.mov (O.t 36))))] []) A106s1_9)) A106s1_12)
def A106s1_7 : AC := (AC.seq (AC.cond (O.t 33) AC.skip (AC.exit 2)) A106s1_8)
def A106s1_6 : AC := (AC.seq (AC.reg [] [(I.mk (some 33) none false (X.v (A.bin BinOp.lss (O.t 32) (O.t 31))))] []) A106s1_7)
def A106s1_5 : AC := (AC.block 2 (AC.loop A106s1_6))
def A106s1_4 : AC := (AC.seq (AC.reg [] [(I.mk (some 26) none false (X.v (A.load (Sh.ag [Sh.p]) (O.t 3)))), (I.mk (some 27) none false (X.call (O.k (V.fn 68 [] [])) [(O.t 26)])), (I.mk (some 28) none false (X.v (A.mov (O.t 8)))), (I.mk (some 29) none false (X.v (A.bin BinOp.andNot (O.t 27) (O.t 28)))), (I.mk (some 30) none false (X.call (O.k (V.fn 121 [] [])) [(O.t 29)])), (I.mk (some 31) none false (X.v (A.len (O.t 30)))), (I.mk (some 32) none false (X.v (A.mov (O.k (V.int IntKind.i64 (Int.ofNat 0))))))] []) A106s1_5)
def A106s1_13 : AC := (AC.reg [] [(I.mk (some 20) none false (X.v (A.mov (O.t 8)))), (I.mk (some 21) none false (X.v (A.bin BinOp.sub (O.t 20) (O.k (V.int IntKind.i64 (Int.ofNat 1)))))), (I.mk (some 8) none false (X.v (A.mov (O.t 21))))] [])
def A106s1_3 : AC := (AC.seq (AC.block 1 (AC.seq (AC.reg [] [(I.mk (some 22) none false (X.v (A.mov (O.t 7)))), (I.mk (some 23) none false (X.v (A.mov (O.t 8)))), (I.mk (some 24) none false (X.v (A.mov (O.t 1)))), (I.mk (some 25) none false (X.v (A.idx (O.t 22) (O.t 23) 1))), (I.mk none none false (X.store Sh.s (O.t 25) (O.t 24)))] []) A106s1_4)) A106s1_13)
def A106s1_1 : AC := (AC.seq (AC.seq (AC.reg [] [(I.mk (some 18) none false (X.v (A.mov (O.t 8)))), (I.mk (some 19) none false (X.v (A.bin BinOp.geq (O.t 18) (O.k (V.int IntKind.i64 (Int.ofNat 0))))))] []) A106s1_2) A106s1_3)
def A106s1_14 : AC := (AC.seq (AC.reg [] [(I.mk (some 64) none false (X.v (A.mov (O.t 7)))), (I.mk (some 6) none false (X.v (A.mov (O.t 64))))] [.home 7 6]) AC.ret)
def A106s1_17 : AC := (AC.block 0 (AC.loop A106s1_1))
def A106s1_16 : AC := (AC.seq (AC.seq (AC.reg [] [(I.mk (some 16) none false (X.v (A.load (Sh.ag [Sh.p]) (O.t 3)))), (I.mk (some 17) none false (X.call (O.k (V.fn 68 [] [])) [(O.t 16)])), (I.mk (some 8) none false (X.v (A.mov (O.t 17))))] []) A106s1_17) A106s1_14)
def A106s1_15 : AC := (AC.seq (AC.reg [.clr [15]] [(I.mk (some 12) none false (X.v (A.load (Sh.ag [Sh.p]) (O.t 3)))), (I.mk (some 13) none false (X.call (O.k (V.fn 68 [] [])) [(O.t 12)])), (I.mk (some 14) none false (X.v (A.bin BinOp.add (O.t 13) (O.k (V.int IntKind.i64 (Int.ofNat 1)))))), (I.mk (some 15) none false (X.mk (O.t 14) (V.int IntKind.i64 (Int.ofNat 0)))), (I.mk (some 7) none false (X.v (A.mov (O.t 15))))] [.home 15 7]) A106s1_16)
def A106s1 : AC := (AC.seq (AC.reg [.clr [3]] [(I.mk (some 3) none false (X.box (O.t 0))), (I.mk (some 6) none false (X.v (A.mov (O.k (V.sl Tok.nl Sh.s 0 [])))))] []) A106s1_15)
def an106s1 : List An := [{ id := 0, pre := [.clr [3]], ep := [], lin := [], sp := [] }, { id := 1, pre := [.clr [15]], ep := [.home 15 7], lin := [], sp := [] }, { id := 13, pre := [], ep := [.home 7 6], lin := [], sp := [] }]
theorem c106s1 : cC Try.prog Try.f106.ntmps an106s1 (Try.f106.body.getD .skip) = some A106s1 := by kernel_rfl
structure H106s1 (D : Den) (σ : Sig) (F : Nat) : Prop where
  c68 : ∀ (x0 : (S1 (List Int))) r, i_net_all F x0 = some r → D 68 [Enc.enc x0] = some (Enc.enc (r : Int))
  g68 : σ 68 = some (0, false)
  c121 : ∀ (x0 : Int) r, i_setOf F x0 = some r → D 121 [Enc.enc x0] = some (Enc.enc (r : (List Int)))
  g121 : σ 121 = some (0, false)
  c134 : ∀ (x0 : (S1 (List Int))) (x1 : Int) (x2 : Int) r, i_net_eliminated F x0 x1 x2 = some r → D 134 [Enc.enc x0, Enc.enc x1, Enc.enc x2] = some (Enc.enc (r : Int))
  g134 : σ 134 = some (0, false)
abbrev R106s1 (r : (List Int)) : (Nat → V) → Prop := RR Try.prog [.tmp 6] 0 false (Enc.enc (r : (List Int)))
section
variable {D : Den} {σ : Sig} {F : Nat} {r : (List Int)}
def i_net_bestOrders_of_i_net_eliminated_j1 (F : Nat) (none_2 : Int) (cost_3 : (Cl 134 ((S1 (List Int)) × Unit) Unit)) (w_1 : (S1 (List Int))) (set_43 : Int) (r_81 : (List Int)) (t32_93 : Int) (c1 : (List Int) → Int → Option (List Int)) (c4 : (List Int) → Int → Option (List Int)) (best_111 : (List Int)) : Option (List Int) :=
  c4 best_111 (w64 (t32_93 + 1))
theorem t_f106s1_j1 (H : H106s1 D σ F) (none_2 : Int) (cost_3 : (Cl 134 ((S1 (List Int)) × Unit) Unit)) (w_1 : (S1 (List Int))) (set_43 : Int) (r_81 : (List Int)) (t32_93 : Int) (c1 : (List Int) → Int → Option (List Int)) (Hc1 : ∀ (best_42 : (List Int)) (set_43 : Int) (s : Nat → V), Facts [(1, (.int .i64 none_2)), (2, (.fn 134 [(.agg [(Enc.enc (cost_3.fs.1.a : List Int))])] [])), (3, (.ref (.bx 3) 0 [] (.agg [(Enc.enc (w_1.a : List Int))]))), (6, (.sl .nl (Enc.shp Int) 0 [])), (7, (encO (.at 7 []) (.of (best_42 : List Int)))), (8, (.int .i64 set_43))] s → c1 best_42 set_43 = some r → Run D σ (R106s1 r) (.run A106s1_1 [.lp A106s1_1, .bk 0, .sq A106s1_14]) s) (c4 : (List Int) → Int → Option (List Int)) (Hc4 : ∀ (best_92 : (List Int)) (t32_93 : Int) (s : Nat → V), Facts [(1, (.int .i64 none_2)), (2, (.fn 134 [(.agg [(Enc.enc (cost_3.fs.1.a : List Int))])] [])), (3, (.ref (.bx 3) 0 [] (.agg [(Enc.enc (w_1.a : List Int))]))), (6, (.sl .nl (Enc.shp Int) 0 [])), (7, (encO (.at 7 []) (.of (best_92 : List Int)))), (8, (.int .i64 set_43)), (30, (Enc.enc (r_81 : List Int))), (31, (.int .i64 (r_81.length : Int))), (32, (.int .i64 t32_93))] s → c4 best_92 t32_93 = some r → Run D σ (R106s1 r) (.run A106s1_6 [.lp A106s1_6, .bk 2, .bk 1, .sq A106s1_13, .lp A106s1_1, .bk 0, .sq A106s1_14]) s) (best_111 : (List Int)) (s : Nat → V) (hs : Facts [(1, (.int .i64 none_2)), (2, (.fn 134 [(.agg [(Enc.enc (cost_3.fs.1.a : List Int))])] [])), (3, (.ref (.bx 3) 0 [] (.agg [(Enc.enc (w_1.a : List Int))]))), (6, (.sl .nl (Enc.shp Int) 0 [])), (7, (encO (.at 7 []) (.of (best_111 : List Int)))), (8, (.int .i64 set_43)), (30, (Enc.enc (r_81 : List Int))), (31, (.int .i64 (r_81.length : Int))), (32, (.int .i64 t32_93))] s) (h : i_net_bestOrders_of_i_net_eliminated_j1 F none_2 cost_3 w_1 set_43 r_81 t32_93 c1 c4 best_111 = some r) : Run D σ (R106s1 r) (.nrm [.bk 3, .sq A106s1_12, .lp A106s1_6, .bk 2, .bk 1, .sq A106s1_13, .lp A106s1_1, .bk 0, .sq A106s1_14]) s := by
  unfold i_net_bestOrders_of_i_net_eliminated_j1 at h
  obtain ⟨h1, h2, h3, h6, h7, h8, h30, h31, h32⟩ := hs
  refine .nbk ?_
  refine .nsq ?_
  refine run_reg ?_
  refine e_end ?_
  refine g_v1 (t := 32) (u := (.int .i64 t32_93)) (.int .i64 (w64 (t32_93 + 1))) h32 rfl rfl ?_
  refine g_v1 (t := 63) (u := (.int .i64 (w64 (t32_93 + 1)))) (.int .i64 (w64 (t32_93 + 1))) rfl rfl rfl ?_
  refine g_end ?_
  refine e_end ?_
  refine renew [(1, (.int .i64 none_2)), (2, (.fn 134 [(.agg [(Enc.enc (cost_3.fs.1.a : List Int))])] [])), (3, (.ref (.bx 3) 0 [] (.agg [(Enc.enc (w_1.a : List Int))]))), (6, (.sl .nl (Enc.shp Int) 0 [])), (7, (encO (.at 7 []) (.of (best_111 : List Int)))), (8, (.int .i64 set_43)), (30, (Enc.enc (r_81 : List Int))), (31, (.int .i64 (r_81.length : Int))), (32, (.int .i64 (w64 (t32_93 + 1))))] ⟨h1, h2, h3, h6, h7, h8, h30, h31, rfl⟩ ?_
  rintro s ⟨h1, h2, h3, h6, h7, h8, h30, h31, h32⟩
  refine .nlp ?_
  exact Hc4 best_111 (w64 (t32_93 + 1)) _ ⟨h1, h2, h3, h6, h7, h8, h30, h31, h32⟩ h
def i_net_bestOrders_of_i_net_eliminated_j2 (F : Nat) (none_2 : Int) (cost_3 : (Cl 134 ((S1 (List Int)) × Unit) Unit)) (w_1 : (S1 (List Int))) (best_92 : (List Int)) (set_43 : Int) (e_107 : Int) (r_105 : Int) (r_81 : (List Int)) (t32_93 : Int) (c1 : (List Int) → Int → Option (List Int)) (c4 : (List Int) → Int → Option (List Int)) (t58_109 : Bool) : Option (List Int) :=
  bif t58_109 then
    (idx best_92 set_43).bind fun e_112 =>
    i_net_bestOrders_of_i_net_eliminated_j1 F none_2 cost_3 w_1 set_43 r_81 t32_93 c1 c4 (best_92.set set_43.toNat (if e_107 > r_105 then e_107 else r_105))
  else
    i_net_bestOrders_of_i_net_eliminated_j1 F none_2 cost_3 w_1 set_43 r_81 t32_93 c1 c4 best_92
theorem t_f106s1_j2 (H : H106s1 D σ F) (none_2 : Int) (cost_3 : (Cl 134 ((S1 (List Int)) × Unit) Unit)) (w_1 : (S1 (List Int))) (best_92 : (List Int)) (set_43 : Int) (e_107 : Int) (r_105 : Int) (r_81 : (List Int)) (t32_93 : Int) (c1 : (List Int) → Int → Option (List Int)) (Hc1 : ∀ (best_42 : (List Int)) (set_43 : Int) (s : Nat → V), Facts [(1, (.int .i64 none_2)), (2, (.fn 134 [(.agg [(Enc.enc (cost_3.fs.1.a : List Int))])] [])), (3, (.ref (.bx 3) 0 [] (.agg [(Enc.enc (w_1.a : List Int))]))), (6, (.sl .nl (Enc.shp Int) 0 [])), (7, (encO (.at 7 []) (.of (best_42 : List Int)))), (8, (.int .i64 set_43))] s → c1 best_42 set_43 = some r → Run D σ (R106s1 r) (.run A106s1_1 [.lp A106s1_1, .bk 0, .sq A106s1_14]) s) (c4 : (List Int) → Int → Option (List Int)) (Hc4 : ∀ (best_92 : (List Int)) (t32_93 : Int) (s : Nat → V), Facts [(1, (.int .i64 none_2)), (2, (.fn 134 [(.agg [(Enc.enc (cost_3.fs.1.a : List Int))])] [])), (3, (.ref (.bx 3) 0 [] (.agg [(Enc.enc (w_1.a : List Int))]))), (6, (.sl .nl (Enc.shp Int) 0 [])), (7, (encO (.at 7 []) (.of (best_92 : List Int)))), (8, (.int .i64 set_43)), (30, (Enc.enc (r_81 : List Int))), (31, (.int .i64 (r_81.length : Int))), (32, (.int .i64 t32_93))] s → c4 best_92 t32_93 = some r → Run D σ (R106s1 r) (.run A106s1_6 [.lp A106s1_6, .bk 2, .bk 1, .sq A106s1_13, .lp A106s1_1, .bk 0, .sq A106s1_14]) s) (t58_109 : Bool) (s : Nat → V) (hs : Facts [(1, (.int .i64 none_2)), (2, (.fn 134 [(.agg [(Enc.enc (cost_3.fs.1.a : List Int))])] [])), (3, (.ref (.bx 3) 0 [] (.agg [(Enc.enc (w_1.a : List Int))]))), (6, (.sl .nl (Enc.shp Int) 0 [])), (7, (encO (.at 7 []) (.of (best_92 : List Int)))), (8, (.int .i64 set_43)), (11, (.int .i64 (if e_107 > r_105 then e_107 else r_105))), (30, (Enc.enc (r_81 : List Int))), (31, (.int .i64 (r_81.length : Int))), (32, (.int .i64 t32_93)), (58, (.bool t58_109))] s) (h : i_net_bestOrders_of_i_net_eliminated_j2 F none_2 cost_3 w_1 best_92 set_43 e_107 r_105 r_81 t32_93 c1 c4 t58_109 = some r) : Run D σ (R106s1 r) (.nrm [.sq A106s1_11, .bk 3, .sq A106s1_12, .lp A106s1_6, .bk 2, .bk 1, .sq A106s1_13, .lp A106s1_1, .bk 0, .sq A106s1_14]) s := by
  unfold i_net_bestOrders_of_i_net_eliminated_j2 at h
  obtain ⟨h1, h2, h3, h6, h7, h8, h11, h30, h31, h32, h58⟩ := hs
  refine .nsq ?_
  refine run_cond (t := t58_109) h58 h (fun h => ?_) (fun h => ?_)
  · refine run_reg ?_
    refine e_end ?_
    refine g_v1 (t := 7) (u := (encO (.at 7 []) (.of (best_92 : List Int)))) (encO (.at 7 []) (.of (best_92 : List Int))) h7 rfl rfl ?_
    refine g_v1 (t := 8) (u := (.int .i64 set_43)) (.int .i64 set_43) h8 rfl rfl ?_
    refine g_v1 (t := 11) (u := (.int .i64 (if e_107 > r_105 then e_107 else r_105))) (.int .i64 (if e_107 > r_105 then e_107 else r_105)) h11 rfl rfl ?_
    obtain ⟨e_112, E_e_112, h⟩ := bind_some h
    refine g_v (.ref (.at 7 []) set_43.toNat [] (.int .i64 e_112)) (ev_idxO (o := (.of best_92)) rfl rfl E_e_112 rfl) ?_
    refine g_store (.int .i64 (if e_107 > r_105 then e_107 else r_105)) (rd_of rfl rfl) (rd_of rfl rfl) (by refine ⟨by decide, by decide, rfl, rfl, rfl, ?_⟩; first | rfl | simp [V.toks, V.tokss, Enc.toks_enc]) ?_
    refine g_end ?_
    refine e_end ?_
    refine renew [(1, (.int .i64 none_2)), (2, (.fn 134 [(.agg [(Enc.enc (cost_3.fs.1.a : List Int))])] [])), (3, (.ref (.bx 3) 0 [] (.agg [(Enc.enc (w_1.a : List Int))]))), (6, (.sl .nl (Enc.shp Int) 0 [])), (7, (encO (.at 7 []) (.of (best_92.set set_43.toNat (if e_107 > r_105 then e_107 else r_105) : List Int)))), (8, (.int .i64 set_43)), (30, (Enc.enc (r_81 : List Int))), (31, (.int .i64 (r_81.length : Int))), (32, (.int .i64 t32_93))] ⟨(keep_mut h1 rfl), (keep_mut h2 (mut_fn (muts_cons (mut_agg (muts_cons (Enc.mut_enc _ _ _ _ (cost_3.fs.1.a : List Int)) rfl)) rfl) rfl)), (keep_mut h3 (mut_ref_ne rfl rfl (mut_agg (muts_cons (Enc.mut_enc _ _ _ _ (w_1.a : List Int)) rfl)))), (keep_mut h6 rfl), (keep_mut h7 mut_own), (keep_mut h8 rfl), (keep_mut h30 (Enc.mut_enc _ _ _ _ (r_81 : List Int))), (keep_mut h31 rfl), (keep_mut h32 rfl)⟩ ?_
    rintro s ⟨h1, h2, h3, h6, h7, h8, h30, h31, h32⟩
    exact t_f106s1_j1 H none_2 cost_3 w_1 set_43 r_81 t32_93 c1 Hc1 c4 Hc4 (best_92.set set_43.toNat (if e_107 > r_105 then e_107 else r_105)) _ ⟨h1, h2, h3, h6, h7, h8, h30, h31, h32⟩ h
  · refine .skip ?_
    exact t_f106s1_j1 H none_2 cost_3 w_1 set_43 r_81 t32_93 c1 Hc1 c4 Hc4 best_92 _ ⟨h1, h2, h3, h6, h7, h8, h30, h31, h32⟩ h
def i_net_bestOrders_of_i_net_eliminated_l1 (F : Nat) (none_2 : Int) (cost_3 : (Cl 134 ((S1 (List Int)) × Unit) Unit)) (w_1 : (S1 (List Int))) (set_43 : Int) (r_81 : (List Int)) (c1 : (List Int) → Int → Option (List Int)) : Nat → (List Int) → Int → Option (List Int)
  | 0, _, _ => none
  | k + 1, best_92, t32_93 =>
    bif decide (t32_93 < (r_81.length : Int)) then
      (idx r_81 t32_93).bind fun e_104 =>
      (i_net_eliminated F cost_3.fs.1 set_43 e_104).bind fun r_105 =>
      (shlI .i64 1 e_104).bind fun q_106 =>
      (idx best_92 (ior .i64 set_43 q_106)).bind fun e_107 =>
      bif (t32_93 == 0) then
        i_net_bestOrders_of_i_net_eliminated_j2 F none_2 cost_3 w_1 best_92 set_43 e_107 r_105 r_81 t32_93 c1 (i_net_bestOrders_of_i_net_eliminated_l1 F none_2 cost_3 w_1 set_43 r_81 c1 k) true
      else
        (idx best_92 set_43).bind fun e_113 =>
        i_net_bestOrders_of_i_net_eliminated_j2 F none_2 cost_3 w_1 best_92 set_43 e_107 r_105 r_81 t32_93 c1 (i_net_bestOrders_of_i_net_eliminated_l1 F none_2 cost_3 w_1 set_43 r_81 c1 k) (decide ((if e_107 > r_105 then e_107 else r_105) < e_113))
    else
      c1 best_92 (w64 (set_43 - 1))
theorem t_f106s1_l1 (H : H106s1 D σ F) (none_2 : Int) (cost_3 : (Cl 134 ((S1 (List Int)) × Unit) Unit)) (w_1 : (S1 (List Int))) (set_43 : Int) (r_81 : (List Int)) (c1 : (List Int) → Int → Option (List Int)) (Hc1 : ∀ (best_42 : (List Int)) (set_43 : Int) (s : Nat → V), Facts [(1, (.int .i64 none_2)), (2, (.fn 134 [(.agg [(Enc.enc (cost_3.fs.1.a : List Int))])] [])), (3, (.ref (.bx 3) 0 [] (.agg [(Enc.enc (w_1.a : List Int))]))), (6, (.sl .nl (Enc.shp Int) 0 [])), (7, (encO (.at 7 []) (.of (best_42 : List Int)))), (8, (.int .i64 set_43))] s → c1 best_42 set_43 = some r → Run D σ (R106s1 r) (.run A106s1_1 [.lp A106s1_1, .bk 0, .sq A106s1_14]) s) : ∀ (k : Nat) (best_92 : (List Int)) (t32_93 : Int) (s : Nat → V), Facts [(1, (.int .i64 none_2)), (2, (.fn 134 [(.agg [(Enc.enc (cost_3.fs.1.a : List Int))])] [])), (3, (.ref (.bx 3) 0 [] (.agg [(Enc.enc (w_1.a : List Int))]))), (6, (.sl .nl (Enc.shp Int) 0 [])), (7, (encO (.at 7 []) (.of (best_92 : List Int)))), (8, (.int .i64 set_43)), (30, (Enc.enc (r_81 : List Int))), (31, (.int .i64 (r_81.length : Int))), (32, (.int .i64 t32_93))] s → i_net_bestOrders_of_i_net_eliminated_l1 F none_2 cost_3 w_1 set_43 r_81 c1 k best_92 t32_93 = some r → Run D σ (R106s1 r) (.run A106s1_6 [.lp A106s1_6, .bk 2, .bk 1, .sq A106s1_13, .lp A106s1_1, .bk 0, .sq A106s1_14]) s := by
  intro k
  induction k with
  | zero => intro best_92 t32_93 s _ h; exact nomatch (h : (none : Option _) = some r)
  | succ k ih =>
    intro best_92 t32_93 s hs h
    rw [i_net_bestOrders_of_i_net_eliminated_l1] at h
    obtain ⟨h1, h2, h3, h6, h7, h8, h30, h31, h32⟩ := hs
    refine .seq ?_
    refine run_reg ?_
    refine e_end ?_
    refine g_v2 (t1 := 32) (t2 := 31) (u1 := (.int .i64 t32_93)) (u2 := (.int .i64 (r_81.length : Int))) (.bool (decide (t32_93 < (r_81.length : Int)))) h32 h31 rfl rfl ?_
    refine g_end ?_
    refine e_end ?_
    refine renew [(1, (.int .i64 none_2)), (2, (.fn 134 [(.agg [(Enc.enc (cost_3.fs.1.a : List Int))])] [])), (3, (.ref (.bx 3) 0 [] (.agg [(Enc.enc (w_1.a : List Int))]))), (6, (.sl .nl (Enc.shp Int) 0 [])), (7, (encO (.at 7 []) (.of (best_92 : List Int)))), (8, (.int .i64 set_43)), (30, (Enc.enc (r_81 : List Int))), (31, (.int .i64 (r_81.length : Int))), (32, (.int .i64 t32_93)), (33, (.bool (decide (t32_93 < (r_81.length : Int)))))] ⟨h1, h2, h3, h6, h7, h8, h30, h31, h32, rfl⟩ ?_
    rintro s ⟨h1, h2, h3, h6, h7, h8, h30, h31, h32, h33⟩
    refine .nsq ?_
    refine .seq ?_
    refine run_cond (t := decide (t32_93 < (r_81.length : Int))) h33 h (fun h => ?_) (fun h => ?_)
    · refine .skip ?_
      refine .nsq ?_
      refine .seq ?_
      refine .block ?_
      refine .seq ?_
      refine run_reg ?_
      refine e_end ?_
      refine g_v1 (t := 32) (u := (.int .i64 t32_93)) (.int .i64 t32_93) h32 rfl rfl ?_
      obtain ⟨e_104, E_e_104, h⟩ := bind_some h
      refine g_v (.ref .sh 0 [] (.int .i64 e_104)) (ev_idx (t := .sh) (lo := 0) (xs := r_81) h30 h32 E_e_104 rfl rfl) ?_
      refine g_v1 (t := 35) (u := (.ref .sh 0 [] (.int .i64 e_104))) (.int .i64 e_104) rfl rfl rfl ?_
      refine g_v1 (t := 34) (u := (.int .i64 t32_93)) (.int .i64 t32_93) rfl rfl rfl ?_
      refine g_v1 (t := 36) (u := (.int .i64 e_104)) (.int .i64 e_104) rfl rfl rfl ?_
      refine g_end ?_
      refine e_end ?_
      refine renew [(1, (.int .i64 none_2)), (2, (.fn 134 [(.agg [(Enc.enc (cost_3.fs.1.a : List Int))])] [])), (3, (.ref (.bx 3) 0 [] (.agg [(Enc.enc (w_1.a : List Int))]))), (6, (.sl .nl (Enc.shp Int) 0 [])), (7, (encO (.at 7 []) (.of (best_92 : List Int)))), (8, (.int .i64 set_43)), (9, (.int .i64 t32_93)), (10, (.int .i64 e_104)), (30, (Enc.enc (r_81 : List Int))), (31, (.int .i64 (r_81.length : Int))), (32, (.int .i64 t32_93))] ⟨h1, h2, h3, h6, h7, h8, rfl, rfl, h30, h31, h32⟩ ?_
      rintro s ⟨h1, h2, h3, h6, h7, h8, h9, h10, h30, h31, h32⟩
      refine .nsq ?_
      refine .seq ?_
      refine run_reg ?_
      refine e_end ?_
      refine g_v1 (t := 2) (u := (.fn 134 [(.agg [(Enc.enc (cost_3.fs.1.a : List Int))])] [])) (.fn 134 [(.agg [(Enc.enc (cost_3.fs.1.a : List Int))])] []) h2 rfl rfl ?_
      refine g_v1 (t := 8) (u := (.int .i64 set_43)) (.int .i64 set_43) h8 rfl rfl ?_
      refine g_v1 (t := 10) (u := (.int .i64 e_104)) (.int .i64 e_104) h10 rfl rfl ?_
      obtain ⟨r_105, E_r_105, h⟩ := bind_some h
      refine g_callF (m := 0) (al := false) (r := (Enc.enc (r_105 : Int))) (fs := [(.agg [(Enc.enc (cost_3.fs.1.a : List Int))])]) (env := []) (us := [Enc.enc (cost_3.fs.1 : (S1 (List Int)))]) (ws := []) rfl (erases_cons (Enc.erase_enc (cost_3.fs.1 : (S1 (List Int)))) erases_nil) erases_nil rfl [Enc.enc (set_43 : Int), Enc.enc (e_104 : Int)] (ta_cons (v := (.int .i64 set_43)) rfl rfl rfl (ta_cons (v := (.int .i64 e_104)) rfl rfl rfl ta_nil)) (H.c134 _ _ _ _ E_r_105) H.g134 rfl rfl rfl rfl ?_
      refine g_v1 (t := 7) (u := (encO (.at 7 []) (.of (best_92 : List Int)))) (encO (.at 7 []) (.of (best_92 : List Int))) h7 rfl rfl ?_
      refine g_v1 (t := 8) (u := (.int .i64 set_43)) (.int .i64 set_43) h8 rfl rfl ?_
      refine g_v1 (t := 10) (u := (.int .i64 e_104)) (.int .i64 e_104) h10 rfl rfl ?_
      obtain ⟨q_106, E_q_106, h⟩ := bind_some h
      refine g_v (.int .i64 q_106) (ev_shl rfl rfl E_q_106) ?_
      refine g_v2 (t1 := 42) (t2 := 44) (u1 := (.int .i64 set_43)) (u2 := (.int .i64 q_106)) (.int .i64 (ior .i64 set_43 q_106)) rfl rfl rfl rfl ?_
      obtain ⟨e_107, E_e_107, h⟩ := bind_some h
      refine g_v (.ref (.at 7 []) ((ior .i64 set_43 q_106).toNat) [] (.int .i64 e_107)) (ev_idxO (o := (.of best_92)) rfl rfl E_e_107 rfl) ?_
      refine g_v1 (t := 46) (u := (.ref (.at 7 []) ((ior .i64 set_43 q_106).toNat) [] (.int .i64 e_107))) (.int .i64 e_107) rfl rfl rfl ?_
      refine g_v2 (t1 := 40) (t2 := 47) (u1 := (.int .i64 r_105)) (u2 := (.int .i64 e_107)) (.int .i64 (if e_107 > r_105 then e_107 else r_105)) rfl rfl rfl rfl ?_
      refine g_v1 (t := 48) (u := (.int .i64 (if e_107 > r_105 then e_107 else r_105))) (.int .i64 (if e_107 > r_105 then e_107 else r_105)) rfl rfl rfl ?_
      refine g_end ?_
      refine e_end ?_
      refine renew [(1, (.int .i64 none_2)), (2, (.fn 134 [(.agg [(Enc.enc (cost_3.fs.1.a : List Int))])] [])), (3, (.ref (.bx 3) 0 [] (.agg [(Enc.enc (w_1.a : List Int))]))), (6, (.sl .nl (Enc.shp Int) 0 [])), (7, (encO (.at 7 []) (.of (best_92 : List Int)))), (8, (.int .i64 set_43)), (9, (.int .i64 t32_93)), (11, (.int .i64 (if e_107 > r_105 then e_107 else r_105))), (30, (Enc.enc (r_81 : List Int))), (31, (.int .i64 (r_81.length : Int))), (32, (.int .i64 t32_93))] ⟨h1, h2, h3, h6, h7, h8, h9, rfl, h30, h31, h32⟩ ?_
      rintro s ⟨h1, h2, h3, h6, h7, h8, h9, h11, h30, h31, h32⟩
      refine .nsq ?_
      refine .seq ?_
      refine run_reg ?_
      refine e_end ?_
      refine g_v1 (t := 9) (u := (.int .i64 t32_93)) (.int .i64 t32_93) h9 rfl rfl ?_
      refine g_v1 (t := 49) (u := (.int .i64 t32_93)) (.bool (t32_93 == 0)) rfl rfl rfl ?_
      refine g_v1 (t := 50) (u := (.bool (t32_93 == 0))) (.bool (t32_93 == 0)) rfl rfl rfl ?_
      refine split_on (c := (t32_93 == 0)) h (fun hg3 h => ?_) (fun hg3 h => ?_)
      · refine g_no (Eq.trans (b := .bool (t32_93 == 0)) rfl (congrArg V.bool hg3)) ?_
        refine g_no (Eq.trans (b := .bool (t32_93 == 0)) rfl (congrArg V.bool hg3)) ?_
        refine g_no (Eq.trans (b := .bool (t32_93 == 0)) rfl (congrArg V.bool hg3)) ?_
        refine g_no (Eq.trans (b := .bool (t32_93 == 0)) rfl (congrArg V.bool hg3)) ?_
        refine g_no (Eq.trans (b := .bool (t32_93 == 0)) rfl (congrArg V.bool hg3)) ?_
        refine g_no (Eq.trans (b := .bool (t32_93 == 0)) rfl (congrArg V.bool hg3)) ?_
        refine g_v2 (t1 := 51) (t2 := 57) (u1 := (.bool true)) (u2 := (.tup [])) (.bool true) (Eq.trans (b := .bool (t32_93 == 0)) rfl (congrArg V.bool hg3)) rfl rfl rfl ?_
        refine g_end ?_
        refine e_end ?_
        refine renew [(1, (.int .i64 none_2)), (2, (.fn 134 [(.agg [(Enc.enc (cost_3.fs.1.a : List Int))])] [])), (3, (.ref (.bx 3) 0 [] (.agg [(Enc.enc (w_1.a : List Int))]))), (6, (.sl .nl (Enc.shp Int) 0 [])), (7, (encO (.at 7 []) (.of (best_92 : List Int)))), (8, (.int .i64 set_43)), (11, (.int .i64 (if e_107 > r_105 then e_107 else r_105))), (30, (Enc.enc (r_81 : List Int))), (31, (.int .i64 (r_81.length : Int))), (32, (.int .i64 t32_93)), (58, (.bool true))] ⟨h1, h2, h3, h6, h7, h8, h11, h30, h31, h32, rfl⟩ ?_
        rintro s ⟨h1, h2, h3, h6, h7, h8, h11, h30, h31, h32, h58⟩
        exact t_f106s1_j2 H none_2 cost_3 w_1 best_92 set_43 e_107 r_105 r_81 t32_93 c1 Hc1 (i_net_bestOrders_of_i_net_eliminated_l1 F none_2 cost_3 w_1 set_43 r_81 c1 k) ih true _ ⟨h1, h2, h3, h6, h7, h8, h11, h30, h31, h32, h58⟩ h
      · refine g_yes (Eq.trans (b := .bool (t32_93 == 0)) rfl (congrArg V.bool hg3)) (g_v1 (t := 11) (u := (.int .i64 (if e_107 > r_105 then e_107 else r_105))) (.int .i64 (if e_107 > r_105 then e_107 else r_105)) h11 rfl rfl ?_)
        refine g_yes (Eq.trans (b := .bool (t32_93 == 0)) rfl (congrArg V.bool hg3)) (g_v1 (t := 7) (u := (encO (.at 7 []) (.of (best_92 : List Int)))) (encO (.at 7 []) (.of (best_92 : List Int))) h7 rfl rfl ?_)
        refine g_yes (Eq.trans (b := .bool (t32_93 == 0)) rfl (congrArg V.bool hg3)) (g_v1 (t := 8) (u := (.int .i64 set_43)) (.int .i64 set_43) h8 rfl rfl ?_)
        obtain ⟨e_113, E_e_113, h⟩ := bind_some h
        refine g_yes (Eq.trans (b := .bool (t32_93 == 0)) rfl (congrArg V.bool hg3)) (g_v (.ref (.at 7 []) set_43.toNat [] (.int .i64 e_113)) (ev_idxO (o := (.of best_92)) rfl rfl E_e_113 rfl) ?_)
        refine g_yes (Eq.trans (b := .bool (t32_93 == 0)) rfl (congrArg V.bool hg3)) (g_v1 (t := 55) (u := (.ref (.at 7 []) set_43.toNat [] (.int .i64 e_113))) (.int .i64 e_113) rfl rfl rfl ?_)
        refine g_yes (Eq.trans (b := .bool (t32_93 == 0)) rfl (congrArg V.bool hg3)) (g_v2 (t1 := 52) (t2 := 56) (u1 := (.int .i64 (if e_107 > r_105 then e_107 else r_105))) (u2 := (.int .i64 e_113)) (.bool (decide ((if e_107 > r_105 then e_107 else r_105) < e_113))) rfl rfl rfl rfl ?_)
        refine g_v2 (t1 := 51) (t2 := 57) (u1 := (.bool false)) (u2 := (.bool (decide ((if e_107 > r_105 then e_107 else r_105) < e_113)))) (.bool (decide ((if e_107 > r_105 then e_107 else r_105) < e_113))) (Eq.trans (b := .bool (t32_93 == 0)) rfl (congrArg V.bool hg3)) rfl rfl rfl ?_
        refine g_end ?_
        refine e_end ?_
        refine renew [(1, (.int .i64 none_2)), (2, (.fn 134 [(.agg [(Enc.enc (cost_3.fs.1.a : List Int))])] [])), (3, (.ref (.bx 3) 0 [] (.agg [(Enc.enc (w_1.a : List Int))]))), (6, (.sl .nl (Enc.shp Int) 0 [])), (7, (encO (.at 7 []) (.of (best_92 : List Int)))), (8, (.int .i64 set_43)), (11, (.int .i64 (if e_107 > r_105 then e_107 else r_105))), (30, (Enc.enc (r_81 : List Int))), (31, (.int .i64 (r_81.length : Int))), (32, (.int .i64 t32_93)), (58, (.bool (decide ((if e_107 > r_105 then e_107 else r_105) < e_113))))] ⟨h1, h2, h3, h6, h7, h8, h11, h30, h31, h32, rfl⟩ ?_
        rintro s ⟨h1, h2, h3, h6, h7, h8, h11, h30, h31, h32, h58⟩
        exact t_f106s1_j2 H none_2 cost_3 w_1 best_92 set_43 e_107 r_105 r_81 t32_93 c1 Hc1 (i_net_bestOrders_of_i_net_eliminated_l1 F none_2 cost_3 w_1 set_43 r_81 c1 k) ih (decide ((if e_107 > r_105 then e_107 else r_105) < e_113)) _ ⟨h1, h2, h3, h6, h7, h8, h11, h30, h31, h32, h58⟩ h
    · refine .exit ?_
      refine .esq ?_
      refine .elp ?_
      refine .ebk ?_
      refine .nbk ?_
      refine .nsq ?_
      refine run_reg ?_
      refine e_end ?_
      refine g_v1 (t := 8) (u := (.int .i64 set_43)) (.int .i64 set_43) h8 rfl rfl ?_
      refine g_v1 (t := 20) (u := (.int .i64 set_43)) (.int .i64 (w64 (set_43 - 1))) rfl rfl rfl ?_
      refine g_v1 (t := 21) (u := (.int .i64 (w64 (set_43 - 1)))) (.int .i64 (w64 (set_43 - 1))) rfl rfl rfl ?_
      refine g_end ?_
      refine e_end ?_
      refine renew [(1, (.int .i64 none_2)), (2, (.fn 134 [(.agg [(Enc.enc (cost_3.fs.1.a : List Int))])] [])), (3, (.ref (.bx 3) 0 [] (.agg [(Enc.enc (w_1.a : List Int))]))), (6, (.sl .nl (Enc.shp Int) 0 [])), (7, (encO (.at 7 []) (.of (best_92 : List Int)))), (8, (.int .i64 (w64 (set_43 - 1))))] ⟨h1, h2, h3, h6, h7, rfl⟩ ?_
      rintro s ⟨h1, h2, h3, h6, h7, h8⟩
      refine .nlp ?_
      exact Hc1 best_92 (w64 (set_43 - 1)) _ ⟨h1, h2, h3, h6, h7, h8⟩ h
def i_net_bestOrders_of_i_net_eliminated_l2 (F : Nat) (none_2 : Int) (cost_3 : (Cl 134 ((S1 (List Int)) × Unit) Unit)) (w_1 : (S1 (List Int)))  : Nat → (List Int) → Int → Option (List Int)
  | 0, _, _ => none
  | k + 1, best_42, set_43 =>
    bif decide (set_43 ≥ 0) then
      (idx best_42 set_43).bind fun e_79 =>
      (i_net_all F w_1).bind fun r_80 =>
      (i_setOf F (iandNot .i64 r_80 set_43)).bind fun r_81 =>
      i_net_bestOrders_of_i_net_eliminated_l1 F none_2 cost_3 w_1 set_43 r_81 (i_net_bestOrders_of_i_net_eliminated_l2 F none_2 cost_3 w_1 k) F (best_42.set set_43.toNat none_2) 0
    else
      some best_42
theorem t_f106s1_l2 (H : H106s1 D σ F) (none_2 : Int) (cost_3 : (Cl 134 ((S1 (List Int)) × Unit) Unit)) (w_1 : (S1 (List Int)))  : ∀ (k : Nat) (best_42 : (List Int)) (set_43 : Int) (s : Nat → V), Facts [(1, (.int .i64 none_2)), (2, (.fn 134 [(.agg [(Enc.enc (cost_3.fs.1.a : List Int))])] [])), (3, (.ref (.bx 3) 0 [] (.agg [(Enc.enc (w_1.a : List Int))]))), (6, (.sl .nl (Enc.shp Int) 0 [])), (7, (encO (.at 7 []) (.of (best_42 : List Int)))), (8, (.int .i64 set_43))] s → i_net_bestOrders_of_i_net_eliminated_l2 F none_2 cost_3 w_1 k best_42 set_43 = some r → Run D σ (R106s1 r) (.run A106s1_1 [.lp A106s1_1, .bk 0, .sq A106s1_14]) s := by
  intro k
  induction k with
  | zero => intro best_42 set_43 s _ h; exact nomatch (h : (none : Option _) = some r)
  | succ k ih =>
    intro best_42 set_43 s hs h
    rw [i_net_bestOrders_of_i_net_eliminated_l2] at h
    obtain ⟨h1, h2, h3, h6, h7, h8⟩ := hs
    refine .seq ?_
    refine .seq ?_
    refine run_reg ?_
    refine e_end ?_
    refine g_v1 (t := 8) (u := (.int .i64 set_43)) (.int .i64 set_43) h8 rfl rfl ?_
    refine g_v1 (t := 18) (u := (.int .i64 set_43)) (.bool (decide (set_43 ≥ 0))) rfl rfl rfl ?_
    refine g_end ?_
    refine e_end ?_
    refine renew [(1, (.int .i64 none_2)), (2, (.fn 134 [(.agg [(Enc.enc (cost_3.fs.1.a : List Int))])] [])), (3, (.ref (.bx 3) 0 [] (.agg [(Enc.enc (w_1.a : List Int))]))), (6, (.sl .nl (Enc.shp Int) 0 [])), (7, (encO (.at 7 []) (.of (best_42 : List Int)))), (8, (.int .i64 set_43)), (19, (.bool (decide (set_43 ≥ 0))))] ⟨h1, h2, h3, h6, h7, h8, rfl⟩ ?_
    rintro s ⟨h1, h2, h3, h6, h7, h8, h19⟩
    refine .nsq ?_
    refine run_cond (t := decide (set_43 ≥ 0)) h19 h (fun h => ?_) (fun h => ?_)
    · refine .skip ?_
      refine .nsq ?_
      refine .seq ?_
      refine .block ?_
      refine .seq ?_
      refine run_reg ?_
      refine e_end ?_
      refine g_v1 (t := 7) (u := (encO (.at 7 []) (.of (best_42 : List Int)))) (encO (.at 7 []) (.of (best_42 : List Int))) h7 rfl rfl ?_
      refine g_v1 (t := 8) (u := (.int .i64 set_43)) (.int .i64 set_43) h8 rfl rfl ?_
      refine g_v1 (t := 1) (u := (.int .i64 none_2)) (.int .i64 none_2) h1 rfl rfl ?_
      obtain ⟨e_79, E_e_79, h⟩ := bind_some h
      refine g_v (.ref (.at 7 []) set_43.toNat [] (.int .i64 e_79)) (ev_idxO (o := (.of best_42)) rfl rfl E_e_79 rfl) ?_
      refine g_store (.int .i64 none_2) (rd_of rfl rfl) (rd_of rfl rfl) (by refine ⟨by decide, by decide, rfl, rfl, rfl, ?_⟩; first | rfl | simp [V.toks, V.tokss, Enc.toks_enc]) ?_
      refine g_end ?_
      refine e_end ?_
      refine renew [(1, (.int .i64 none_2)), (2, (.fn 134 [(.agg [(Enc.enc (cost_3.fs.1.a : List Int))])] [])), (3, (.ref (.bx 3) 0 [] (.agg [(Enc.enc (w_1.a : List Int))]))), (6, (.sl .nl (Enc.shp Int) 0 [])), (7, (encO (.at 7 []) (.of (best_42.set set_43.toNat none_2 : List Int)))), (8, (.int .i64 set_43))] ⟨(keep_mut h1 rfl), (keep_mut h2 (mut_fn (muts_cons (mut_agg (muts_cons (Enc.mut_enc _ _ _ _ (cost_3.fs.1.a : List Int)) rfl)) rfl) rfl)), (keep_mut h3 (mut_ref_ne rfl rfl (mut_agg (muts_cons (Enc.mut_enc _ _ _ _ (w_1.a : List Int)) rfl)))), (keep_mut h6 rfl), (keep_mut h7 mut_own), (keep_mut h8 rfl)⟩ ?_
      rintro s ⟨h1, h2, h3, h6, h7, h8⟩
      refine .nsq ?_
      refine .seq ?_
      refine run_reg ?_
      refine e_end ?_
      refine g_v1 (t := 3) (u := (.ref (.bx 3) 0 [] (.agg [(Enc.enc (w_1.a : List Int))]))) (.agg [(Enc.enc (w_1.a : List Int))]) h3 rfl rfl ?_
      obtain ⟨r_80, E_r_80, h⟩ := bind_some h
      refine g_call (m := 0) (al := false) (r := (Enc.enc (r_80 : Int))) [Enc.enc (w_1 : (S1 (List Int)))] (ta_cons (v := (.agg [(Enc.enc (w_1.a : List Int))])) rfl rfl (Enc.erase_enc (w_1 : (S1 (List Int)))) ta_nil) (H.c68 _ _ E_r_80) H.g68 rfl rfl rfl rfl ?_
      refine g_v1 (t := 8) (u := (.int .i64 set_43)) (.int .i64 set_43) h8 rfl rfl ?_
      refine g_v2 (t1 := 27) (t2 := 28) (u1 := (.int .i64 r_80)) (u2 := (.int .i64 set_43)) (.int .i64 (iandNot .i64 r_80 set_43)) rfl rfl rfl rfl ?_
      obtain ⟨r_81, E_r_81, h⟩ := bind_some h
      refine g_call (m := 0) (al := false) (r := (Enc.enc (r_81 : (List Int)))) [Enc.enc (iandNot .i64 r_80 set_43 : Int)] (ta_cons (v := (.int .i64 (iandNot .i64 r_80 set_43))) rfl rfl rfl ta_nil) (H.c121 _ _ E_r_81) H.g121 rfl rfl rfl rfl ?_
      refine g_v (.int .i64 (r_81.length : Int)) (ev_len (xs := r_81) rfl) ?_
      refine g_v0 (.int .i64 0) rfl rfl ?_
      refine g_end ?_
      refine e_end ?_
      refine renew [(1, (.int .i64 none_2)), (2, (.fn 134 [(.agg [(Enc.enc (cost_3.fs.1.a : List Int))])] [])), (3, (.ref (.bx 3) 0 [] (.agg [(Enc.enc (w_1.a : List Int))]))), (6, (.sl .nl (Enc.shp Int) 0 [])), (7, (encO (.at 7 []) (.of (best_42.set set_43.toNat none_2 : List Int)))), (8, (.int .i64 set_43)), (30, (Enc.enc (r_81 : List Int))), (31, (.int .i64 (r_81.length : Int))), (32, (.int .i64 0))] ⟨h1, h2, h3, h6, h7, h8, rfl, rfl, rfl⟩ ?_
      rintro s ⟨h1, h2, h3, h6, h7, h8, h30, h31, h32⟩
      refine .nsq ?_
      refine .block ?_
      refine .loop ?_
      exact t_f106s1_l1 H none_2 cost_3 w_1 set_43 r_81 (i_net_bestOrders_of_i_net_eliminated_l2 F none_2 cost_3 w_1 k) ih F (best_42.set set_43.toNat none_2) 0 _ ⟨h1, h2, h3, h6, h7, h8, h30, h31, h32⟩ h
    · refine .exit ?_
      refine .esq ?_
      refine .elp ?_
      refine .ebk ?_
      refine .nsq ?_
      refine .seq ?_
      refine run_reg ?_
      refine e_end ?_
      refine g_v1 (t := 7) (u := (encO (.at 7 []) (.of (best_42 : List Int)))) (encO (.at 7 []) (.of (best_42 : List Int))) h7 rfl rfl ?_
      refine g_v1 (t := 64) (u := (encO (.at 7 []) (.of (best_42 : List Int)))) (encO (.at 7 []) (.of (best_42 : List Int))) rfl rfl rfl ?_
      refine g_end ?_
      refine e_home (r := 7) (x := 6) (v := (encO (.at 7 []) (.of (best_42 : List Int)))) (by exact rfl) rfl (fun s_4 hg_4 => ?_)
      refine e_end ?_
      refine renew [(6, (encO (.at 6 []) (.of (best_42 : List Int))))] (hg_4 6 (encO (.at 7 []) (.of (best_42 : List Int))) (encO (.at 6 []) (.of (best_42 : List Int))) rfl (map_encO (r := 7) (p := []) rfl rfl)) ?_
      rintro s h6
      refine .nsq ?_
      refine .ret ?_
      have hr := Option.some.inj h
      subst hr
      exact rrA (res_tmp h6) (fin_retF (fin_own (o := .of best_42)) (mine_own rfl))
def i_net_bestOrders_of_i_net_eliminated (F : Nat) (w_1 : (S1 (List Int))) (none_2 : Int) (cost_3 : (Cl 134 ((S1 (List Int)) × Unit) Unit)) : Option (List Int) :=
  (i_net_all F w_1).bind fun r_4 =>
  (mkN (w64 (r_4 + 1)) 0).bind fun mk_5 =>
  (i_net_all F w_1).bind fun r_6 =>
  i_net_bestOrders_of_i_net_eliminated_l2 F none_2 cost_3 w_1 F mk_5 r_6
theorem t106s1 (H : H106s1 D σ F) (w_1 : (S1 (List Int))) (none_2 : Int) (cost_3 : (Cl 134 ((S1 (List Int)) × Unit) Unit)) (s : Nat → V) (hs : Facts [(0, (.agg [(Enc.enc (w_1.a : List Int))])), (1, (.int .i64 none_2)), (2, (.fn 134 [(.agg [(Enc.enc (cost_3.fs.1.a : List Int))])] []))] s) (h : i_net_bestOrders_of_i_net_eliminated F w_1 none_2 cost_3 = some r) : Run D σ (R106s1 r) (.run A106s1 []) s := by
  unfold i_net_bestOrders_of_i_net_eliminated at h
  obtain ⟨h0, h1, h2⟩ := hs
  refine .seq ?_
  refine run_reg ?_
  refine e_clr ?_
  refine e_end ?_
  refine g_box (.agg [(Enc.enc (w_1.a : List Int))]) (rd_of (keep_clear (s := s) (pk := [3]) h0 rfl (map_agg (maps_cons (Enc.map_enc _ (w_1.a : List Int)) maps_nil))) rfl) (gone_clear (s := s) (pk := [3]) (t := 3) rfl) rfl ?_
  refine g_v0 (.sl .nl (Enc.shp Int) 0 []) rfl rfl ?_
  refine g_end ?_
  refine e_end ?_
  refine renew [(1, (.int .i64 none_2)), (2, (.fn 134 [(.agg [(Enc.enc (cost_3.fs.1.a : List Int))])] [])), (3, (.ref (.bx 3) 0 [] (.agg [(Enc.enc (w_1.a : List Int))]))), (6, (.sl .nl (Enc.shp Int) 0 []))] ⟨(keep_clear (s := s) (pk := [3]) h1 rfl rfl), (keep_clear (s := s) (pk := [3]) h2 rfl (map_fn (maps_cons (map_agg (maps_cons (Enc.map_enc _ (cost_3.fs.1.a : List Int)) maps_nil)) maps_nil) maps_nil)), rfl, rfl⟩ ?_
  rintro s ⟨h1, h2, h3, h6⟩
  refine .nsq ?_
  refine .seq ?_
  refine run_reg ?_
  refine e_clr ?_
  refine e_end ?_
  refine g_v1 (t := 3) (u := (.ref (.bx 3) 0 [] (.agg [(Enc.enc (w_1.a : List Int))]))) (.agg [(Enc.enc (w_1.a : List Int))]) (keep_clear (s := s) (pk := [15]) h3 rfl (map_bx rfl (map_agg (maps_cons (Enc.map_enc _ (w_1.a : List Int)) maps_nil)))) rfl rfl ?_
  obtain ⟨r_4, E_r_4, h⟩ := bind_some h
  refine g_call (m := 0) (al := false) (r := (Enc.enc (r_4 : Int))) [Enc.enc (w_1 : (S1 (List Int)))] (ta_cons (v := (.agg [(Enc.enc (w_1.a : List Int))])) rfl rfl (Enc.erase_enc (w_1 : (S1 (List Int)))) ta_nil) (H.c68 _ _ E_r_4) H.g68 rfl rfl rfl rfl ?_
  refine g_v1 (t := 13) (u := (.int .i64 r_4)) (.int .i64 (w64 (r_4 + 1))) rfl rfl rfl ?_
  obtain ⟨mk_5, E_mk_5, h⟩ := bind_some h
  refine g_mk (0 : Int) rfl rfl (gone_clear (s := s) (pk := [15]) (t := 15) rfl) E_mk_5 ?_
  refine g_v1 (t := 15) (u := (encO (.at 15 []) (.of (mk_5 : List Int)))) (encO (.at 15 []) (.of (mk_5 : List Int))) rfl rfl rfl ?_
  refine g_end ?_
  refine e_home (r := 15) (x := 7) (v := (encO (.at 15 []) (.of (mk_5 : List Int)))) (by exact rfl) rfl (fun s_3 hg_3 => ?_)
  refine e_end ?_
  refine renew [(1, (.int .i64 none_2)), (2, (.fn 134 [(.agg [(Enc.enc (cost_3.fs.1.a : List Int))])] [])), (3, (.ref (.bx 3) 0 [] (.agg [(Enc.enc (w_1.a : List Int))]))), (6, (.sl .nl (Enc.shp Int) 0 [])), (7, (encO (.at 7 []) (.of (mk_5 : List Int))))] ⟨(hg_3 1 (.int .i64 none_2) (.int .i64 none_2) (keep_clear (s := s) (pk := [15]) h1 rfl rfl) rfl), (hg_3 2 (.fn 134 [(.agg [(Enc.enc (cost_3.fs.1.a : List Int))])] []) (.fn 134 [(.agg [(Enc.enc (cost_3.fs.1.a : List Int))])] []) (keep_clear (s := s) (pk := [15]) h2 rfl (map_fn (maps_cons (map_agg (maps_cons (Enc.map_enc _ (cost_3.fs.1.a : List Int)) maps_nil)) maps_nil) maps_nil)) (map_fn (maps_cons (map_agg (maps_cons (Enc.map_enc _ (cost_3.fs.1.a : List Int)) maps_nil)) maps_nil) maps_nil)), (hg_3 3 (.ref (.bx 3) 0 [] (.agg [(Enc.enc (w_1.a : List Int))])) (.ref (.bx 3) 0 [] (.agg [(Enc.enc (w_1.a : List Int))])) (keep_clear (s := s) (pk := [15]) h3 rfl (map_bx rfl (map_agg (maps_cons (Enc.map_enc _ (w_1.a : List Int)) maps_nil)))) (map_bx rfl (map_agg (maps_cons (Enc.map_enc _ (w_1.a : List Int)) maps_nil)))), (hg_3 6 (.sl .nl (Enc.shp Int) 0 []) (.sl .nl (Enc.shp Int) 0 []) (keep_clear (s := s) (pk := [15]) h6 rfl rfl) rfl), (hg_3 7 (encO (.at 15 []) (.of (mk_5 : List Int))) (encO (.at 7 []) (.of (mk_5 : List Int))) rfl (map_encO (r := 15) (p := []) rfl rfl))⟩ ?_
  rintro s ⟨h1, h2, h3, h6, h7⟩
  refine .nsq ?_
  refine .seq ?_
  refine .seq ?_
  refine run_reg ?_
  refine e_end ?_
  refine g_v1 (t := 3) (u := (.ref (.bx 3) 0 [] (.agg [(Enc.enc (w_1.a : List Int))]))) (.agg [(Enc.enc (w_1.a : List Int))]) h3 rfl rfl ?_
  obtain ⟨r_6, E_r_6, h⟩ := bind_some h
  refine g_call (m := 0) (al := false) (r := (Enc.enc (r_6 : Int))) [Enc.enc (w_1 : (S1 (List Int)))] (ta_cons (v := (.agg [(Enc.enc (w_1.a : List Int))])) rfl rfl (Enc.erase_enc (w_1 : (S1 (List Int)))) ta_nil) (H.c68 _ _ E_r_6) H.g68 rfl rfl rfl rfl ?_
  refine g_v1 (t := 17) (u := (.int .i64 r_6)) (.int .i64 r_6) rfl rfl rfl ?_
  refine g_end ?_
  refine e_end ?_
  refine renew [(1, (.int .i64 none_2)), (2, (.fn 134 [(.agg [(Enc.enc (cost_3.fs.1.a : List Int))])] [])), (3, (.ref (.bx 3) 0 [] (.agg [(Enc.enc (w_1.a : List Int))]))), (6, (.sl .nl (Enc.shp Int) 0 [])), (7, (encO (.at 7 []) (.of (mk_5 : List Int)))), (8, (.int .i64 r_6))] ⟨h1, h2, h3, h6, h7, rfl⟩ ?_
  rintro s ⟨h1, h2, h3, h6, h7, h8⟩
  refine .nsq ?_
  refine .block ?_
  refine .loop ?_
  exact t_f106s1_l2 H none_2 cost_3 w_1 F mk_5 r_6 _ ⟨h1, h2, h3, h6, h7, h8⟩ h
end
def e106s1 (F : Nat) : Ent := ⟨106, da (fun (x : ((S1 (List Int)) × Int × (Cl 134 ((S1 (List Int)) × Unit) Unit) × Unit)) => i_net_bestOrders_of_i_net_eliminated F x.1 x.2.1 x.2.2.1) (fun (r : (List Int)) => (Enc.enc (r : (List Int)))), 0, false, selF [(2, 134)]⟩
theorem p106s1 {F : Nat} {x0 : (S1 (List Int))} {x1 : Int} {x2 : (Cl 134 ((S1 (List Int)) × Unit) Unit)} {r : (List Int)} (h : i_net_bestOrders_of_i_net_eliminated F x0 x1 x2 = some r) : (e106s1 F).den [Enc.enc x0, Enc.enc x1, Arg.arg x2] = some (Enc.enc (r : (List Int))) := da_put (f := fun (x : ((S1 (List Int)) × Int × (Cl 134 ((S1 (List Int)) × Unit) Unit) × Unit)) => i_net_bestOrders_of_i_net_eliminated F x.1 x.2.1 x.2.2.1) (t := fun (r : (List Int)) => (Enc.enc (r : (List Int)))) (x0, x1, x2, ()) h
theorem o106s1 {D : Den} {σ : Sig} {F : Nat} (hF : Fits2 Try.prog D σ) (H : H106s1 D σ F) : (e106s1 F).Ok Try.prog := by
  refine ⟨fun args r h => ?_, ⟨Try.f106, Try.func106, rfl, rfl⟩⟩
  obtain ⟨⟨x0, x1, x2, _⟩, y, rfl, hy, rfl⟩ := da_open h
  exact contract_run hF (by kernel_rfl) Try.func106 rfl c106s1 (show 3 ≤ Try.f106.ntmps by decide) (t106s1 H x0 x1 x2 _ ⟨rfl, rfl, rfl⟩ hy)
/- (loop.example/g01109/impl.net).elimination -/
def A116_1 : AC := (AC.seq (AC.reg [] [(I.mk (some 3) none false (X.v (A.load (Sh.ag [Sh.p]) (O.t 1)))), (I.mk (some 4) none false (X.v (A.load (Sh.ag [Sh.p]) (O.t 1)))), (I.mk (some 5) none false (X.v (A.fn 134 [(O.t 4)] []))), (I.mk (some 6) none false (X.call (O.k (V.fn 106 [] [])) [(O.t 3), (O.k (V.int IntKind.i64 (Int.negSucc 0))), (O.t 5)])), (I.mk (some 2) none false (X.v (A.mov (O.t 6))))] []) AC.ret)
def A116 : AC := (AC.seq (AC.reg [.clr [1]] [(I.mk (some 1) none false (X.box (O.t 0))), (I.mk (some 2) none false (X.v (A.mov (O.k (V.sl Tok.nl Sh.s 0 [])))))] []) A116_1)
def an116 : List An := [{ id := 0, pre := [.clr [1]], ep := [], lin := [], sp := [] }]
theorem c116 : cC Try.prog Try.f116.ntmps an116 (Try.f116.body.getD .skip) = some A116 := by kernel_rfl
structure H116 (D : Den) (σ : Sig) (F : Nat) : Prop where
  c106s1 : ∀ (x0 : (S1 (List Int))) (x1 : Int) (x2 : (Cl 134 ((S1 (List Int)) × Unit) Unit)) r, i_net_bestOrders_of_i_net_eliminated F x0 x1 x2 = some r → D 106 [Enc.enc x0, Enc.enc x1, Arg.arg x2] = some (Enc.enc (r : (List Int)))
  g106s1 : σ 106 = some (0, false)
abbrev R116 (r : (List Int)) : (Nat → V) → Prop := RR Try.prog [.tmp 2] 0 true (Enc.enc (r : (List Int)))
section
variable {D : Den} {σ : Sig} {F : Nat} {r : (List Int)}
def i_net_elimination (F : Nat) (w_1 : (S1 (List Int))) : Option (List Int) :=
  (i_net_bestOrders_of_i_net_eliminated F w_1 (-1) (Cl.mk (w_1, ()) () : (Cl 134 ((S1 (List Int)) × Unit) Unit))).bind fun r_2 =>
  some r_2
theorem t116 (H : H116 D σ F) (w_1 : (S1 (List Int))) (s : Nat → V) (hs : Facts [(0, (.agg [(Enc.enc (w_1.a : List Int))]))] s) (h : i_net_elimination F w_1 = some r) : Run D σ (R116 r) (.run A116 []) s := by
  unfold i_net_elimination at h
  have h0 := hs
  refine .seq ?_
  refine run_reg ?_
  refine e_clr ?_
  refine e_end ?_
  refine g_box (.agg [(Enc.enc (w_1.a : List Int))]) (rd_of (keep_clear (s := s) (pk := [1]) h0 rfl (map_agg (maps_cons (Enc.map_enc _ (w_1.a : List Int)) maps_nil))) rfl) (gone_clear (s := s) (pk := [1]) (t := 1) rfl) rfl ?_
  refine g_v0 (.sl .nl (Enc.shp Int) 0 []) rfl rfl ?_
  refine g_end ?_
  refine e_end ?_
  refine renew [(1, (.ref (.bx 1) 0 [] (.agg [(Enc.enc (w_1.a : List Int))]))), (2, (.sl .nl (Enc.shp Int) 0 []))] ⟨rfl, rfl⟩ ?_
  rintro s ⟨h1, h2⟩
  refine .nsq ?_
  refine .seq ?_
  refine run_reg ?_
  refine e_end ?_
  refine g_v1 (t := 1) (u := (.ref (.bx 1) 0 [] (.agg [(Enc.enc (w_1.a : List Int))]))) (.agg [(Enc.enc (w_1.a : List Int))]) h1 rfl rfl ?_
  refine g_v1 (t := 1) (u := (.ref (.bx 1) 0 [] (.agg [(Enc.enc (w_1.a : List Int))]))) (.agg [(Enc.enc (w_1.a : List Int))]) h1 rfl rfl ?_
  refine g_v1 (t := 4) (u := (.agg [(Enc.enc (w_1.a : List Int))])) (.fn 134 [(.agg [(Enc.enc (w_1.a : List Int))])] []) rfl rfl rfl ?_
  obtain ⟨r_2, E_r_2, h⟩ := bind_some h
  refine g_call (m := 0) (al := false) (r := (Enc.enc (r_2 : (List Int)))) [Enc.enc (w_1 : (S1 (List Int))), Enc.enc ((-1) : Int), Arg.arg ((Cl.mk (w_1, ()) () : (Cl 134 ((S1 (List Int)) × Unit) Unit)) : (Cl 134 ((S1 (List Int)) × Unit) Unit))] (ta_cons (v := (.agg [(Enc.enc (w_1.a : List Int))])) rfl rfl (Enc.erase_enc (w_1 : (S1 (List Int)))) (ta_cons (v := (.int .i64 (-1))) rfl rfl rfl (ta_cons (v := (.fn 134 [(.agg [(Enc.enc (w_1.a : List Int))])] [])) rfl rfl (erase_fn (erases_cons (Enc.erase_enc (w_1 : (S1 (List Int)))) erases_nil) erases_nil) ta_nil))) (H.c106s1 _ _ _ _ E_r_2) H.g106s1 rfl rfl rfl rfl ?_
  refine g_v1 (t := 6) (u := (Enc.enc (r_2 : List Int))) (Enc.enc (r_2 : List Int)) rfl rfl rfl ?_
  refine g_end ?_
  refine e_end ?_
  refine renew [(2, (Enc.enc (r_2 : List Int)))] rfl ?_
  rintro s h2
  refine .nsq ?_
  refine .ret ?_
  have hr := Option.some.inj h
  subst hr
  exact rrA (res_tmp h2) (fin_ret1 (fin_enc (x := (r_2 : (List Int)))))
end
def e116 (F : Nat) : Ent := ⟨116, da (fun (x : ((S1 (List Int)) × Unit)) => i_net_elimination F x.1) (fun (r : (List Int)) => (Enc.enc (r : (List Int)))), 0, true, selF []⟩
theorem p116 {F : Nat} {x0 : (S1 (List Int))} {r : (List Int)} (h : i_net_elimination F x0 = some r) : (e116 F).den [Enc.enc x0] = some (Enc.enc (r : (List Int))) := da_put (f := fun (x : ((S1 (List Int)) × Unit)) => i_net_elimination F x.1) (t := fun (r : (List Int)) => (Enc.enc (r : (List Int)))) (x0, ()) h
theorem o116 {D : Den} {σ : Sig} {F : Nat} (hF : Fits2 Try.prog D σ) (H : H116 D σ F) : (e116 F).Ok Try.prog := by
  refine ⟨fun args r h => ?_, ⟨Try.f116, Try.func116, rfl, rfl⟩⟩
  obtain ⟨⟨x0, _⟩, y, rfl, hy, rfl⟩ := da_open h
  exact contract_run hF (by kernel_rfl) Try.func116 rfl c116 (show 1 ≤ Try.f116.ntmps by decide) (t116 H x0 _ rfl hy)
/- (loop.example/g01109/impl.net).treewidth -/
def A71_1 : AC := (AC.seq (AC.reg [] [(I.mk (some 3) none false (X.v (A.load (Sh.ag [Sh.p]) (O.t 1)))), (I.mk (some 4) none false (X.call (O.k (V.fn 116 [] [])) [(O.t 3)])), (I.mk (some 5) none false (X.v (A.idx (O.t 4) (O.k (V.int IntKind.i64 (Int.ofNat 0))) 1))), (I.mk (some 6) none false (X.v (A.load Sh.s (O.t 5)))), (I.mk (some 2) none false (X.v (A.mov (O.t 6))))] []) AC.ret)
def A71 : AC := (AC.seq (AC.reg [.clr [1]] [(I.mk (some 1) none false (X.box (O.t 0))), (I.mk (some 2) none false (X.v (A.mov (O.k (V.int IntKind.i64 (Int.ofNat 0))))))] []) A71_1)
def an71 : List An := [{ id := 0, pre := [.clr [1]], ep := [], lin := [], sp := [] }]
theorem c71 : cC Try.prog Try.f71.ntmps an71 (Try.f71.body.getD .skip) = some A71 := by kernel_rfl
structure H71 (D : Den) (σ : Sig) (F : Nat) : Prop where
  c116 : ∀ (x0 : (S1 (List Int))) r, i_net_elimination F x0 = some r → D 116 [Enc.enc x0] = some (Enc.enc (r : (List Int)))
  g116 : σ 116 = some (0, true)
abbrev R71 (r : Int) : (Nat → V) → Prop := RR Try.prog [.tmp 2] 0 false (Enc.enc (r : Int))
section
variable {D : Den} {σ : Sig} {F : Nat} {r : Int}
def i_net_treewidth (F : Nat) (w_1 : (S1 (List Int))) : Option Int :=
  (i_net_elimination F w_1).bind fun r_2 =>
  (idx r_2 0).bind fun e_3 =>
  some e_3
theorem t71 (H : H71 D σ F) (w_1 : (S1 (List Int))) (s : Nat → V) (hs : Facts [(0, (.agg [(Enc.enc (w_1.a : List Int))]))] s) (h : i_net_treewidth F w_1 = some r) : Run D σ (R71 r) (.run A71 []) s := by
  unfold i_net_treewidth at h
  have h0 := hs
  refine .seq ?_
  refine run_reg ?_
  refine e_clr ?_
  refine e_end ?_
  refine g_box (.agg [(Enc.enc (w_1.a : List Int))]) (rd_of (keep_clear (s := s) (pk := [1]) h0 rfl (map_agg (maps_cons (Enc.map_enc _ (w_1.a : List Int)) maps_nil))) rfl) (gone_clear (s := s) (pk := [1]) (t := 1) rfl) rfl ?_
  refine g_v0 (.int .i64 0) rfl rfl ?_
  refine g_end ?_
  refine e_end ?_
  refine renew [(1, (.ref (.bx 1) 0 [] (.agg [(Enc.enc (w_1.a : List Int))]))), (2, (.int .i64 0))] ⟨rfl, rfl⟩ ?_
  rintro s ⟨h1, h2⟩
  refine .nsq ?_
  refine .seq ?_
  refine run_reg ?_
  refine e_end ?_
  refine g_v1 (t := 1) (u := (.ref (.bx 1) 0 [] (.agg [(Enc.enc (w_1.a : List Int))]))) (.agg [(Enc.enc (w_1.a : List Int))]) h1 rfl rfl ?_
  obtain ⟨r_2, E_r_2, h⟩ := bind_some h
  refine g_call (m := 0) (al := true) (r := (Enc.enc (r_2 : (List Int)))) [Enc.enc (w_1 : (S1 (List Int)))] (ta_cons (v := (.agg [(Enc.enc (w_1.a : List Int))])) rfl rfl (Enc.erase_enc (w_1 : (S1 (List Int)))) ta_nil) (H.c116 _ _ E_r_2) H.g116 (hal_of (ht_cons (v := (.agg [(Enc.enc (w_1.a : List Int))])) rfl rfl rfl ht_nil)) rfl rfl rfl ?_
  obtain ⟨e_3, E_e_3, h⟩ := bind_some h
  refine g_v (.ref .sh 0 [] (.int .i64 e_3)) (ev_idx (t := .sh) (lo := 0) (xs := r_2) rfl rfl E_e_3 rfl rfl) ?_
  refine g_v1 (t := 5) (u := (.ref .sh 0 [] (.int .i64 e_3))) (.int .i64 e_3) rfl rfl rfl ?_
  refine g_v1 (t := 6) (u := (.int .i64 e_3)) (.int .i64 e_3) rfl rfl rfl ?_
  refine g_end ?_
  refine e_end ?_
  refine renew [(2, (.int .i64 e_3))] rfl ?_
  rintro s h2
  refine .nsq ?_
  refine .ret ?_
  have hr := Option.some.inj h
  subst hr
  exact rrA (res_tmp h2) rfl
end
def e71 (F : Nat) : Ent := ⟨71, da (fun (x : ((S1 (List Int)) × Unit)) => i_net_treewidth F x.1) (fun (r : Int) => (Enc.enc (r : Int))), 0, false, selF []⟩
theorem p71 {F : Nat} {x0 : (S1 (List Int))} {r : Int} (h : i_net_treewidth F x0 = some r) : (e71 F).den [Enc.enc x0] = some (Enc.enc (r : Int)) := da_put (f := fun (x : ((S1 (List Int)) × Unit)) => i_net_treewidth F x.1) (t := fun (r : Int) => (Enc.enc (r : Int))) (x0, ()) h
theorem o71 {D : Den} {σ : Sig} {F : Nat} (hF : Fits2 Try.prog D σ) (H : H71 D σ F) : (e71 F).Ok Try.prog := by
  refine ⟨fun args r h => ?_, ⟨Try.f71, Try.func71, rfl, rfl⟩⟩
  obtain ⟨⟨x0, _⟩, y, rfl, hy, rfl⟩ := da_open h
  exact contract_run hF (by kernel_rfl) Try.func71 rfl c71 (show 1 ≤ Try.f71.ntmps by decide) (t71 H x0 _ rfl hy)
/- loop.example/g01109/impl.TreewidthOf -/
def A31_2 : AC := (AC.cond (O.t 6) (AC.seq (AC.reg [] [(I.mk (some 2) none false (X.v (A.mov (O.k (V.int IntKind.i64 (Int.ofNat 0)))))), (I.mk (some 3) none false (X.v (A.mov (O.k (V.bool false)))))] []) AC.ret) AC.skip)
def A31_3 : AC := (AC.seq (AC.reg [] [(I.mk (some 7) none false (X.v (A.load (Sh.ag [Sh.s, Sh.p]) (O.t 1)))), (I.mk (some 8) none false (X.call (O.k (V.fn 55 [] [])) [(O.t 7)])), (I.mk (some 9) none false (X.call (O.k (V.fn 71 [] [])) [(O.t 8)])), (I.mk (some 2) none false (X.v (A.mov (O.t 9)))), (I.mk (some 3) none false (X.v (A.mov (O.k (V.bool true)))))] []) AC.ret)
def A31_1 : AC := (AC.seq (AC.seq (AC.reg [] [(I.mk (some 4) none false (X.v (A.load (Sh.ag [Sh.s, Sh.p]) (O.t 1)))), (I.mk (some 5) none false (X.call (O.k (V.fn 50 [] [])) [(O.t 4)])), (I.mk (some 6) none false (X.v (A.un UnOp.not (O.t 5))))] []) A31_2) A31_3)
def A31 : AC := (AC.seq (AC.reg [.clr [1]] [(I.mk (some 1) none false (X.box (O.t 0))), (I.mk (some 2) none false (X.v (A.mov (O.k (V.int IntKind.i64 (Int.ofNat 0)))))), (I.mk (some 3) none false (X.v (A.mov (O.k (V.bool false)))))] []) A31_1)
def an31 : List An := [{ id := 0, pre := [.clr [1]], ep := [], lin := [], sp := [] }]
theorem c31 : cC Try.prog Try.f31.ntmps an31 (Try.f31.body.getD .skip) = some A31 := by kernel_rfl
structure H31 (D : Den) (σ : Sig) (F : Nat) : Prop where
  c50 : ∀ (x0 : (Int × (List (Int × Int)))) r, i_IsGraph F x0 = some r → D 50 [Enc.enc x0] = some (Enc.enc (r : Bool))
  g50 : σ 50 = some (0, false)
  c55 : ∀ (x0 : (Int × (List (Int × Int)))) r, i_netOf F x0 = some r → D 55 [Enc.enc x0] = some (Enc.enc (r : (S1 (List Int))))
  g55 : σ 55 = some (0, false)
  c71 : ∀ (x0 : (S1 (List Int))) r, i_net_treewidth F x0 = some r → D 71 [Enc.enc x0] = some (Enc.enc (r : Int))
  g71 : σ 71 = some (0, false)
abbrev R31 (r : (Int × Bool)) : (Nat → V) → Prop := RR Try.prog [.tmp 2, .tmp 3] 0 false (.tup [Enc.enc (r.1 : Int), Enc.enc (r.2 : Bool)])
section
variable {D : Den} {σ : Sig} {F : Nat} {r : (Int × Bool)}
def i_TreewidthOf (F : Nat) (g_1 : (Int × (List (Int × Int)))) : Option (Int × Bool) :=
  (i_IsGraph F g_1).bind fun r_2 =>
  bif (!r_2) then
    some (0, false)
  else
    (i_netOf F g_1).bind fun r_3 =>
    (i_net_treewidth F r_3).bind fun r_4 =>
    some (r_4, true)
theorem t31 (H : H31 D σ F) (g_1 : (Int × (List (Int × Int)))) (s : Nat → V) (hs : Facts [(0, (.agg [(.int .i64 g_1.1), (Enc.enc (g_1.2 : List (Int × Int)))]))] s) (h : i_TreewidthOf F g_1 = some r) : Run D σ (R31 r) (.run A31 []) s := by
  unfold i_TreewidthOf at h
  have h0 := hs
  refine .seq ?_
  refine run_reg ?_
  refine e_clr ?_
  refine e_end ?_
  refine g_box (.agg [(.int .i64 g_1.1), (Enc.enc (g_1.2 : List (Int × Int)))]) (rd_of (keep_clear (s := s) (pk := [1]) h0 rfl (map_agg (maps_cons rfl (maps_cons (Enc.map_enc _ (g_1.2 : List (Int × Int))) maps_nil)))) rfl) (gone_clear (s := s) (pk := [1]) (t := 1) rfl) rfl ?_
  refine g_v0 (.int .i64 0) rfl rfl ?_
  refine g_v0 (.bool false) rfl rfl ?_
  refine g_end ?_
  refine e_end ?_
  refine renew [(1, (.ref (.bx 1) 0 [] (.agg [(.int .i64 g_1.1), (Enc.enc (g_1.2 : List (Int × Int)))]))), (2, (.int .i64 0)), (3, (.bool false))] ⟨rfl, rfl, rfl⟩ ?_
  rintro s ⟨h1, h2, h3⟩
  refine .nsq ?_
  refine .seq ?_
  refine .seq ?_
  refine run_reg ?_
  refine e_end ?_
  refine g_v1 (t := 1) (u := (.ref (.bx 1) 0 [] (.agg [(.int .i64 g_1.1), (Enc.enc (g_1.2 : List (Int × Int)))]))) (.agg [(.int .i64 g_1.1), (Enc.enc (g_1.2 : List (Int × Int)))]) h1 rfl rfl ?_
  obtain ⟨r_2, E_r_2, h⟩ := bind_some h
  refine g_call (m := 0) (al := false) (r := (Enc.enc (r_2 : Bool))) [Enc.enc (g_1 : (Int × (List (Int × Int))))] (ta_cons (v := (.agg [(.int .i64 g_1.1), (Enc.enc (g_1.2 : List (Int × Int)))])) rfl rfl (Enc.erase_enc (g_1 : (Int × (List (Int × Int))))) ta_nil) (H.c50 _ _ E_r_2) H.g50 rfl rfl rfl rfl ?_
  refine g_v1 (t := 5) (u := (.bool r_2)) (.bool (!r_2)) rfl rfl rfl ?_
  refine g_end ?_
  refine e_end ?_
  refine renew [(1, (.ref (.bx 1) 0 [] (.agg [(.int .i64 g_1.1), (Enc.enc (g_1.2 : List (Int × Int)))]))), (2, (.int .i64 0)), (3, (.bool false)), (6, (.bool (!r_2)))] ⟨h1, h2, h3, rfl⟩ ?_
  rintro s ⟨h1, h2, h3, h6⟩
  refine .nsq ?_
  refine run_cond (t := (!r_2)) h6 h (fun h => ?_) (fun h => ?_)
  · refine .seq ?_
    refine run_reg ?_
    refine e_end ?_
    refine g_v0 (.int .i64 0) rfl rfl ?_
    refine g_v0 (.bool false) rfl rfl ?_
    refine g_end ?_
    refine e_end ?_
    refine renew [(1, (.ref (.bx 1) 0 [] (.agg [(.int .i64 g_1.1), (Enc.enc (g_1.2 : List (Int × Int)))]))), (2, (.int .i64 0)), (3, (.bool false))] ⟨h1, rfl, rfl⟩ ?_
    rintro s ⟨h1, h2, h3⟩
    refine .nsq ?_
    refine .ret ?_
    have hr := Option.some.inj h
    subst hr
    exact rrB (res_tmp h2) (res_tmp h3) rfl
  · refine .skip ?_
    refine .nsq ?_
    refine .seq ?_
    refine run_reg ?_
    refine e_end ?_
    refine g_v1 (t := 1) (u := (.ref (.bx 1) 0 [] (.agg [(.int .i64 g_1.1), (Enc.enc (g_1.2 : List (Int × Int)))]))) (.agg [(.int .i64 g_1.1), (Enc.enc (g_1.2 : List (Int × Int)))]) h1 rfl rfl ?_
    obtain ⟨r_3, E_r_3, h⟩ := bind_some h
    refine g_call (m := 0) (al := false) (r := (Enc.enc (r_3 : (S1 (List Int))))) [Enc.enc (g_1 : (Int × (List (Int × Int))))] (ta_cons (v := (.agg [(.int .i64 g_1.1), (Enc.enc (g_1.2 : List (Int × Int)))])) rfl rfl (Enc.erase_enc (g_1 : (Int × (List (Int × Int))))) ta_nil) (H.c55 _ _ E_r_3) H.g55 rfl rfl rfl rfl ?_
    obtain ⟨r_4, E_r_4, h⟩ := bind_some h
    refine g_call (m := 0) (al := false) (r := (Enc.enc (r_4 : Int))) [Enc.enc (r_3 : (S1 (List Int)))] (ta_cons (v := (.agg [(Enc.enc (r_3.a : List Int))])) rfl rfl (Enc.erase_enc (r_3 : (S1 (List Int)))) ta_nil) (H.c71 _ _ E_r_4) H.g71 rfl rfl rfl rfl ?_
    refine g_v1 (t := 9) (u := (.int .i64 r_4)) (.int .i64 r_4) rfl rfl rfl ?_
    refine g_v0 (.bool true) rfl rfl ?_
    refine g_end ?_
    refine e_end ?_
    refine renew [(2, (.int .i64 r_4)), (3, (.bool true))] ⟨rfl, rfl⟩ ?_
    rintro s ⟨h2, h3⟩
    refine .nsq ?_
    refine .ret ?_
    have hr := Option.some.inj h
    subst hr
    exact rrB (res_tmp h2) (res_tmp h3) rfl
end
def e31 (F : Nat) : Ent := ⟨31, da (fun (x : ((Int × (List (Int × Int))) × Unit)) => i_TreewidthOf F x.1) (fun (r : (Int × Bool)) => (.tup [Enc.enc (r.1 : Int), Enc.enc (r.2 : Bool)])), 0, false, selF []⟩
theorem p31 {F : Nat} {x0 : (Int × (List (Int × Int)))} {r : (Int × Bool)} (h : i_TreewidthOf F x0 = some r) : (e31 F).den [Enc.enc x0] = some (.tup [Enc.enc (r.1 : Int), Enc.enc (r.2 : Bool)]) := da_put (f := fun (x : ((Int × (List (Int × Int))) × Unit)) => i_TreewidthOf F x.1) (t := fun (r : (Int × Bool)) => (.tup [Enc.enc (r.1 : Int), Enc.enc (r.2 : Bool)])) (x0, ()) h
theorem o31 {D : Den} {σ : Sig} {F : Nat} (hF : Fits2 Try.prog D σ) (H : H31 D σ F) : (e31 F).Ok Try.prog := by
  refine ⟨fun args r h => ?_, ⟨Try.f31, Try.func31, rfl, rfl⟩⟩
  obtain ⟨⟨x0, _⟩, y, rfl, hy, rfl⟩ := da_open h
  exact contract_run hF (by kernel_rfl) Try.func31 rfl c31 (show 1 ≤ Try.f31.ntmps by decide) (t31 H x0 _ rfl hy)
/- loop.example/g01109/laws.eqIntA2 -/
def A104_2 : AC := (AC.cond (O.t 7) AC.skip (AC.exit 0))
def A104_4 : AC := (AC.cond (O.t 16) (AC.seq (AC.reg [] [(I.mk (some 4) none false (X.v (A.mov (O.k (V.bool false)))))] []) AC.ret) AC.skip)
def A104_5 : AC := (AC.reg [] [(I.mk (some 8) none false (X.v (A.mov (O.t 5)))), (I.mk (some 9) none false (X.v (A.bin BinOp.add (O.t 8) (O.k (V.int IntKind.i64 (Int.ofNat 1)))))), (I.mk (some 5) none false (X.v (A.mov (O.t 9))))] [])
def A104_3 : AC := (AC.seq (AC.block 1 (AC.seq (AC.reg [] [(I.mk (some 10) none false (X.v (A.mov (O.t 5)))), (I.mk (some 11) none false (X.v (A.idxA (O.t 2) (O.t 10) 2 1))), (I.mk (some 12) none false (X.v (A.load Sh.s (O.t 11)))), (I.mk (some 13) none false (X.v (A.mov (O.t 5)))), (I.mk (some 14) none false (X.v (A.idxA (O.t 3) (O.t 13) 2 1))), (I.mk (some 15) none false (X.v (A.load Sh.s (O.t 14)))), (I.mk (some 16) none false (X.v (A.bin BinOp.neq (O.t 12) (O.t 15))))] []) A104_4)) A104_5)
def A104_1 : AC := (AC.seq (AC.seq (AC.reg [] [(I.mk (some 6) none false (X.v (A.mov (O.t 5)))), (I.mk (some 7) none false (X.v (A.bin BinOp.lss (O.t 6) (O.k (V.int IntKind.i64 (Int.ofNat 2))))))] []) A104_2) A104_3)
def A104_6 : AC := (AC.seq (AC.reg [] [(I.mk (some 4) none false (X.v (A.mov (O.k (V.bool true)))))] []) AC.ret)
def A104_8 : AC := (AC.block 0 (AC.loop A104_1))
def A104_7 : AC := (AC.seq (AC.seq (AC.reg [] [(I.mk (some 5) none false (X.v (A.mov (O.k (V.int IntKind.i64 (Int.ofNat 0))))))] []) A104_8) A104_6)
def A104 : AC := (AC.seq (AC.reg [.clr [2, 3]] [(I.mk (some 2) none false (X.box (O.t 0))), (I.mk (some 3) none false (X.box (O.t 1))), (I.mk (some 4) none false (X.v (A.mov (O.k (V.bool false)))))] []) A104_7)
def an104 : List An := [{ id := 0, pre := [.clr [2, 3]], ep := [], lin := [], sp := [] }]
theorem c104 : cC Try.prog Try.f104.ntmps an104 (Try.f104.body.getD .skip) = some A104 := by kernel_rfl
structure H104 (D : Den) (σ : Sig) (F : Nat) : Prop where
  mk ::
abbrev R104 (r : Bool) : (Nat → V) → Prop := RR Try.prog [.tmp 4] 0 false (Enc.enc (r : Bool))
section
variable {D : Den} {σ : Sig} {F : Nat} {r : Bool}
def w_eqIntA2_l1 (F : Nat) (a_1 : (Int × Int)) (b_2 : (Int × Int))  : Nat → Int → Option Bool
  | 0, _ => none
  | k + 1, i_3 =>
    bif decide (i_3 < 2) then
      (idx [a_1.1, a_1.2] i_3).bind fun e_6 =>
      (idx [b_2.1, b_2.2] i_3).bind fun e_7 =>
      bif (e_6 != e_7) then
        some false
      else
        (w_eqIntA2_l1 F a_1 b_2 k) (w64 (i_3 + 1))
    else
      some true
theorem t_f104_l1 (H : H104 D σ F) (a_1 : (Int × Int)) (b_2 : (Int × Int))  : ∀ (k : Nat) (i_3 : Int) (s : Nat → V), Facts [(2, (.ref (.bx 2) 0 [] (.agg [(.int .i64 a_1.1), (.int .i64 a_1.2)]))), (3, (.ref (.bx 3) 0 [] (.agg [(.int .i64 b_2.1), (.int .i64 b_2.2)]))), (4, (.bool false)), (5, (.int .i64 i_3))] s → w_eqIntA2_l1 F a_1 b_2 k i_3 = some r → Run D σ (R104 r) (.run A104_1 [.lp A104_1, .bk 0, .sq A104_6]) s := by
  intro k
  induction k with
  | zero => intro i_3 s _ h; exact nomatch (h : (none : Option _) = some r)
  | succ k ih =>
    intro i_3 s hs h
    rw [w_eqIntA2_l1] at h
    obtain ⟨h2, h3, h4, h5⟩ := hs
    refine .seq ?_
    refine .seq ?_
    refine run_reg ?_
    refine e_end ?_
    refine g_v1 (t := 5) (u := (.int .i64 i_3)) (.int .i64 i_3) h5 rfl rfl ?_
    refine g_v1 (t := 6) (u := (.int .i64 i_3)) (.bool (decide (i_3 < 2))) rfl rfl rfl ?_
    refine g_end ?_
    refine e_end ?_
    refine renew [(2, (.ref (.bx 2) 0 [] (.agg [(.int .i64 a_1.1), (.int .i64 a_1.2)]))), (3, (.ref (.bx 3) 0 [] (.agg [(.int .i64 b_2.1), (.int .i64 b_2.2)]))), (4, (.bool false)), (5, (.int .i64 i_3)), (7, (.bool (decide (i_3 < 2))))] ⟨h2, h3, h4, h5, rfl⟩ ?_
    rintro s ⟨h2, h3, h4, h5, h7⟩
    refine .nsq ?_
    refine run_cond (t := decide (i_3 < 2)) h7 h (fun h => ?_) (fun h => ?_)
    · refine .skip ?_
      refine .nsq ?_
      refine .seq ?_
      refine .block ?_
      refine .seq ?_
      refine run_reg ?_
      refine e_end ?_
      refine g_v1 (t := 5) (u := (.int .i64 i_3)) (.int .i64 i_3) h5 rfl rfl ?_
      obtain ⟨e_6, E_e_6, h⟩ := bind_some h
      refine g_v (.ref (.bx 2) 0 [i_3.toNat] (.int .i64 e_6)) (ev_idxA (xs := [a_1.1, a_1.2]) (a := e_6) (n := i_3) (q := []) h2 rfl E_e_6 rfl rfl rfl) ?_
      refine g_v1 (t := 11) (u := (.ref (.bx 2) 0 [i_3.toNat] (.int .i64 e_6))) (.int .i64 e_6) rfl rfl rfl ?_
      refine g_v1 (t := 5) (u := (.int .i64 i_3)) (.int .i64 i_3) h5 rfl rfl ?_
      obtain ⟨e_7, E_e_7, h⟩ := bind_some h
      refine g_v (.ref (.bx 3) 0 [i_3.toNat] (.int .i64 e_7)) (ev_idxA (xs := [b_2.1, b_2.2]) (a := e_7) (n := i_3) (q := []) h3 rfl E_e_7 rfl rfl rfl) ?_
      refine g_v1 (t := 14) (u := (.ref (.bx 3) 0 [i_3.toNat] (.int .i64 e_7))) (.int .i64 e_7) rfl rfl rfl ?_
      refine g_v2 (t1 := 12) (t2 := 15) (u1 := (.int .i64 e_6)) (u2 := (.int .i64 e_7)) (.bool (e_6 != e_7)) rfl rfl rfl rfl ?_
      refine g_end ?_
      refine e_end ?_
      refine renew [(2, (.ref (.bx 2) 0 [] (.agg [(.int .i64 a_1.1), (.int .i64 a_1.2)]))), (3, (.ref (.bx 3) 0 [] (.agg [(.int .i64 b_2.1), (.int .i64 b_2.2)]))), (4, (.bool false)), (5, (.int .i64 i_3)), (16, (.bool (e_6 != e_7)))] ⟨h2, h3, h4, h5, rfl⟩ ?_
      rintro s ⟨h2, h3, h4, h5, h16⟩
      refine .nsq ?_
      refine run_cond (t := (e_6 != e_7)) h16 h (fun h => ?_) (fun h => ?_)
      · refine .seq ?_
        refine run_reg ?_
        refine e_end ?_
        refine g_v0 (.bool false) rfl rfl ?_
        refine g_end ?_
        refine e_end ?_
        refine renew [(2, (.ref (.bx 2) 0 [] (.agg [(.int .i64 a_1.1), (.int .i64 a_1.2)]))), (3, (.ref (.bx 3) 0 [] (.agg [(.int .i64 b_2.1), (.int .i64 b_2.2)]))), (4, (.bool false)), (5, (.int .i64 i_3))] ⟨h2, h3, rfl, h5⟩ ?_
        rintro s ⟨h2, h3, h4, h5⟩
        refine .nsq ?_
        refine .ret ?_
        have hr := Option.some.inj h
        subst hr
        exact rrA (res_tmp h4) rfl
      · refine .skip ?_
        refine .nbk ?_
        refine .nsq ?_
        refine run_reg ?_
        refine e_end ?_
        refine g_v1 (t := 5) (u := (.int .i64 i_3)) (.int .i64 i_3) h5 rfl rfl ?_
        refine g_v1 (t := 8) (u := (.int .i64 i_3)) (.int .i64 (w64 (i_3 + 1))) rfl rfl rfl ?_
        refine g_v1 (t := 9) (u := (.int .i64 (w64 (i_3 + 1)))) (.int .i64 (w64 (i_3 + 1))) rfl rfl rfl ?_
        refine g_end ?_
        refine e_end ?_
        refine renew [(2, (.ref (.bx 2) 0 [] (.agg [(.int .i64 a_1.1), (.int .i64 a_1.2)]))), (3, (.ref (.bx 3) 0 [] (.agg [(.int .i64 b_2.1), (.int .i64 b_2.2)]))), (4, (.bool false)), (5, (.int .i64 (w64 (i_3 + 1))))] ⟨h2, h3, h4, rfl⟩ ?_
        rintro s ⟨h2, h3, h4, h5⟩
        refine .nlp ?_
        exact ih (w64 (i_3 + 1)) _ ⟨h2, h3, h4, h5⟩ h
    · refine .exit ?_
      refine .esq ?_
      refine .elp ?_
      refine .ebk ?_
      refine .nsq ?_
      refine .seq ?_
      refine run_reg ?_
      refine e_end ?_
      refine g_v0 (.bool true) rfl rfl ?_
      refine g_end ?_
      refine e_end ?_
      refine renew [(4, (.bool true))] rfl ?_
      rintro s h4
      refine .nsq ?_
      refine .ret ?_
      have hr := Option.some.inj h
      subst hr
      exact rrA (res_tmp h4) rfl
def w_eqIntA2 (F : Nat) (a_1 : (Int × Int)) (b_2 : (Int × Int)) : Option Bool :=
  w_eqIntA2_l1 F a_1 b_2 F 0
theorem t104 (H : H104 D σ F) (a_1 : (Int × Int)) (b_2 : (Int × Int)) (s : Nat → V) (hs : Facts [(0, (.agg [(.int .i64 a_1.1), (.int .i64 a_1.2)])), (1, (.agg [(.int .i64 b_2.1), (.int .i64 b_2.2)]))] s) (h : w_eqIntA2 F a_1 b_2 = some r) : Run D σ (R104 r) (.run A104 []) s := by
  unfold w_eqIntA2 at h
  obtain ⟨h0, h1⟩ := hs
  refine .seq ?_
  refine run_reg ?_
  refine e_clr ?_
  refine e_end ?_
  refine g_box (.agg [(.int .i64 a_1.1), (.int .i64 a_1.2)]) (rd_of (keep_clear (s := s) (pk := [2, 3]) h0 rfl (map_agg (maps_cons rfl (maps_cons rfl maps_nil)))) rfl) (gone_clear (s := s) (pk := [2, 3]) (t := 2) rfl) rfl ?_
  refine g_box (.agg [(.int .i64 b_2.1), (.int .i64 b_2.2)]) (rd_of (keep_clear (s := s) (pk := [2, 3]) h1 rfl (map_agg (maps_cons rfl (maps_cons rfl maps_nil)))) rfl) (gone_clear (s := s) (pk := [2, 3]) (t := 3) rfl) rfl ?_
  refine g_v0 (.bool false) rfl rfl ?_
  refine g_end ?_
  refine e_end ?_
  refine renew [(2, (.ref (.bx 2) 0 [] (.agg [(.int .i64 a_1.1), (.int .i64 a_1.2)]))), (3, (.ref (.bx 3) 0 [] (.agg [(.int .i64 b_2.1), (.int .i64 b_2.2)]))), (4, (.bool false))] ⟨rfl, rfl, rfl⟩ ?_
  rintro s ⟨h2, h3, h4⟩
  refine .nsq ?_
  refine .seq ?_
  refine .seq ?_
  refine run_reg ?_
  refine e_end ?_
  refine g_v0 (.int .i64 0) rfl rfl ?_
  refine g_end ?_
  refine e_end ?_
  refine renew [(2, (.ref (.bx 2) 0 [] (.agg [(.int .i64 a_1.1), (.int .i64 a_1.2)]))), (3, (.ref (.bx 3) 0 [] (.agg [(.int .i64 b_2.1), (.int .i64 b_2.2)]))), (4, (.bool false)), (5, (.int .i64 0))] ⟨h2, h3, h4, rfl⟩ ?_
  rintro s ⟨h2, h3, h4, h5⟩
  refine .nsq ?_
  refine .block ?_
  refine .loop ?_
  exact t_f104_l1 H a_1 b_2 F 0 _ ⟨h2, h3, h4, h5⟩ h
end
def e104 (F : Nat) : Ent := ⟨104, da (fun (x : ((Int × Int) × (Int × Int) × Unit)) => w_eqIntA2 F x.1 x.2.1) (fun (r : Bool) => (Enc.enc (r : Bool))), 0, false, selF []⟩
theorem p104 {F : Nat} {x0 : (Int × Int)} {x1 : (Int × Int)} {r : Bool} (h : w_eqIntA2 F x0 x1 = some r) : (e104 F).den [Enc.enc x0, Enc.enc x1] = some (Enc.enc (r : Bool)) := da_put (f := fun (x : ((Int × Int) × (Int × Int) × Unit)) => w_eqIntA2 F x.1 x.2.1) (t := fun (r : Bool) => (Enc.enc (r : Bool))) (x0, x1, ()) h
theorem o104 {D : Den} {σ : Sig} {F : Nat} (hF : Fits2 Try.prog D σ) (H : H104 D σ F) : (e104 F).Ok Try.prog := by
  refine ⟨fun args r h => ?_, ⟨Try.f104, Try.func104, rfl, rfl⟩⟩
  obtain ⟨⟨x0, x1, _⟩, y, rfl, hy, rfl⟩ := da_open h
  exact contract_run hF (by kernel_rfl) Try.func104 rfl c104 (show 2 ≤ Try.f104.ntmps by decide) (t104 H x0 x1 _ ⟨rfl, rfl⟩ hy)
/- loop.example/g01109/laws.eqIntA2S -/
def A53_2 : AC := (AC.cond (O.t 14) AC.skip (AC.exit 0))
def A53_4 : AC := (AC.cond (O.t 26) (AC.seq (AC.reg [] [(I.mk (some 4) none false (X.v (A.mov (O.k (V.bool false)))))] []) AC.ret) AC.skip)
def A53_5 : AC := (AC.reg [] [(I.mk (some 15) none false (X.v (A.mov (O.t 5)))), (I.mk (some 16) none false (X.v (A.bin BinOp.add (O.t 15) (O.k (V.int IntKind.i64 (Int.ofNat 1)))))), (I.mk (some 5) none false (X.v (A.mov (O.t 16))))] [])
def A53_3 : AC := (AC.seq (AC.block 1 (AC.seq (AC.reg [] [(I.mk (some 17) none false (X.v (A.mov (O.t 0)))), (I.mk (some 18) none false (X.v (A.mov (O.t 5)))), (I.mk (some 19) none false (X.v (A.idx (O.t 17) (O.t 18) 2))), (I.mk (some 20) none false (X.v (A.load (Sh.ag [Sh.s, Sh.s]) (O.t 19)))), (I.mk (some 21) none false (X.v (A.mov (O.t 1)))), (I.mk (some 22) none false (X.v (A.mov (O.t 5)))), (I.mk (some 23) none false (X.v (A.idx (O.t 21) (O.t 22) 2))), (I.mk (some 24) none false (X.v (A.load (Sh.ag [Sh.s, Sh.s]) (O.t 23)))), (I.mk (some 25) none false (X.call (O.k (V.fn 104 [] [])) [(O.t 20), (O.t 24)])), (I.mk (some 26) none false (X.v (A.un UnOp.not (O.t 25))))] []) A53_4)) A53_5)
def A53_1 : AC := (AC.seq (AC.seq (AC.reg [] [(I.mk (some 11) none false (X.v (A.mov (O.t 5)))), (I.mk (some 12) none false (X.v (A.mov (O.t 0)))), (I.mk (some 13) none false (X.v (A.len (O.t 12)))), (I.mk (some 14) none false (X.v (A.bin BinOp.lss (O.t 11) (O.t 13))))] []) A53_2) A53_3)
def A53_6 : AC := (AC.seq (AC.reg [] [(I.mk (some 4) none false (X.v (A.mov (O.k (V.bool true)))))] []) AC.ret)
def A53_8 : AC := (AC.cond (O.t 10) (AC.seq (AC.reg [] [(I.mk (some 4) none false (X.v (A.mov (O.k (V.bool false)))))] []) AC.ret) AC.skip)
def A53_10 : AC := (AC.block 0 (AC.loop A53_1))
def A53_9 : AC := (AC.seq (AC.seq (AC.reg [] [(I.mk (some 5) none false (X.v (A.mov (O.k (V.int IntKind.i64 (Int.ofNat 0))))))] []) A53_10) A53_6)
def A53_7 : AC := (AC.seq (AC.seq (AC.reg [] [(I.mk (some 6) none false (X.v (A.mov (O.t 0)))), (I.mk (some 7) none false (X.v (A.len (O.t 6)))), (I.mk (some 8) none false (X.v (A.mov (O.t 1)))), (I.mk (some 9) none false (X.v (A.len (O.t 8)))), (I.mk (some 10) none false (X.v (A.bin BinOp.neq (O.t 7) (O.t 9))))] []) A53_8) A53_9)
def A53 : AC := (AC.seq (AC.reg [] [(I.mk (some 4) none false (X.v (A.mov (O.k (V.bool false)))))] []) A53_7)
def an53 : List An := []
theorem c53 : cC Try.prog Try.f53.ntmps an53 (Try.f53.body.getD .skip) = some A53 := by kernel_rfl
structure H53 (D : Den) (σ : Sig) (F : Nat) : Prop where
  c104 : ∀ (x0 : (Int × Int)) (x1 : (Int × Int)) r, w_eqIntA2 F x0 x1 = some r → D 104 [Enc.enc x0, Enc.enc x1] = some (Enc.enc (r : Bool))
  g104 : σ 104 = some (0, false)
abbrev R53 (r : Bool) : (Nat → V) → Prop := RR Try.prog [.tmp 4] 0 false (Enc.enc (r : Bool))
section
variable {D : Den} {σ : Sig} {F : Nat} {r : Bool}
def w_eqIntA2S_l1 (F : Nat) (a_1 : (List (Int × Int))) (b_2 : (List (Int × Int)))  : Nat → Int → Option Bool
  | 0, _ => none
  | k + 1, i_6 =>
    bif decide (i_6 < (a_1.length : Int)) then
      (idx a_1 i_6).bind fun e_10 =>
      (idx b_2 i_6).bind fun e_11 =>
      (w_eqIntA2 F e_10 e_11).bind fun r_12 =>
      bif (!r_12) then
        some false
      else
        (w_eqIntA2S_l1 F a_1 b_2 k) (w64 (i_6 + 1))
    else
      some true
theorem t_f53_l1 (H : H53 D σ F) (a_1 : (List (Int × Int))) (b_2 : (List (Int × Int)))  : ∀ (k : Nat) (i_6 : Int) (s : Nat → V), Facts [(0, (Enc.enc (a_1 : List (Int × Int)))), (1, (Enc.enc (b_2 : List (Int × Int)))), (4, (.bool false)), (5, (.int .i64 i_6))] s → w_eqIntA2S_l1 F a_1 b_2 k i_6 = some r → Run D σ (R53 r) (.run A53_1 [.lp A53_1, .bk 0, .sq A53_6]) s := by
  intro k
  induction k with
  | zero => intro i_6 s _ h; exact nomatch (h : (none : Option _) = some r)
  | succ k ih =>
    intro i_6 s hs h
    rw [w_eqIntA2S_l1] at h
    obtain ⟨h0, h1, h4, h5⟩ := hs
    refine .seq ?_
    refine .seq ?_
    refine run_reg ?_
    refine e_end ?_
    refine g_v1 (t := 5) (u := (.int .i64 i_6)) (.int .i64 i_6) h5 rfl rfl ?_
    refine g_v1 (t := 0) (u := (Enc.enc (a_1 : List (Int × Int)))) (Enc.enc (a_1 : List (Int × Int))) h0 rfl rfl ?_
    refine g_v (.int .i64 (a_1.length : Int)) (ev_len (xs := a_1) rfl) ?_
    refine g_v2 (t1 := 11) (t2 := 13) (u1 := (.int .i64 i_6)) (u2 := (.int .i64 (a_1.length : Int))) (.bool (decide (i_6 < (a_1.length : Int)))) rfl rfl rfl rfl ?_
    refine g_end ?_
    refine e_end ?_
    refine renew [(0, (Enc.enc (a_1 : List (Int × Int)))), (1, (Enc.enc (b_2 : List (Int × Int)))), (4, (.bool false)), (5, (.int .i64 i_6)), (14, (.bool (decide (i_6 < (a_1.length : Int)))))] ⟨h0, h1, h4, h5, rfl⟩ ?_
    rintro s ⟨h0, h1, h4, h5, h14⟩
    refine .nsq ?_
    refine run_cond (t := decide (i_6 < (a_1.length : Int))) h14 h (fun h => ?_) (fun h => ?_)
    · refine .skip ?_
      refine .nsq ?_
      refine .seq ?_
      refine .block ?_
      refine .seq ?_
      refine run_reg ?_
      refine e_end ?_
      refine g_v1 (t := 0) (u := (Enc.enc (a_1 : List (Int × Int)))) (Enc.enc (a_1 : List (Int × Int))) h0 rfl rfl ?_
      refine g_v1 (t := 5) (u := (.int .i64 i_6)) (.int .i64 i_6) h5 rfl rfl ?_
      obtain ⟨e_10, E_e_10, h⟩ := bind_some h
      refine g_v (.ref .sh 0 [] (.agg [(.int .i64 e_10.1), (.int .i64 e_10.2)])) (ev_idx (t := .sh) (lo := 0) (xs := a_1) rfl rfl E_e_10 rfl rfl) ?_
      refine g_v1 (t := 19) (u := (.ref .sh 0 [] (.agg [(.int .i64 e_10.1), (.int .i64 e_10.2)]))) (.agg [(.int .i64 e_10.1), (.int .i64 e_10.2)]) rfl rfl rfl ?_
      refine g_v1 (t := 1) (u := (Enc.enc (b_2 : List (Int × Int)))) (Enc.enc (b_2 : List (Int × Int))) h1 rfl rfl ?_
      refine g_v1 (t := 5) (u := (.int .i64 i_6)) (.int .i64 i_6) h5 rfl rfl ?_
      obtain ⟨e_11, E_e_11, h⟩ := bind_some h
      refine g_v (.ref .sh 0 [] (.agg [(.int .i64 e_11.1), (.int .i64 e_11.2)])) (ev_idx (t := .sh) (lo := 0) (xs := b_2) rfl rfl E_e_11 rfl rfl) ?_
      refine g_v1 (t := 23) (u := (.ref .sh 0 [] (.agg [(.int .i64 e_11.1), (.int .i64 e_11.2)]))) (.agg [(.int .i64 e_11.1), (.int .i64 e_11.2)]) rfl rfl rfl ?_
      obtain ⟨r_12, E_r_12, h⟩ := bind_some h
      refine g_call (m := 0) (al := false) (r := (Enc.enc (r_12 : Bool))) [Enc.enc (e_10 : (Int × Int)), Enc.enc (e_11 : (Int × Int))] (ta_cons (v := (.agg [(.int .i64 e_10.1), (.int .i64 e_10.2)])) rfl rfl (Enc.erase_enc (e_10 : (Int × Int))) (ta_cons (v := (.agg [(.int .i64 e_11.1), (.int .i64 e_11.2)])) rfl rfl (Enc.erase_enc (e_11 : (Int × Int))) ta_nil)) (H.c104 _ _ _ E_r_12) H.g104 rfl rfl rfl rfl ?_
      refine g_v1 (t := 25) (u := (.bool r_12)) (.bool (!r_12)) rfl rfl rfl ?_
      refine g_end ?_
      refine e_end ?_
      refine renew [(0, (Enc.enc (a_1 : List (Int × Int)))), (1, (Enc.enc (b_2 : List (Int × Int)))), (4, (.bool false)), (5, (.int .i64 i_6)), (26, (.bool (!r_12)))] ⟨h0, h1, h4, h5, rfl⟩ ?_
      rintro s ⟨h0, h1, h4, h5, h26⟩
      refine .nsq ?_
      refine run_cond (t := (!r_12)) h26 h (fun h => ?_) (fun h => ?_)
      · refine .seq ?_
        refine run_reg ?_
        refine e_end ?_
        refine g_v0 (.bool false) rfl rfl ?_
        refine g_end ?_
        refine e_end ?_
        refine renew [(0, (Enc.enc (a_1 : List (Int × Int)))), (1, (Enc.enc (b_2 : List (Int × Int)))), (4, (.bool false)), (5, (.int .i64 i_6))] ⟨h0, h1, rfl, h5⟩ ?_
        rintro s ⟨h0, h1, h4, h5⟩
        refine .nsq ?_
        refine .ret ?_
        have hr := Option.some.inj h
        subst hr
        exact rrA (res_tmp h4) rfl
      · refine .skip ?_
        refine .nbk ?_
        refine .nsq ?_
        refine run_reg ?_
        refine e_end ?_
        refine g_v1 (t := 5) (u := (.int .i64 i_6)) (.int .i64 i_6) h5 rfl rfl ?_
        refine g_v1 (t := 15) (u := (.int .i64 i_6)) (.int .i64 (w64 (i_6 + 1))) rfl rfl rfl ?_
        refine g_v1 (t := 16) (u := (.int .i64 (w64 (i_6 + 1)))) (.int .i64 (w64 (i_6 + 1))) rfl rfl rfl ?_
        refine g_end ?_
        refine e_end ?_
        refine renew [(0, (Enc.enc (a_1 : List (Int × Int)))), (1, (Enc.enc (b_2 : List (Int × Int)))), (4, (.bool false)), (5, (.int .i64 (w64 (i_6 + 1))))] ⟨h0, h1, h4, rfl⟩ ?_
        rintro s ⟨h0, h1, h4, h5⟩
        refine .nlp ?_
        exact ih (w64 (i_6 + 1)) _ ⟨h0, h1, h4, h5⟩ h
    · refine .exit ?_
      refine .esq ?_
      refine .elp ?_
      refine .ebk ?_
      refine .nsq ?_
      refine .seq ?_
      refine run_reg ?_
      refine e_end ?_
      refine g_v0 (.bool true) rfl rfl ?_
      refine g_end ?_
      refine e_end ?_
      refine renew [(4, (.bool true))] rfl ?_
      rintro s h4
      refine .nsq ?_
      refine .ret ?_
      have hr := Option.some.inj h
      subst hr
      exact rrA (res_tmp h4) rfl
def w_eqIntA2S (F : Nat) (a_1 : (List (Int × Int))) (b_2 : (List (Int × Int))) : Option Bool :=
  bif ((a_1.length : Int) != (b_2.length : Int)) then
    some false
  else
    w_eqIntA2S_l1 F a_1 b_2 F 0
theorem t53 (H : H53 D σ F) (a_1 : (List (Int × Int))) (b_2 : (List (Int × Int))) (s : Nat → V) (hs : Facts [(0, (Enc.enc (a_1 : List (Int × Int)))), (1, (Enc.enc (b_2 : List (Int × Int))))] s) (h : w_eqIntA2S F a_1 b_2 = some r) : Run D σ (R53 r) (.run A53 []) s := by
  unfold w_eqIntA2S at h
  obtain ⟨h0, h1⟩ := hs
  refine .seq ?_
  refine run_reg ?_
  refine e_end ?_
  refine g_v0 (.bool false) rfl rfl ?_
  refine g_end ?_
  refine e_end ?_
  refine renew [(0, (Enc.enc (a_1 : List (Int × Int)))), (1, (Enc.enc (b_2 : List (Int × Int)))), (4, (.bool false))] ⟨h0, h1, rfl⟩ ?_
  rintro s ⟨h0, h1, h4⟩
  refine .nsq ?_
  refine .seq ?_
  refine .seq ?_
  refine run_reg ?_
  refine e_end ?_
  refine g_v1 (t := 0) (u := (Enc.enc (a_1 : List (Int × Int)))) (Enc.enc (a_1 : List (Int × Int))) h0 rfl rfl ?_
  refine g_v (.int .i64 (a_1.length : Int)) (ev_len (xs := a_1) rfl) ?_
  refine g_v1 (t := 1) (u := (Enc.enc (b_2 : List (Int × Int)))) (Enc.enc (b_2 : List (Int × Int))) h1 rfl rfl ?_
  refine g_v (.int .i64 (b_2.length : Int)) (ev_len (xs := b_2) rfl) ?_
  refine g_v2 (t1 := 7) (t2 := 9) (u1 := (.int .i64 (a_1.length : Int))) (u2 := (.int .i64 (b_2.length : Int))) (.bool ((a_1.length : Int) != (b_2.length : Int))) rfl rfl rfl rfl ?_
  refine g_end ?_
  refine e_end ?_
  refine renew [(0, (Enc.enc (a_1 : List (Int × Int)))), (1, (Enc.enc (b_2 : List (Int × Int)))), (4, (.bool false)), (10, (.bool ((a_1.length : Int) != (b_2.length : Int))))] ⟨h0, h1, h4, rfl⟩ ?_
  rintro s ⟨h0, h1, h4, h10⟩
  refine .nsq ?_
  refine run_cond (t := ((a_1.length : Int) != (b_2.length : Int))) h10 h (fun h => ?_) (fun h => ?_)
  · refine .seq ?_
    refine run_reg ?_
    refine e_end ?_
    refine g_v0 (.bool false) rfl rfl ?_
    refine g_end ?_
    refine e_end ?_
    refine renew [(0, (Enc.enc (a_1 : List (Int × Int)))), (1, (Enc.enc (b_2 : List (Int × Int)))), (4, (.bool false))] ⟨h0, h1, rfl⟩ ?_
    rintro s ⟨h0, h1, h4⟩
    refine .nsq ?_
    refine .ret ?_
    have hr := Option.some.inj h
    subst hr
    exact rrA (res_tmp h4) rfl
  · refine .skip ?_
    refine .nsq ?_
    refine .seq ?_
    refine .seq ?_
    refine run_reg ?_
    refine e_end ?_
    refine g_v0 (.int .i64 0) rfl rfl ?_
    refine g_end ?_
    refine e_end ?_
    refine renew [(0, (Enc.enc (a_1 : List (Int × Int)))), (1, (Enc.enc (b_2 : List (Int × Int)))), (4, (.bool false)), (5, (.int .i64 0))] ⟨h0, h1, h4, rfl⟩ ?_
    rintro s ⟨h0, h1, h4, h5⟩
    refine .nsq ?_
    refine .block ?_
    refine .loop ?_
    exact t_f53_l1 H a_1 b_2 F 0 _ ⟨h0, h1, h4, h5⟩ h
end
def e53 (F : Nat) : Ent := ⟨53, da (fun (x : ((List (Int × Int)) × (List (Int × Int)) × Unit)) => w_eqIntA2S F x.1 x.2.1) (fun (r : Bool) => (Enc.enc (r : Bool))), 0, false, selF []⟩
theorem p53 {F : Nat} {x0 : (List (Int × Int))} {x1 : (List (Int × Int))} {r : Bool} (h : w_eqIntA2S F x0 x1 = some r) : (e53 F).den [Enc.enc x0, Enc.enc x1] = some (Enc.enc (r : Bool)) := da_put (f := fun (x : ((List (Int × Int)) × (List (Int × Int)) × Unit)) => w_eqIntA2S F x.1 x.2.1) (t := fun (r : Bool) => (Enc.enc (r : Bool))) (x0, x1, ()) h
theorem o53 {D : Den} {σ : Sig} {F : Nat} (hF : Fits2 Try.prog D σ) (H : H53 D σ F) : (e53 F).Ok Try.prog := by
  refine ⟨fun args r h => ?_, ⟨Try.f53, Try.func53, rfl, rfl⟩⟩
  obtain ⟨⟨x0, x1, _⟩, y, rfl, hy, rfl⟩ := da_open h
  exact contract_run hF (by kernel_rfl) Try.func53 rfl c53 (show 2 ≤ Try.f53.ntmps by decide) (t53 H x0 x1 _ ⟨rfl, rfl⟩ hy)
/- loop.example/g01109/laws.eqGraph -/
def A20_2 : AC := (AC.cond (O.t 9) (AC.seq (AC.reg [] [(I.mk (some 4) none false (X.v (A.mov (O.k (V.bool false)))))] []) AC.ret) AC.skip)
def A20_4 : AC := (AC.cond (O.t 15) (AC.seq (AC.reg [] [(I.mk (some 4) none false (X.v (A.mov (O.k (V.bool false)))))] []) AC.ret) AC.skip)
def A20_5 : AC := (AC.seq (AC.reg [] [(I.mk (some 4) none false (X.v (A.mov (O.k (V.bool true)))))] []) AC.ret)
def A20_3 : AC := (AC.seq (AC.seq (AC.reg [] [(I.mk (some 10) none false (X.v (A.fld (O.t 2) 1 1))), (I.mk (some 11) none false (X.v (A.load Sh.p (O.t 10)))), (I.mk (some 12) none false (X.v (A.fld (O.t 3) 1 1))), (I.mk (some 13) none false (X.v (A.load Sh.p (O.t 12)))), (I.mk (some 14) none false (X.call (O.k (V.fn 53 [] [])) [(O.t 11), (O.t 13)])), (I.mk (some 15) none false (X.v (A.un UnOp.not (O.t 14))))] []) A20_4) A20_5)
def A20_1 : AC := (AC.seq (AC.seq (AC.reg [] [(I.mk (some 5) none false (X.v (A.fld (O.t 2) 0 0))), (I.mk (some 6) none false (X.v (A.load Sh.s (O.t 5)))), (I.mk (some 7) none false (X.v (A.fld (O.t 3) 0 0))), (I.mk (some 8) none false (X.v (A.load Sh.s (O.t 7)))), (I.mk (some 9) none false (X.v (A.bin BinOp.neq (O.t 6) (O.t 8))))] []) A20_2) A20_3)
def A20 : AC := (AC.seq (AC.reg [.clr [2, 3]] [(I.mk (some 2) none false (X.box (O.t 0))), (I.mk (some 3) none false (X.box (O.t 1))), (I.mk (some 4) none false (X.v (A.mov (O.k (V.bool false)))))] []) A20_1)
def an20 : List An := [{ id := 0, pre := [.clr [2, 3]], ep := [], lin := [], sp := [] }]
theorem c20 : cC Try.prog Try.f20.ntmps an20 (Try.f20.body.getD .skip) = some A20 := by kernel_rfl
structure H20 (D : Den) (σ : Sig) (F : Nat) : Prop where
  c53 : ∀ (x0 : (List (Int × Int))) (x1 : (List (Int × Int))) r, w_eqIntA2S F x0 x1 = some r → D 53 [Enc.enc x0, Enc.enc x1] = some (Enc.enc (r : Bool))
  g53 : σ 53 = some (0, false)
abbrev R20 (r : Bool) : (Nat → V) → Prop := RR Try.prog [.tmp 4] 0 false (Enc.enc (r : Bool))
section
variable {D : Den} {σ : Sig} {F : Nat} {r : Bool}
def w_eqGraph (F : Nat) (a_1 : (Int × (List (Int × Int)))) (b_2 : (Int × (List (Int × Int)))) : Option Bool :=
  bif (a_1.1 != b_2.1) then
    some false
  else
    (w_eqIntA2S F a_1.2 b_2.2).bind fun r_3 =>
    bif (!r_3) then
      some false
    else
      some true
theorem t20 (H : H20 D σ F) (a_1 : (Int × (List (Int × Int)))) (b_2 : (Int × (List (Int × Int)))) (s : Nat → V) (hs : Facts [(0, (.agg [(.int .i64 a_1.1), (Enc.enc (a_1.2 : List (Int × Int)))])), (1, (.agg [(.int .i64 b_2.1), (Enc.enc (b_2.2 : List (Int × Int)))]))] s) (h : w_eqGraph F a_1 b_2 = some r) : Run D σ (R20 r) (.run A20 []) s := by
  unfold w_eqGraph at h
  obtain ⟨h0, h1⟩ := hs
  refine .seq ?_
  refine run_reg ?_
  refine e_clr ?_
  refine e_end ?_
  refine g_box (.agg [(.int .i64 a_1.1), (Enc.enc (a_1.2 : List (Int × Int)))]) (rd_of (keep_clear (s := s) (pk := [2, 3]) h0 rfl (map_agg (maps_cons rfl (maps_cons (Enc.map_enc _ (a_1.2 : List (Int × Int))) maps_nil)))) rfl) (gone_clear (s := s) (pk := [2, 3]) (t := 2) rfl) rfl ?_
  refine g_box (.agg [(.int .i64 b_2.1), (Enc.enc (b_2.2 : List (Int × Int)))]) (rd_of (keep_clear (s := s) (pk := [2, 3]) h1 rfl (map_agg (maps_cons rfl (maps_cons (Enc.map_enc _ (b_2.2 : List (Int × Int))) maps_nil)))) rfl) (gone_clear (s := s) (pk := [2, 3]) (t := 3) rfl) rfl ?_
  refine g_v0 (.bool false) rfl rfl ?_
  refine g_end ?_
  refine e_end ?_
  refine renew [(2, (.ref (.bx 2) 0 [] (.agg [(.int .i64 a_1.1), (Enc.enc (a_1.2 : List (Int × Int)))]))), (3, (.ref (.bx 3) 0 [] (.agg [(.int .i64 b_2.1), (Enc.enc (b_2.2 : List (Int × Int)))]))), (4, (.bool false))] ⟨rfl, rfl, rfl⟩ ?_
  rintro s ⟨h2, h3, h4⟩
  refine .nsq ?_
  refine .seq ?_
  refine .seq ?_
  refine run_reg ?_
  refine e_end ?_
  refine g_v1 (t := 2) (u := (.ref (.bx 2) 0 [] (.agg [(.int .i64 a_1.1), (Enc.enc (a_1.2 : List (Int × Int)))]))) (.ref (.bx 2) 0 [0] (.int .i64 a_1.1)) h2 rfl rfl ?_
  refine g_v1 (t := 5) (u := (.ref (.bx 2) 0 [0] (.int .i64 a_1.1))) (.int .i64 a_1.1) rfl rfl rfl ?_
  refine g_v1 (t := 3) (u := (.ref (.bx 3) 0 [] (.agg [(.int .i64 b_2.1), (Enc.enc (b_2.2 : List (Int × Int)))]))) (.ref (.bx 3) 0 [0] (.int .i64 b_2.1)) h3 rfl rfl ?_
  refine g_v1 (t := 7) (u := (.ref (.bx 3) 0 [0] (.int .i64 b_2.1))) (.int .i64 b_2.1) rfl rfl rfl ?_
  refine g_v2 (t1 := 6) (t2 := 8) (u1 := (.int .i64 a_1.1)) (u2 := (.int .i64 b_2.1)) (.bool (a_1.1 != b_2.1)) rfl rfl rfl rfl ?_
  refine g_end ?_
  refine e_end ?_
  refine renew [(2, (.ref (.bx 2) 0 [] (.agg [(.int .i64 a_1.1), (Enc.enc (a_1.2 : List (Int × Int)))]))), (3, (.ref (.bx 3) 0 [] (.agg [(.int .i64 b_2.1), (Enc.enc (b_2.2 : List (Int × Int)))]))), (4, (.bool false)), (9, (.bool (a_1.1 != b_2.1)))] ⟨h2, h3, h4, rfl⟩ ?_
  rintro s ⟨h2, h3, h4, h9⟩
  refine .nsq ?_
  refine run_cond (t := (a_1.1 != b_2.1)) h9 h (fun h => ?_) (fun h => ?_)
  · refine .seq ?_
    refine run_reg ?_
    refine e_end ?_
    refine g_v0 (.bool false) rfl rfl ?_
    refine g_end ?_
    refine e_end ?_
    refine renew [(2, (.ref (.bx 2) 0 [] (.agg [(.int .i64 a_1.1), (Enc.enc (a_1.2 : List (Int × Int)))]))), (3, (.ref (.bx 3) 0 [] (.agg [(.int .i64 b_2.1), (Enc.enc (b_2.2 : List (Int × Int)))]))), (4, (.bool false))] ⟨h2, h3, rfl⟩ ?_
    rintro s ⟨h2, h3, h4⟩
    refine .nsq ?_
    refine .ret ?_
    have hr := Option.some.inj h
    subst hr
    exact rrA (res_tmp h4) rfl
  · refine .skip ?_
    refine .nsq ?_
    refine .seq ?_
    refine .seq ?_
    refine run_reg ?_
    refine e_end ?_
    refine g_v1 (t := 2) (u := (.ref (.bx 2) 0 [] (.agg [(.int .i64 a_1.1), (Enc.enc (a_1.2 : List (Int × Int)))]))) (.ref (.bx 2) 0 [1] (Enc.enc (a_1.2 : List (Int × Int)))) h2 rfl rfl ?_
    refine g_v1 (t := 10) (u := (.ref (.bx 2) 0 [1] (Enc.enc (a_1.2 : List (Int × Int))))) (Enc.enc (a_1.2 : List (Int × Int))) rfl rfl rfl ?_
    refine g_v1 (t := 3) (u := (.ref (.bx 3) 0 [] (.agg [(.int .i64 b_2.1), (Enc.enc (b_2.2 : List (Int × Int)))]))) (.ref (.bx 3) 0 [1] (Enc.enc (b_2.2 : List (Int × Int)))) h3 rfl rfl ?_
    refine g_v1 (t := 12) (u := (.ref (.bx 3) 0 [1] (Enc.enc (b_2.2 : List (Int × Int))))) (Enc.enc (b_2.2 : List (Int × Int))) rfl rfl rfl ?_
    obtain ⟨r_3, E_r_3, h⟩ := bind_some h
    refine g_call (m := 0) (al := false) (r := (Enc.enc (r_3 : Bool))) [Enc.enc (a_1.2 : (List (Int × Int))), Enc.enc (b_2.2 : (List (Int × Int)))] (ta_cons (v := (Enc.enc (a_1.2 : List (Int × Int)))) rfl rfl (Enc.erase_enc (a_1.2 : (List (Int × Int)))) (ta_cons (v := (Enc.enc (b_2.2 : List (Int × Int)))) rfl rfl (Enc.erase_enc (b_2.2 : (List (Int × Int)))) ta_nil)) (H.c53 _ _ _ E_r_3) H.g53 rfl rfl rfl rfl ?_
    refine g_v1 (t := 14) (u := (.bool r_3)) (.bool (!r_3)) rfl rfl rfl ?_
    refine g_end ?_
    refine e_end ?_
    refine renew [(4, (.bool false)), (15, (.bool (!r_3)))] ⟨h4, rfl⟩ ?_
    rintro s ⟨h4, h15⟩
    refine .nsq ?_
    refine run_cond (t := (!r_3)) h15 h (fun h => ?_) (fun h => ?_)
    · refine .seq ?_
      refine run_reg ?_
      refine e_end ?_
      refine g_v0 (.bool false) rfl rfl ?_
      refine g_end ?_
      refine e_end ?_
      refine renew [(4, (.bool false))] rfl ?_
      rintro s h4
      refine .nsq ?_
      refine .ret ?_
      have hr := Option.some.inj h
      subst hr
      exact rrA (res_tmp h4) rfl
    · refine .skip ?_
      refine .nsq ?_
      refine .seq ?_
      refine run_reg ?_
      refine e_end ?_
      refine g_v0 (.bool true) rfl rfl ?_
      refine g_end ?_
      refine e_end ?_
      refine renew [(4, (.bool true))] rfl ?_
      rintro s h4
      refine .nsq ?_
      refine .ret ?_
      have hr := Option.some.inj h
      subst hr
      exact rrA (res_tmp h4) rfl
end
def e20 (F : Nat) : Ent := ⟨20, da (fun (x : ((Int × (List (Int × Int))) × (Int × (List (Int × Int))) × Unit)) => w_eqGraph F x.1 x.2.1) (fun (r : Bool) => (Enc.enc (r : Bool))), 0, false, selF []⟩
theorem p20 {F : Nat} {x0 : (Int × (List (Int × Int)))} {x1 : (Int × (List (Int × Int)))} {r : Bool} (h : w_eqGraph F x0 x1 = some r) : (e20 F).den [Enc.enc x0, Enc.enc x1] = some (Enc.enc (r : Bool)) := da_put (f := fun (x : ((Int × (List (Int × Int))) × (Int × (List (Int × Int))) × Unit)) => w_eqGraph F x.1 x.2.1) (t := fun (r : Bool) => (Enc.enc (r : Bool))) (x0, x1, ()) h
theorem o20 {D : Den} {σ : Sig} {F : Nat} (hF : Fits2 Try.prog D σ) (H : H20 D σ F) : (e20 F).Ok Try.prog := by
  refine ⟨fun args r h => ?_, ⟨Try.f20, Try.func20, rfl, rfl⟩⟩
  obtain ⟨⟨x0, x1, _⟩, y, rfl, hy, rfl⟩ := da_open h
  exact contract_run hF (by kernel_rfl) Try.func20 rfl c20 (show 2 ≤ Try.f20.ntmps by decide) (t20 H x0 x1 _ ⟨rfl, rfl⟩ hy)
/- loop.example/g01109/laws.FnExactTreewidthOf -/
def A8_1 : AC := (AC.cond (O.t 34) (AC.seq (AC.reg [] [(I.mk (some 2) none false (X.v (A.mov (O.k (V.bool false)))))] []) AC.ret) AC.skip)
def A8_3 : AC := (AC.cond (O.t 39) (AC.seq (AC.reg [] [(I.mk (some 2) none false (X.v (A.mov (O.k (V.bool false)))))] []) AC.ret) AC.skip)
def A8_4 : AC := (AC.seq (AC.reg [] [(I.mk (some 2) none false (X.v (A.mov (O.k (V.bool true)))))] []) AC.ret)
def A8_2 : AC := (AC.seq (AC.seq (AC.reg [] [(I.mk (some 35) none false (X.v (A.load (Sh.ag [Sh.s, Sh.p]) (O.t 6)))), (I.mk (some 36) none false (X.v (A.load (Sh.ag [Sh.s, Sh.p]) (O.t 1)))), (I.mk (some 37) none false (X.call (O.k (V.fn 17 [] [])) [(O.t 36)])), (I.mk (some 38) none false (X.call (O.k (V.fn 20 [] [])) [(O.t 35), (O.t 37)])), (I.mk (some 39) none false (X.v (A.un UnOp.not (O.t 38))))] []) A8_3) A8_4)
def A8_8 : AC := (AC.cond (O.t 13) (AC.seq (AC.reg [] [(I.mk (some 2) none false (X.v (A.mov (O.k (V.bool true)))))] []) AC.ret) AC.skip)
def A8_12 : AC := (AC.seq (AC.seq (AC.reg [] [(I.mk (some 27) none false (X.v (A.mov (O.t 7)))), (I.mk (some 28) none false (X.v (A.mov (O.t 4)))), (I.mk (some 29) none false (X.v (A.bin BinOp.neq (O.t 27) (O.t 28)))), (I.mk (some 30) none false (X.v (A.mov (O.t 29)))), (I.mk (some 31) (some (30, false)) false (X.v (A.mov (O.t 8)))), (I.mk (some 32) (some (30, false)) false (X.v (A.mov (O.t 5)))), (I.mk (some 33) (some (30, false)) false (X.v (A.beq true (O.t 31) (O.t 32)))), (I.mk (some 34) none false (X.v (A.pick (O.t 30) (O.k (V.bool true)) (O.t 33))))] []) A8_1) A8_2)
def A8_11 : AC := (AC.seq (AC.reg [] [(I.mk (some 23) none false (X.v (A.load (Sh.ag [Sh.s, Sh.p]) (O.t 6)))), (I.mk (some 24) none false (X.call (O.k (V.fn 31 [] [])) [(O.t 23)])), (I.mk (some 22) none false (X.v (A.mov (O.t 24)))), (I.mk (some 25) none false (X.v (A.extS (O.t 22) 0))), (I.mk (some 26) none false (X.v (A.extS (O.t 22) 1))), (I.mk (some 7) none false (X.v (A.mov (O.t 25)))), (I.mk (some 8) none false (X.v (A.mov (O.t 26))))] []) A8_12)
def A8_10 : AC := (AC.seq (AC.reg [.clr [6]] [(I.mk (some 20) none false (X.v (A.load (Sh.ag [Sh.s, Sh.p]) (O.t 1)))), (I.mk (some 21) none false (X.call (O.k (V.fn 17 [] [])) [(O.t 20)])), (I.mk (some 6) none false (X.alloc (V.agg [(V.int IntKind.i64 (Int.ofNat 0)), (V.sl Tok.nl (Sh.ag [Sh.s, Sh.s]) 0 [])]))), (I.mk none none false (X.store (Sh.ag [Sh.s, Sh.p]) (O.t 6) (O.t 21)))] []) A8_11)
def A8_9 : AC := (AC.seq (AC.reg [] [(I.mk (some 15) none false (X.v (A.load (Sh.ag [Sh.s, Sh.p]) (O.t 1)))), (I.mk (some 16) none false (X.call (O.k (V.fn 17 [] [])) [(O.t 15)])), (I.mk (some 17) none false (X.call (O.k (V.fn 30 [] [])) [(O.t 16)])), (I.mk (some 14) none false (X.v (A.mov (O.t 17)))), (I.mk (some 18) none false (X.v (A.extS (O.t 14) 0))), (I.mk (some 19) none false (X.v (A.extS (O.t 14) 1))), (I.mk (some 4) none false (X.v (A.mov (O.t 18)))), (I.mk (some 5) none false (X.v (A.mov (O.t 19))))] []) A8_10)
def A8_7 : AC := (AC.seq (AC.seq (AC.reg [] [(I.mk (some 12) none false (X.v (A.mov (O.t 3)))), (I.mk (some 13) none false (X.v (A.bin BinOp.lss (O.t 12) (O.k (V.int IntKind.i64 (Int.ofNat 0))))))] []) A8_8) A8_9)
def A8_6 : AC := (AC.seq (AC.reg [] [(I.mk (some 9) none false (X.v (A.load (Sh.ag [Sh.s, Sh.p]) (O.t 1)))), (I.mk (some 10) none false (X.v (A.mov (O.t 3)))), (I.mk (some 11) none false (X.call (O.k (V.fn 15 [] [])) [(O.t 9), (O.t 10)])), (I.mk (some 3) none false (X.v (A.mov (O.t 11))))] []) A8_7)
def A8_5 : AC := (AC.seq (AC.reg [] [(I.mk (some 3) none false (X.v (A.mov (O.k (V.int IntKind.i64 (Int.ofNat 1048576))))))] []) A8_6)
def A8 : AC := (AC.seq (AC.reg [.clr [1]] [(I.mk (some 1) none false (X.box (O.t 0))), (I.mk (some 2) none false (X.v (A.mov (O.k (V.bool false)))))] []) A8_5)
def an8 : List An := [{ id := 0, pre := [.clr [1]], ep := [], lin := [], sp := [] }, { id := 6, pre := [.clr [6]], ep := [], lin := [], sp := [] }]
theorem c8 : cC Try.prog Try.f8.ntmps an8 (Try.f8.body.getD .skip) = some A8 := by kernel_rfl
structure H8 (D : Den) (σ : Sig) (F : Nat) : Prop where
  c15 : ∀ (x0 : (Int × (List (Int × Int)))) (x1 : Int) r, w_szGraph F x0 x1 = some r → D 15 [Enc.enc x0, Enc.enc x1] = some (Enc.enc (r : Int))
  g15 : σ 15 = some (0, false)
  c17 : ∀ (x0 : (Int × (List (Int × Int)))) r, w_toGraph F x0 = some r → D 17 [Enc.enc x0] = some (Enc.enc (r : (Int × (List (Int × Int)))))
  g17 : σ 17 = some (0, true)
  c30 : ∀ (x0 : (Int × (List (Int × Int)))) r, s_TreewidthOf F x0 = some r → D 30 [Enc.enc x0] = some (.tup [Enc.enc (r.1 : Int), Enc.enc (r.2 : Bool)])
  g30 : σ 30 = some (0, false)
  c31 : ∀ (x0 : (Int × (List (Int × Int)))) r, i_TreewidthOf F x0 = some r → D 31 [Enc.enc x0] = some (.tup [Enc.enc (r.1 : Int), Enc.enc (r.2 : Bool)])
  g31 : σ 31 = some (0, false)
  c20 : ∀ (x0 : (Int × (List (Int × Int)))) (x1 : (Int × (List (Int × Int)))) r, w_eqGraph F x0 x1 = some r → D 20 [Enc.enc x0, Enc.enc x1] = some (Enc.enc (r : Bool))
  g20 : σ 20 = some (0, false)
abbrev R8 (r : Bool) : (Nat → V) → Prop := RR Try.prog [.tmp 2] 0 false (Enc.enc (r : Bool))
section
variable {D : Den} {σ : Sig} {F : Nat} {r : Bool}
def w_FnExactTreewidthOf_j1 (F : Nat) (aG_1 : (Int × (List (Int × Int)))) (r_5 : (Int × (List (Int × Int))))  (t34_7 : Bool) : Option Bool :=
  bif t34_7 then
    some false
  else
    (w_toGraph F aG_1).bind fun r_8 =>
    (w_eqGraph F r_5 r_8).bind fun r_9 =>
    bif (!r_9) then
      some false
    else
      some true
theorem t_f8_j1 (H : H8 D σ F) (aG_1 : (Int × (List (Int × Int)))) (r_5 : (Int × (List (Int × Int))))  (t34_7 : Bool) (s : Nat → V) (hs : Facts [(1, (.ref (.bx 1) 0 [] (.agg [(.int .i64 aG_1.1), (Enc.enc (aG_1.2 : List (Int × Int)))]))), (2, (.bool false)), (6, (.ref (.bx 6) 0 [] (.agg [(.int .i64 r_5.1), (Enc.enc (r_5.2 : List (Int × Int)))]))), (34, (.bool t34_7))] s) (h : w_FnExactTreewidthOf_j1 F aG_1 r_5  t34_7 = some r) : Run D σ (R8 r) (.nrm [.sq A8_1, .sq A8_2]) s := by
  unfold w_FnExactTreewidthOf_j1 at h
  obtain ⟨h1, h2, h6, h34⟩ := hs
  refine .nsq ?_
  refine run_cond (t := t34_7) h34 h (fun h => ?_) (fun h => ?_)
  · refine .seq ?_
    refine run_reg ?_
    refine e_end ?_
    refine g_v0 (.bool false) rfl rfl ?_
    refine g_end ?_
    refine e_end ?_
    refine renew [(1, (.ref (.bx 1) 0 [] (.agg [(.int .i64 aG_1.1), (Enc.enc (aG_1.2 : List (Int × Int)))]))), (2, (.bool false)), (6, (.ref (.bx 6) 0 [] (.agg [(.int .i64 r_5.1), (Enc.enc (r_5.2 : List (Int × Int)))])))] ⟨h1, rfl, h6⟩ ?_
    rintro s ⟨h1, h2, h6⟩
    refine .nsq ?_
    refine .ret ?_
    have hr := Option.some.inj h
    subst hr
    exact rrA (res_tmp h2) rfl
  · refine .skip ?_
    refine .nsq ?_
    refine .seq ?_
    refine .seq ?_
    refine run_reg ?_
    refine e_end ?_
    refine g_v1 (t := 6) (u := (.ref (.bx 6) 0 [] (.agg [(.int .i64 r_5.1), (Enc.enc (r_5.2 : List (Int × Int)))]))) (.agg [(.int .i64 r_5.1), (Enc.enc (r_5.2 : List (Int × Int)))]) h6 rfl rfl ?_
    refine g_v1 (t := 1) (u := (.ref (.bx 1) 0 [] (.agg [(.int .i64 aG_1.1), (Enc.enc (aG_1.2 : List (Int × Int)))]))) (.agg [(.int .i64 aG_1.1), (Enc.enc (aG_1.2 : List (Int × Int)))]) h1 rfl rfl ?_
    obtain ⟨r_8, E_r_8, h⟩ := bind_some h
    refine g_call (m := 0) (al := true) (r := (Enc.enc (r_8 : (Int × (List (Int × Int)))))) [Enc.enc (aG_1 : (Int × (List (Int × Int))))] (ta_cons (v := (.agg [(.int .i64 aG_1.1), (Enc.enc (aG_1.2 : List (Int × Int)))])) rfl rfl (Enc.erase_enc (aG_1 : (Int × (List (Int × Int))))) ta_nil) (H.c17 _ _ E_r_8) H.g17 (hal_of (ht_cons (v := (.agg [(.int .i64 aG_1.1), (Enc.enc (aG_1.2 : List (Int × Int)))])) rfl rfl rfl ht_nil)) rfl rfl rfl ?_
    obtain ⟨r_9, E_r_9, h⟩ := bind_some h
    refine g_call (m := 0) (al := false) (r := (Enc.enc (r_9 : Bool))) [Enc.enc (r_5 : (Int × (List (Int × Int)))), Enc.enc (r_8 : (Int × (List (Int × Int))))] (ta_cons (v := (.agg [(.int .i64 r_5.1), (Enc.enc (r_5.2 : List (Int × Int)))])) rfl rfl (Enc.erase_enc (r_5 : (Int × (List (Int × Int))))) (ta_cons (v := (.agg [(.int .i64 r_8.1), (Enc.enc (r_8.2 : List (Int × Int)))])) rfl rfl (Enc.erase_enc (r_8 : (Int × (List (Int × Int))))) ta_nil)) (H.c20 _ _ _ E_r_9) H.g20 rfl rfl rfl rfl ?_
    refine g_v1 (t := 38) (u := (.bool r_9)) (.bool (!r_9)) rfl rfl rfl ?_
    refine g_end ?_
    refine e_end ?_
    refine renew [(2, (.bool false)), (39, (.bool (!r_9)))] ⟨h2, rfl⟩ ?_
    rintro s ⟨h2, h39⟩
    refine .nsq ?_
    refine run_cond (t := (!r_9)) h39 h (fun h => ?_) (fun h => ?_)
    · refine .seq ?_
      refine run_reg ?_
      refine e_end ?_
      refine g_v0 (.bool false) rfl rfl ?_
      refine g_end ?_
      refine e_end ?_
      refine renew [(2, (.bool false))] rfl ?_
      rintro s h2
      refine .nsq ?_
      refine .ret ?_
      have hr := Option.some.inj h
      subst hr
      exact rrA (res_tmp h2) rfl
    · refine .skip ?_
      refine .nsq ?_
      refine .seq ?_
      refine run_reg ?_
      refine e_end ?_
      refine g_v0 (.bool true) rfl rfl ?_
      refine g_end ?_
      refine e_end ?_
      refine renew [(2, (.bool true))] rfl ?_
      rintro s h2
      refine .nsq ?_
      refine .ret ?_
      have hr := Option.some.inj h
      subst hr
      exact rrA (res_tmp h2) rfl
def w_FnExactTreewidthOf (F : Nat) (aG_1 : (Int × (List (Int × Int)))) : Option Bool :=
  (w_szGraph F aG_1 1048576).bind fun r_2 =>
  bif decide (r_2 < 0) then
    some true
  else
    (w_toGraph F aG_1).bind fun r_3 =>
    (s_TreewidthOf F r_3).bind fun r_4 =>
    (w_toGraph F aG_1).bind fun r_5 =>
    (i_TreewidthOf F r_5).bind fun r_6 =>
    bif (r_6.1 != r_4.1) then
      w_FnExactTreewidthOf_j1 F aG_1 r_5 true
    else
      w_FnExactTreewidthOf_j1 F aG_1 r_5 (r_6.2 != r_4.2)
theorem t8 (H : H8 D σ F) (aG_1 : (Int × (List (Int × Int)))) (s : Nat → V) (hs : Facts [(0, (.agg [(.int .i64 aG_1.1), (Enc.enc (aG_1.2 : List (Int × Int)))]))] s) (h : w_FnExactTreewidthOf F aG_1 = some r) : Run D σ (R8 r) (.run A8 []) s := by
  unfold w_FnExactTreewidthOf at h
  have h0 := hs
  refine .seq ?_
  refine run_reg ?_
  refine e_clr ?_
  refine e_end ?_
  refine g_box (.agg [(.int .i64 aG_1.1), (Enc.enc (aG_1.2 : List (Int × Int)))]) (rd_of (keep_clear (s := s) (pk := [1]) h0 rfl (map_agg (maps_cons rfl (maps_cons (Enc.map_enc _ (aG_1.2 : List (Int × Int))) maps_nil)))) rfl) (gone_clear (s := s) (pk := [1]) (t := 1) rfl) rfl ?_
  refine g_v0 (.bool false) rfl rfl ?_
  refine g_end ?_
  refine e_end ?_
  refine renew [(1, (.ref (.bx 1) 0 [] (.agg [(.int .i64 aG_1.1), (Enc.enc (aG_1.2 : List (Int × Int)))]))), (2, (.bool false))] ⟨rfl, rfl⟩ ?_
  rintro s ⟨h1, h2⟩
  refine .nsq ?_
  refine .seq ?_
  refine run_reg ?_
  refine e_end ?_
  refine g_v0 (.int .i64 1048576) rfl rfl ?_
  refine g_end ?_
  refine e_end ?_
  refine renew [(1, (.ref (.bx 1) 0 [] (.agg [(.int .i64 aG_1.1), (Enc.enc (aG_1.2 : List (Int × Int)))]))), (2, (.bool false)), (3, (.int .i64 1048576))] ⟨h1, h2, rfl⟩ ?_
  rintro s ⟨h1, h2, h3⟩
  refine .nsq ?_
  refine .seq ?_
  refine run_reg ?_
  refine e_end ?_
  refine g_v1 (t := 1) (u := (.ref (.bx 1) 0 [] (.agg [(.int .i64 aG_1.1), (Enc.enc (aG_1.2 : List (Int × Int)))]))) (.agg [(.int .i64 aG_1.1), (Enc.enc (aG_1.2 : List (Int × Int)))]) h1 rfl rfl ?_
  refine g_v1 (t := 3) (u := (.int .i64 1048576)) (.int .i64 1048576) h3 rfl rfl ?_
  obtain ⟨r_2, E_r_2, h⟩ := bind_some h
  refine g_call (m := 0) (al := false) (r := (Enc.enc (r_2 : Int))) [Enc.enc (aG_1 : (Int × (List (Int × Int)))), Enc.enc (1048576 : Int)] (ta_cons (v := (.agg [(.int .i64 aG_1.1), (Enc.enc (aG_1.2 : List (Int × Int)))])) rfl rfl (Enc.erase_enc (aG_1 : (Int × (List (Int × Int))))) (ta_cons (v := (.int .i64 1048576)) rfl rfl rfl ta_nil)) (H.c15 _ _ _ E_r_2) H.g15 rfl rfl rfl rfl ?_
  refine g_v1 (t := 11) (u := (.int .i64 r_2)) (.int .i64 r_2) rfl rfl rfl ?_
  refine g_end ?_
  refine e_end ?_
  refine renew [(1, (.ref (.bx 1) 0 [] (.agg [(.int .i64 aG_1.1), (Enc.enc (aG_1.2 : List (Int × Int)))]))), (2, (.bool false)), (3, (.int .i64 r_2))] ⟨h1, h2, rfl⟩ ?_
  rintro s ⟨h1, h2, h3⟩
  refine .nsq ?_
  refine .seq ?_
  refine .seq ?_
  refine run_reg ?_
  refine e_end ?_
  refine g_v1 (t := 3) (u := (.int .i64 r_2)) (.int .i64 r_2) h3 rfl rfl ?_
  refine g_v1 (t := 12) (u := (.int .i64 r_2)) (.bool (decide (r_2 < 0))) rfl rfl rfl ?_
  refine g_end ?_
  refine e_end ?_
  refine renew [(1, (.ref (.bx 1) 0 [] (.agg [(.int .i64 aG_1.1), (Enc.enc (aG_1.2 : List (Int × Int)))]))), (2, (.bool false)), (13, (.bool (decide (r_2 < 0))))] ⟨h1, h2, rfl⟩ ?_
  rintro s ⟨h1, h2, h13⟩
  refine .nsq ?_
  refine run_cond (t := decide (r_2 < 0)) h13 h (fun h => ?_) (fun h => ?_)
  · refine .seq ?_
    refine run_reg ?_
    refine e_end ?_
    refine g_v0 (.bool true) rfl rfl ?_
    refine g_end ?_
    refine e_end ?_
    refine renew [(1, (.ref (.bx 1) 0 [] (.agg [(.int .i64 aG_1.1), (Enc.enc (aG_1.2 : List (Int × Int)))]))), (2, (.bool true))] ⟨h1, rfl⟩ ?_
    rintro s ⟨h1, h2⟩
    refine .nsq ?_
    refine .ret ?_
    have hr := Option.some.inj h
    subst hr
    exact rrA (res_tmp h2) rfl
  · refine .skip ?_
    refine .nsq ?_
    refine .seq ?_
    refine run_reg ?_
    refine e_end ?_
    refine g_v1 (t := 1) (u := (.ref (.bx 1) 0 [] (.agg [(.int .i64 aG_1.1), (Enc.enc (aG_1.2 : List (Int × Int)))]))) (.agg [(.int .i64 aG_1.1), (Enc.enc (aG_1.2 : List (Int × Int)))]) h1 rfl rfl ?_
    obtain ⟨r_3, E_r_3, h⟩ := bind_some h
    refine g_call (m := 0) (al := true) (r := (Enc.enc (r_3 : (Int × (List (Int × Int)))))) [Enc.enc (aG_1 : (Int × (List (Int × Int))))] (ta_cons (v := (.agg [(.int .i64 aG_1.1), (Enc.enc (aG_1.2 : List (Int × Int)))])) rfl rfl (Enc.erase_enc (aG_1 : (Int × (List (Int × Int))))) ta_nil) (H.c17 _ _ E_r_3) H.g17 (hal_of (ht_cons (v := (.agg [(.int .i64 aG_1.1), (Enc.enc (aG_1.2 : List (Int × Int)))])) rfl rfl rfl ht_nil)) rfl rfl rfl ?_
    obtain ⟨r_4, E_r_4, h⟩ := bind_some h
    refine g_call (m := 0) (al := false) (r := (.tup [Enc.enc (r_4.1 : Int), Enc.enc (r_4.2 : Bool)])) [Enc.enc (r_3 : (Int × (List (Int × Int))))] (ta_cons (v := (.agg [(.int .i64 r_3.1), (Enc.enc (r_3.2 : List (Int × Int)))])) rfl rfl (Enc.erase_enc (r_3 : (Int × (List (Int × Int))))) ta_nil) (H.c30 _ _ E_r_4) H.g30 rfl rfl rfl rfl ?_
    refine g_v1 (t := 17) (u := (.tup [(.int .i64 r_4.1), (.bool r_4.2)])) (.tup [(.int .i64 r_4.1), (.bool r_4.2)]) rfl rfl rfl ?_
    refine g_v1 (t := 14) (u := (.tup [(.int .i64 r_4.1), (.bool r_4.2)])) (.int .i64 r_4.1) rfl rfl rfl ?_
    refine g_v1 (t := 14) (u := (.tup [(.int .i64 r_4.1), (.bool r_4.2)])) (.bool r_4.2) rfl rfl rfl ?_
    refine g_v1 (t := 18) (u := (.int .i64 r_4.1)) (.int .i64 r_4.1) rfl rfl rfl ?_
    refine g_v1 (t := 19) (u := (.bool r_4.2)) (.bool r_4.2) rfl rfl rfl ?_
    refine g_end ?_
    refine e_end ?_
    refine renew [(1, (.ref (.bx 1) 0 [] (.agg [(.int .i64 aG_1.1), (Enc.enc (aG_1.2 : List (Int × Int)))]))), (2, (.bool false)), (4, (.int .i64 r_4.1)), (5, (.bool r_4.2))] ⟨h1, h2, rfl, rfl⟩ ?_
    rintro s ⟨h1, h2, h4, h5⟩
    refine .nsq ?_
    refine .seq ?_
    refine run_reg ?_
    refine e_clr ?_
    refine e_end ?_
    refine g_v1 (t := 1) (u := (.ref (.bx 1) 0 [] (.agg [(.int .i64 aG_1.1), (Enc.enc (aG_1.2 : List (Int × Int)))]))) (.agg [(.int .i64 aG_1.1), (Enc.enc (aG_1.2 : List (Int × Int)))]) (keep_clear (s := s) (pk := [6]) h1 rfl (map_bx rfl (map_agg (maps_cons rfl (maps_cons (Enc.map_enc _ (aG_1.2 : List (Int × Int))) maps_nil))))) rfl rfl ?_
    obtain ⟨r_5, E_r_5, h⟩ := bind_some h
    refine g_call (m := 0) (al := true) (r := (Enc.enc (r_5 : (Int × (List (Int × Int)))))) [Enc.enc (aG_1 : (Int × (List (Int × Int))))] (ta_cons (v := (.agg [(.int .i64 aG_1.1), (Enc.enc (aG_1.2 : List (Int × Int)))])) rfl rfl (Enc.erase_enc (aG_1 : (Int × (List (Int × Int))))) ta_nil) (H.c17 _ _ E_r_5) H.g17 (hal_of (ht_cons (v := (.agg [(.int .i64 aG_1.1), (Enc.enc (aG_1.2 : List (Int × Int)))])) rfl rfl rfl ht_nil)) rfl rfl rfl ?_
    refine g_alloc (gone_clear (s := s) (pk := [6]) (t := 6) rfl) ?_
    refine g_store (.agg [(.int .i64 r_5.1), (Enc.enc (r_5.2 : List (Int × Int)))]) (rd_of rfl rfl) (rd_of rfl rfl) (by refine ⟨by decide, by decide, rfl, rfl, rfl, ?_⟩; first | rfl | simp [V.toks, V.tokss, Enc.toks_enc]) ?_
    refine g_end ?_
    refine e_end ?_
    refine renew [(1, (.ref (.bx 1) 0 [] (.agg [(.int .i64 aG_1.1), (Enc.enc (aG_1.2 : List (Int × Int)))]))), (2, (.bool false)), (4, (.int .i64 r_4.1)), (5, (.bool r_4.2)), (6, (.ref (.bx 6) 0 [] (.agg [(.int .i64 r_5.1), (Enc.enc (r_5.2 : List (Int × Int)))])))] ⟨(keep_mut (keep_clear (s := s) (pk := [6]) h1 rfl (map_bx rfl (map_agg (maps_cons rfl (maps_cons (Enc.map_enc _ (aG_1.2 : List (Int × Int))) maps_nil))))) (mut_ref_ne rfl rfl (mut_agg (muts_cons rfl (muts_cons (Enc.mut_enc _ _ _ _ (aG_1.2 : List (Int × Int))) rfl))))), (keep_mut (keep_clear (s := s) (pk := [6]) h2 rfl rfl) rfl), (keep_mut (keep_clear (s := s) (pk := [6]) h4 rfl rfl) rfl), (keep_mut (keep_clear (s := s) (pk := [6]) h5 rfl rfl) rfl), (keep_mut rfl rfl)⟩ ?_
    rintro s ⟨h1, h2, h4, h5, h6⟩
    refine .nsq ?_
    refine .seq ?_
    refine run_reg ?_
    refine e_end ?_
    refine g_v1 (t := 6) (u := (.ref (.bx 6) 0 [] (.agg [(.int .i64 r_5.1), (Enc.enc (r_5.2 : List (Int × Int)))]))) (.agg [(.int .i64 r_5.1), (Enc.enc (r_5.2 : List (Int × Int)))]) h6 rfl rfl ?_
    obtain ⟨r_6, E_r_6, h⟩ := bind_some h
    refine g_call (m := 0) (al := false) (r := (.tup [Enc.enc (r_6.1 : Int), Enc.enc (r_6.2 : Bool)])) [Enc.enc (r_5 : (Int × (List (Int × Int))))] (ta_cons (v := (.agg [(.int .i64 r_5.1), (Enc.enc (r_5.2 : List (Int × Int)))])) rfl rfl (Enc.erase_enc (r_5 : (Int × (List (Int × Int))))) ta_nil) (H.c31 _ _ E_r_6) H.g31 rfl rfl rfl rfl ?_
    refine g_v1 (t := 24) (u := (.tup [(.int .i64 r_6.1), (.bool r_6.2)])) (.tup [(.int .i64 r_6.1), (.bool r_6.2)]) rfl rfl rfl ?_
    refine g_v1 (t := 22) (u := (.tup [(.int .i64 r_6.1), (.bool r_6.2)])) (.int .i64 r_6.1) rfl rfl rfl ?_
    refine g_v1 (t := 22) (u := (.tup [(.int .i64 r_6.1), (.bool r_6.2)])) (.bool r_6.2) rfl rfl rfl ?_
    refine g_v1 (t := 25) (u := (.int .i64 r_6.1)) (.int .i64 r_6.1) rfl rfl rfl ?_
    refine g_v1 (t := 26) (u := (.bool r_6.2)) (.bool r_6.2) rfl rfl rfl ?_
    refine g_end ?_
    refine e_end ?_
    refine renew [(1, (.ref (.bx 1) 0 [] (.agg [(.int .i64 aG_1.1), (Enc.enc (aG_1.2 : List (Int × Int)))]))), (2, (.bool false)), (4, (.int .i64 r_4.1)), (5, (.bool r_4.2)), (6, (.ref (.bx 6) 0 [] (.agg [(.int .i64 r_5.1), (Enc.enc (r_5.2 : List (Int × Int)))]))), (7, (.int .i64 r_6.1)), (8, (.bool r_6.2))] ⟨h1, h2, h4, h5, h6, rfl, rfl⟩ ?_
    rintro s ⟨h1, h2, h4, h5, h6, h7, h8⟩
    refine .nsq ?_
    refine .seq ?_
    refine .seq ?_
    refine run_reg ?_
    refine e_end ?_
    refine g_v1 (t := 7) (u := (.int .i64 r_6.1)) (.int .i64 r_6.1) h7 rfl rfl ?_
    refine g_v1 (t := 4) (u := (.int .i64 r_4.1)) (.int .i64 r_4.1) h4 rfl rfl ?_
    refine g_v2 (t1 := 27) (t2 := 28) (u1 := (.int .i64 r_6.1)) (u2 := (.int .i64 r_4.1)) (.bool (r_6.1 != r_4.1)) rfl rfl rfl rfl ?_
    refine g_v1 (t := 29) (u := (.bool (r_6.1 != r_4.1))) (.bool (r_6.1 != r_4.1)) rfl rfl rfl ?_
    refine split_on (c := (r_6.1 != r_4.1)) h (fun hg4 h => ?_) (fun hg4 h => ?_)
    · refine g_no (Eq.trans (b := .bool (r_6.1 != r_4.1)) rfl (congrArg V.bool hg4)) ?_
      refine g_no (Eq.trans (b := .bool (r_6.1 != r_4.1)) rfl (congrArg V.bool hg4)) ?_
      refine g_no (Eq.trans (b := .bool (r_6.1 != r_4.1)) rfl (congrArg V.bool hg4)) ?_
      refine g_v2 (t1 := 30) (t2 := 33) (u1 := (.bool true)) (u2 := (.tup [])) (.bool true) (Eq.trans (b := .bool (r_6.1 != r_4.1)) rfl (congrArg V.bool hg4)) rfl rfl rfl ?_
      refine g_end ?_
      refine e_end ?_
      refine renew [(1, (.ref (.bx 1) 0 [] (.agg [(.int .i64 aG_1.1), (Enc.enc (aG_1.2 : List (Int × Int)))]))), (2, (.bool false)), (6, (.ref (.bx 6) 0 [] (.agg [(.int .i64 r_5.1), (Enc.enc (r_5.2 : List (Int × Int)))]))), (34, (.bool true))] ⟨h1, h2, h6, rfl⟩ ?_
      rintro s ⟨h1, h2, h6, h34⟩
      exact t_f8_j1 H aG_1 r_5 true _ ⟨h1, h2, h6, h34⟩ h
    · refine g_yes (Eq.trans (b := .bool (r_6.1 != r_4.1)) rfl (congrArg V.bool hg4)) (g_v1 (t := 8) (u := (.bool r_6.2)) (.bool r_6.2) h8 rfl rfl ?_)
      refine g_yes (Eq.trans (b := .bool (r_6.1 != r_4.1)) rfl (congrArg V.bool hg4)) (g_v1 (t := 5) (u := (.bool r_4.2)) (.bool r_4.2) h5 rfl rfl ?_)
      refine g_yes (Eq.trans (b := .bool (r_6.1 != r_4.1)) rfl (congrArg V.bool hg4)) (g_v2 (t1 := 31) (t2 := 32) (u1 := (.bool r_6.2)) (u2 := (.bool r_4.2)) (.bool (r_6.2 != r_4.2)) rfl rfl rfl rfl ?_)
      refine g_v2 (t1 := 30) (t2 := 33) (u1 := (.bool false)) (u2 := (.bool (r_6.2 != r_4.2))) (.bool (r_6.2 != r_4.2)) (Eq.trans (b := .bool (r_6.1 != r_4.1)) rfl (congrArg V.bool hg4)) rfl rfl rfl ?_
      refine g_end ?_
      refine e_end ?_
      refine renew [(1, (.ref (.bx 1) 0 [] (.agg [(.int .i64 aG_1.1), (Enc.enc (aG_1.2 : List (Int × Int)))]))), (2, (.bool false)), (6, (.ref (.bx 6) 0 [] (.agg [(.int .i64 r_5.1), (Enc.enc (r_5.2 : List (Int × Int)))]))), (34, (.bool (r_6.2 != r_4.2)))] ⟨h1, h2, h6, rfl⟩ ?_
      rintro s ⟨h1, h2, h6, h34⟩
      exact t_f8_j1 H aG_1 r_5 (r_6.2 != r_4.2) _ ⟨h1, h2, h6, h34⟩ h
end
def e8 (F : Nat) : Ent := ⟨8, da (fun (x : ((Int × (List (Int × Int))) × Unit)) => w_FnExactTreewidthOf F x.1) (fun (r : Bool) => (Enc.enc (r : Bool))), 0, false, selF []⟩
theorem p8 {F : Nat} {x0 : (Int × (List (Int × Int)))} {r : Bool} (h : w_FnExactTreewidthOf F x0 = some r) : (e8 F).den [Enc.enc x0] = some (Enc.enc (r : Bool)) := da_put (f := fun (x : ((Int × (List (Int × Int))) × Unit)) => w_FnExactTreewidthOf F x.1) (t := fun (r : Bool) => (Enc.enc (r : Bool))) (x0, ()) h
theorem o8 {D : Den} {σ : Sig} {F : Nat} (hF : Fits2 Try.prog D σ) (H : H8 D σ F) : (e8 F).Ok Try.prog := by
  refine ⟨fun args r h => ?_, ⟨Try.f8, Try.func8, rfl, rfl⟩⟩
  obtain ⟨⟨x0, _⟩, y, rfl, hy, rfl⟩ := da_open h
  exact contract_run hF (by kernel_rfl) Try.func8 rfl c8 (show 1 ≤ Try.f8.ntmps by decide) (t8 H x0 _ rfl hy)
end Go.Zq
