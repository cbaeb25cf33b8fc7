/- Functions of the program as typed functions, and that the machine runs as they say (part 3). No further condition. -/
import Derived.Test.YthblbfcloccopaaK3
import Derived.Test.YthblbfcloccopaaProg
import Derived.Test.YthblbfcloccopaaChecked
import Derived.KernelRfl
import Derived.Test.YthblbfcloccopaaG2
set_option linter.unusedVariables false
set_option linter.unusedSimpArgs false
/- Functions of the program, as typed functions, and that the machine runs as they say. -/
namespace Go.Zq
open Go.Proofs
/- loop.example/g01109/impl.IsRanking -/
def A33_11 : AC := (AC.cond (O.t 42) (AC.reg [] [(I.mk (some 43) none false (X.v (A.mov (O.t 9)))), (I.mk (some 44) none false (X.v (A.mov (O.t 11)))), (I.mk (some 45) none false (X.v (A.bin BinOp.shl (O.k (V.int IntKind.i64 (Int.ofNat 1))) (O.t 44)))), (I.mk (some 46) none false (X.v (A.bin BinOp.or (O.t 43) (O.t 45)))), (I.mk (some 9) none false (X.v (A.mov (O.t 46))))] []) AC.skip)
def A33_13 : AC := (AC.cond (O.t 49) (AC.reg [] [(I.mk (some 50) none false (X.v (A.load Sh.s (O.t 10)))), (I.mk (some 51) none false (X.v (A.mov (O.t 11)))), (I.mk (some 52) none false (X.v (A.bin BinOp.shl (O.k (V.int IntKind.i64 (Int.ofNat 1))) (O.t 51)))), (I.mk (some 53) none false (X.v (A.bin BinOp.or (O.t 50) (O.t 52)))), (I.mk none none false (X.store Sh.s (O.t 10) (O.t 53)))] []) AC.skip)
def A33_12 : AC := (AC.seq (AC.reg [] [(I.mk (some 47) none false (X.v (A.mov (O.t 12)))), (I.mk (some 48) none false (X.v (A.mov (O.t 8)))), (I.mk (some 49) none false (X.v (A.bin BinOp.eql (O.t 47) (O.t 48))))] []) A33_13)
def A33_10 : AC := (AC.seq (AC.seq (AC.reg [] [(I.mk (some 40) none false (X.v (A.mov (O.t 12)))), (I.mk (some 41) none false (X.v (A.mov (O.t 8)))), (I.mk (some 42) none false (X.v (A.bin BinOp.leq (O.t 40) (O.t 41))))] []) A33_11) A33_12)
def A33_14 : AC := (AC.reg [] [(I.mk (some 54) none false (X.v (A.bin BinOp.add (O.t 35) (O.k (V.int IntKind.i64 (Int.ofNat 1)))))), (I.mk (some 35) none false (X.v (A.mov (O.t 54))))] [])
def A33_9 : AC := (AC.seq (AC.block 3 (AC.seq (AC.reg [] [(I.mk (some 37) none false (X.v (A.mov (O.t 35)))), (I.mk (some 38) none false (X.v (A.idx (O.t 33) (O.t 35) 1))), (I.mk (some 39) none false (X.v (A.load Sh.s (O.t 38)))), (I.mk (some 11) none false (X.v (A.mov (O.t 37)))), (I.mk (some 12) none false (X.v (A.mov (O.t 39))))] []) A33_10)) A33_14)
def A33_8 : AC := (AC.seq (AC.cond (O.t 36) AC.skip (AC.exit 2)) A33_9)
def A33_7 : AC := (AC.seq (AC.reg [] [(I.mk (some 36) none false (X.v (A.bin BinOp.lss (O.t 35) (O.t 34))))] []) A33_8)
def A33_6 : AC := (AC.block 2 (AC.loop A33_7))
def A33_16 : AC := (AC.cond (O.t 59) (AC.seq (AC.reg [] [(I.mk (some 4) none false (X.v (A.mov (O.k (V.bool false))))), (I.mk (some 5) none false (X.v (A.mov (O.k (V.bool true)))))] []) AC.ret) AC.skip)
def A33_15 : AC := (AC.seq (AC.reg [] [(I.mk (some 55) none false (X.v (A.load (Sh.ag [Sh.p]) (O.t 6)))), (I.mk (some 56) none false (X.v (A.mov (O.t 9)))), (I.mk (some 57) none false (X.call (O.k (V.fn 76 [] [])) [(O.t 55), (O.t 56)])), (I.mk (some 58) none false (X.v (A.fn 77 [] [(O.t 10)]))), (I.mk (some 59) none false (X.call (O.k (V.fn 74 [] [])) [(O.t 57), (O.t 58)]))] []) A33_16)
def A33_5 : AC := (AC.seq (AC.seq (AC.reg [] [(I.mk (some 33) none false (X.v (A.mov (O.t 1)))), (I.mk (some 34) none false (X.v (A.len (O.t 33)))), (I.mk (some 35) none false (X.v (A.mov (O.k (V.int IntKind.i64 (Int.ofNat 0))))))] []) A33_6) A33_15)
def A33_4 : AC := (AC.seq (AC.reg [.clr [10]] [(I.mk (some 10) none false (X.alloc (V.int IntKind.i64 (Int.ofNat 0)))), (I.mk (some 9) none false (X.v (A.mov (O.k (V.int IntKind.i64 (Int.ofNat 0)))))), (I.mk none none false (X.store Sh.s (O.t 10) (O.k (V.int IntKind.i64 (Int.ofNat 0)))))] []) A33_5)
def A33_17 : AC := (AC.reg [] [(I.mk (some 60) none false (X.v (A.bin BinOp.add (O.t 29) (O.k (V.int IntKind.i64 (Int.ofNat 1)))))), (I.mk (some 29) none false (X.v (A.mov (O.t 60))))] [])
def A33_3 : AC := (AC.seq (AC.block 1 (AC.seq (AC.reg [] [(I.mk (some 31) none false (X.v (A.idx (O.t 27) (O.t 29) 1))), (I.mk (some 32) none false (X.v (A.load Sh.s (O.t 31)))), (I.mk (some 8) none false (X.v (A.mov (O.t 32))))] []) A33_4)) A33_17)
def A33_2 : AC := (AC.seq (AC.cond (O.t 30) AC.skip (AC.exit 0)) A33_3)
def A33_1 : AC := (AC.seq (AC.reg [] [(I.mk (some 30) none false (X.v (A.bin BinOp.lss (O.t 29) (O.t 28))))] []) A33_2)
def A33_18 : AC := (AC.seq (AC.reg [] [(I.mk (some 4) none false (X.v (A.mov (O.k (V.bool true))))), (I.mk (some 5) none false (X.v (A.mov (O.k (V.bool true)))))] []) AC.ret)
def A33_19 : AC := (AC.cond (O.t 24) (AC.seq (AC.reg [] [(I.mk (some 4) none false (X.v (A.mov (O.k (V.bool false))))), (I.mk (some 5) none false (X.v (A.mov (O.k (V.bool true)))))] []) AC.ret) AC.skip)
def A33_22 : AC := (AC.block 0 (AC.loop A33_1))
def A33_21 : AC := (AC.seq (AC.seq (AC.reg [] [(I.mk (some 27) none false (X.v (A.mov (O.t 1)))), (I.mk (some 28) none false (X.v (A.len (O.t 27)))), (I.mk (some 29) none false (X.v (A.mov (O.k (V.int IntKind.i64 (Int.ofNat 0))))))] []) A33_22) A33_18)
def A33_20 : AC := (AC.seq (AC.reg [.clr [6]] [(I.mk (some 25) none false (X.v (A.load (Sh.ag [Sh.s, Sh.p]) (O.t 2)))), (I.mk (some 26) none false (X.call (O.k (V.fn 55 [] [])) [(O.t 25)])), (I.mk (some 6) none false (X.alloc (V.agg [(V.sl Tok.nl Sh.s 0 [])]))), (I.mk none none false (X.store (Sh.ag [Sh.p]) (O.t 6) (O.t 26)))] []) A33_21)
def A33_24 : AC := (AC.cond (O.t 15) (AC.seq (AC.reg [] [(I.mk (some 4) none false (X.v (A.mov (O.k (V.bool false))))), (I.mk (some 5) none false (X.v (A.mov (O.k (V.bool false)))))] []) AC.ret) AC.skip)
def A33_25 : AC := (AC.seq (AC.seq (AC.reg [] [(I.mk (some 16) none false (X.v (A.mov (O.t 1)))), (I.mk (some 17) none false (X.v (A.len (O.t 16)))), (I.mk (some 18) none false (X.v (A.fld (O.t 2) 0 0))), (I.mk (some 19) none false (X.v (A.load Sh.s (O.t 18)))), (I.mk (some 20) none false (X.v (A.bin BinOp.neq (O.t 17) (O.t 19)))), (I.mk (some 21) none false (X.v (A.mov (O.t 20)))), (I.mk (some 22) (some (21, false)) false (X.v (A.mov (O.t 1)))), (I.mk (some 23) (some (21, false)) false (X.call (O.k (V.fn 74 [] [])) [(O.t 22), (O.k (V.fn 75 [] []))])), (I.mk (some 24) none false (X.v (A.pick (O.t 21) (O.k (V.bool true)) (O.t 23))))] []) A33_19) A33_20)
def A33_23 : AC := (AC.seq (AC.seq (AC.reg [] [(I.mk (some 13) none false (X.v (A.load (Sh.ag [Sh.s, Sh.p]) (O.t 2)))), (I.mk (some 14) none false (X.call (O.k (V.fn 50 [] [])) [(O.t 13)])), (I.mk (some 15) none false (X.v (A.un UnOp.not (O.t 14))))] []) A33_24) A33_25)
def A33 : AC := (AC.seq (AC.reg [.clr [2]] [(I.mk (some 2) none false (X.box (O.t 0))), (I.mk (some 4) none false (X.v (A.mov (O.k (V.bool false))))), (I.mk (some 5) none false (X.v (A.mov (O.k (V.bool false)))))] []) A33_23)
def an33 : List An := [{ id := 0, pre := [.clr [2]], ep := [], lin := [], sp := [] }, { id := 5, pre := [.clr [6]], ep := [], lin := [], sp := [] }, { id := 9, pre := [.clr [10]], ep := [], lin := [], sp := [] }]
theorem c33 : cC Try.prog Try.f33.ntmps an33 (Try.f33.body.getD .skip) = some A33 := by kernel_rfl
structure H33 (D : Den) (σ : Sig) (F : Nat) : Prop where
  c50 : ∀ (x0 : (Int × (List (Int × Int)))) r, i_IsGraph F x0 = some r → D 50 [Enc.enc x0] = some (Enc.enc (r : Bool))
  g50 : σ 50 = some (0, false)
  c74s1 : ∀ (x0 : (List Int)) (x1 : (Cl 75 Unit Unit)) r, slices_ContainsFunc_of_i_IsRanking_1 F x0 x1 = some r → D 74 [Enc.enc x0, Arg.arg x1] = some (Enc.enc (r : Bool))
  g74s1 : σ 74 = some (0, false)
  c55 : ∀ (x0 : (Int × (List (Int × Int)))) r, i_netOf F x0 = some r → D 55 [Enc.enc x0] = some (Enc.enc (r : (S1 (List Int))))
  g55 : σ 55 = some (0, false)
  c76 : ∀ (x0 : (S1 (List Int))) (x1 : Int) r, i_net_parts F x0 x1 = some r → D 76 [Enc.enc x0, Enc.enc x1] = some (Enc.enc (r : (List Int)))
  g76 : σ 76 = some (0, false)
  c74s2 : ∀ (x0 : (List Int)) (x1 : (Cl 77 Unit ((Rf Int) × Unit))) r, slices_ContainsFunc_of_i_IsRanking_2 F x0 x1 = some r → D 74 [Enc.enc x0, Arg.arg x1] = some (Enc.enc (r : Bool))
  g74s2 : σ 74 = some (0, false)
abbrev R33 (r : (Bool × Bool)) : (Nat → V) → Prop := RR Try.prog [.tmp 4, .tmp 5] 0 false (.tup [Enc.enc (r.1 : Bool), Enc.enc (r.2 : Bool)])
section
variable {D : Den} {σ : Sig} {F : Nat} {r : (Bool × Bool)}
def i_IsRanking_j1 (F : Nat) (ranks_2 : (List Int)) (r_6 : (S1 (List Int))) (e_62 : Int) (low_82 : Int) (t29_34 : Int) (t35_72 : Int) (c1 : Int → Option (Bool × Bool)) (c4 : Int → Int → Int → Option (Bool × Bool)) (own_84 : Int) : Option (Bool × Bool) :=
  c4 low_82 own_84 (w64 (t35_72 + 1))
theorem t_f33_j1 (H : H33 D σ F) (ranks_2 : (List Int)) (r_6 : (S1 (List Int))) (e_62 : Int) (low_82 : Int) (t29_34 : Int) (t35_72 : Int) (c1 : Int → Option (Bool × Bool)) (Hc1 : ∀ (t29_34 : Int) (s : Nat → V), Facts [(1, (Enc.enc (ranks_2 : List Int))), (4, (.bool false)), (5, (.bool false)), (6, (.ref (.bx 6) 0 [] (.agg [(Enc.enc (r_6.a : List Int))]))), (27, (Enc.enc (ranks_2 : List Int))), (28, (.int .i64 (ranks_2.length : Int))), (29, (.int .i64 t29_34))] s → c1 t29_34 = some r → Run D σ (R33 r) (.run A33_1 [.lp A33_1, .bk 0, .sq A33_18]) s) (c4 : Int → Int → Int → Option (Bool × Bool)) (Hc4 : ∀ (low_70 : Int) (own_71 : Int) (t35_72 : Int) (s : Nat → V), Facts [(1, (Enc.enc (ranks_2 : List Int))), (4, (.bool false)), (5, (.bool false)), (6, (.ref (.bx 6) 0 [] (.agg [(Enc.enc (r_6.a : List Int))]))), (8, (.int .i64 e_62)), (9, (.int .i64 low_70)), (10, (.ref (.bx 10) 0 [] (.int .i64 own_71))), (27, (Enc.enc (ranks_2 : List Int))), (28, (.int .i64 (ranks_2.length : Int))), (29, (.int .i64 t29_34)), (33, (Enc.enc (ranks_2 : List Int))), (34, (.int .i64 (ranks_2.length : Int))), (35, (.int .i64 t35_72))] s → c4 low_70 own_71 t35_72 = some r → Run D σ (R33 r) (.run A33_7 [.lp A33_7, .bk 2, .sq A33_15, .bk 1, .sq A33_17, .lp A33_1, .bk 0, .sq A33_18]) s) (own_84 : Int) (s : Nat → V) (hs : Facts [(1, (Enc.enc (ranks_2 : List Int))), (4, (.bool false)), (5, (.bool false)), (6, (.ref (.bx 6) 0 [] (.agg [(Enc.enc (r_6.a : List Int))]))), (8, (.int .i64 e_62)), (9, (.int .i64 low_82)), (10, (.ref (.bx 10) 0 [] (.int .i64 own_84))), (27, (Enc.enc (ranks_2 : List Int))), (28, (.int .i64 (ranks_2.length : Int))), (29, (.int .i64 t29_34)), (33, (Enc.enc (ranks_2 : List Int))), (34, (.int .i64 (ranks_2.length : Int))), (35, (.int .i64 t35_72))] s) (h : i_IsRanking_j1 F ranks_2 r_6 e_62 low_82 t29_34 t35_72 c1 c4 own_84 = some r) : Run D σ (R33 r) (.nrm [.bk 3, .sq A33_14, .lp A33_7, .bk 2, .sq A33_15, .bk 1, .sq A33_17, .lp A33_1, .bk 0, .sq A33_18]) s := by
  unfold i_IsRanking_j1 at h
  obtain ⟨h1, h4, h5, h6, h8, h9, h10, h27, h28, h29, h33, h34, h35⟩ := hs
  refine .nbk ?_
  refine .nsq ?_
  refine run_reg ?_
  refine e_end ?_
  refine g_v1 (t := 35) (u := (.int .i64 t35_72)) (.int .i64 (w64 (t35_72 + 1))) h35 rfl rfl ?_
  refine g_v1 (t := 54) (u := (.int .i64 (w64 (t35_72 + 1)))) (.int .i64 (w64 (t35_72 + 1))) rfl rfl rfl ?_
  refine g_end ?_
  refine e_end ?_
  refine renew [(1, (Enc.enc (ranks_2 : List Int))), (4, (.bool false)), (5, (.bool false)), (6, (.ref (.bx 6) 0 [] (.agg [(Enc.enc (r_6.a : List Int))]))), (8, (.int .i64 e_62)), (9, (.int .i64 low_82)), (10, (.ref (.bx 10) 0 [] (.int .i64 own_84))), (27, (Enc.enc (ranks_2 : List Int))), (28, (.int .i64 (ranks_2.length : Int))), (29, (.int .i64 t29_34)), (33, (Enc.enc (ranks_2 : List Int))), (34, (.int .i64 (ranks_2.length : Int))), (35, (.int .i64 (w64 (t35_72 + 1))))] ⟨h1, h4, h5, h6, h8, h9, h10, h27, h28, h29, h33, h34, rfl⟩ ?_
  rintro s ⟨h1, h4, h5, h6, h8, h9, h10, h27, h28, h29, h33, h34, h35⟩
  refine .nlp ?_
  exact Hc4 low_82 own_84 (w64 (t35_72 + 1)) _ ⟨h1, h4, h5, h6, h8, h9, h10, h27, h28, h29, h33, h34, h35⟩ h
def i_IsRanking_j2 (F : Nat) (ranks_2 : (List Int)) (r_6 : (S1 (List Int))) (e_62 : Int) (own_71 : Int) (t35_72 : Int) (e_80 : Int) (t29_34 : Int) (c1 : Int → Option (Bool × Bool)) (c4 : Int → Int → Int → Option (Bool × Bool)) (low_82 : Int) : Option (Bool × Bool) :=
  bif (e_80 == e_62) then
    (shlI .i64 1 t35_72).bind fun q_85 =>
    i_IsRanking_j1 F ranks_2 r_6 e_62 low_82 t29_34 t35_72 c1 c4 (ior .i64 own_71 q_85)
  else
    i_IsRanking_j1 F ranks_2 r_6 e_62 low_82 t29_34 t35_72 c1 c4 own_71
theorem t_f33_j2 (H : H33 D σ F) (ranks_2 : (List Int)) (r_6 : (S1 (List Int))) (e_62 : Int) (own_71 : Int) (t35_72 : Int) (e_80 : Int) (t29_34 : Int) (c1 : Int → Option (Bool × Bool)) (Hc1 : ∀ (t29_34 : Int) (s : Nat → V), Facts [(1, (Enc.enc (ranks_2 : List Int))), (4, (.bool false)), (5, (.bool false)), (6, (.ref (.bx 6) 0 [] (.agg [(Enc.enc (r_6.a : List Int))]))), (27, (Enc.enc (ranks_2 : List Int))), (28, (.int .i64 (ranks_2.length : Int))), (29, (.int .i64 t29_34))] s → c1 t29_34 = some r → Run D σ (R33 r) (.run A33_1 [.lp A33_1, .bk 0, .sq A33_18]) s) (c4 : Int → Int → Int → Option (Bool × Bool)) (Hc4 : ∀ (low_70 : Int) (own_71 : Int) (t35_72 : Int) (s : Nat → V), Facts [(1, (Enc.enc (ranks_2 : List Int))), (4, (.bool false)), (5, (.bool false)), (6, (.ref (.bx 6) 0 [] (.agg [(Enc.enc (r_6.a : List Int))]))), (8, (.int .i64 e_62)), (9, (.int .i64 low_70)), (10, (.ref (.bx 10) 0 [] (.int .i64 own_71))), (27, (Enc.enc (ranks_2 : List Int))), (28, (.int .i64 (ranks_2.length : Int))), (29, (.int .i64 t29_34)), (33, (Enc.enc (ranks_2 : List Int))), (34, (.int .i64 (ranks_2.length : Int))), (35, (.int .i64 t35_72))] s → c4 low_70 own_71 t35_72 = some r → Run D σ (R33 r) (.run A33_7 [.lp A33_7, .bk 2, .sq A33_15, .bk 1, .sq A33_17, .lp A33_1, .bk 0, .sq A33_18]) s) (low_82 : Int) (s : Nat → V) (hs : Facts [(1, (Enc.enc (ranks_2 : List Int))), (4, (.bool false)), (5, (.bool false)), (6, (.ref (.bx 6) 0 [] (.agg [(Enc.enc (r_6.a : List Int))]))), (8, (.int .i64 e_62)), (9, (.int .i64 low_82)), (10, (.ref (.bx 10) 0 [] (.int .i64 own_71))), (11, (.int .i64 t35_72)), (12, (.int .i64 e_80)), (27, (Enc.enc (ranks_2 : List Int))), (28, (.int .i64 (ranks_2.length : Int))), (29, (.int .i64 t29_34)), (33, (Enc.enc (ranks_2 : List Int))), (34, (.int .i64 (ranks_2.length : Int))), (35, (.int .i64 t35_72))] s) (h : i_IsRanking_j2 F ranks_2 r_6 e_62 own_71 t35_72 e_80 t29_34 c1 c4 low_82 = some r) : Run D σ (R33 r) (.nrm [.sq A33_12, .bk 3, .sq A33_14, .lp A33_7, .bk 2, .sq A33_15, .bk 1, .sq A33_17, .lp A33_1, .bk 0, .sq A33_18]) s := by
  unfold i_IsRanking_j2 at h
  obtain ⟨h1, h4, h5, h6, h8, h9, h10, h11, h12, h27, h28, h29, h33, h34, h35⟩ := hs
  refine .nsq ?_
  refine .seq ?_
  refine run_reg ?_
  refine e_end ?_
  refine g_v1 (t := 12) (u := (.int .i64 e_80)) (.int .i64 e_80) h12 rfl rfl ?_
  refine g_v1 (t := 8) (u := (.int .i64 e_62)) (.int .i64 e_62) h8 rfl rfl ?_
  refine g_v2 (t1 := 47) (t2 := 48) (u1 := (.int .i64 e_80)) (u2 := (.int .i64 e_62)) (.bool (e_80 == e_62)) rfl rfl rfl rfl ?_
  refine g_end ?_
  refine e_end ?_
  refine renew [(1, (Enc.enc (ranks_2 : List Int))), (4, (.bool false)), (5, (.bool false)), (6, (.ref (.bx 6) 0 [] (.agg [(Enc.enc (r_6.a : List Int))]))), (8, (.int .i64 e_62)), (9, (.int .i64 low_82)), (10, (.ref (.bx 10) 0 [] (.int .i64 own_71))), (11, (.int .i64 t35_72)), (27, (Enc.enc (ranks_2 : List Int))), (28, (.int .i64 (ranks_2.length : Int))), (29, (.int .i64 t29_34)), (33, (Enc.enc (ranks_2 : List Int))), (34, (.int .i64 (ranks_2.length : Int))), (35, (.int .i64 t35_72)), (49, (.bool (e_80 == e_62)))] ⟨h1, h4, h5, h6, h8, h9, h10, h11, h27, h28, h29, h33, h34, h35, rfl⟩ ?_
  rintro s ⟨h1, h4, h5, h6, h8, h9, h10, h11, h27, h28, h29, h33, h34, h35, h49⟩
  refine .nsq ?_
  refine run_cond (t := (e_80 == e_62)) h49 h (fun h => ?_) (fun h => ?_)
  · refine run_reg ?_
    refine e_end ?_
    refine g_v1 (t := 10) (u := (.ref (.bx 10) 0 [] (.int .i64 own_71))) (.int .i64 own_71) h10 rfl rfl ?_
    refine g_v1 (t := 11) (u := (.int .i64 t35_72)) (.int .i64 t35_72) h11 rfl rfl ?_
    obtain ⟨q_85, E_q_85, h⟩ := bind_some h
    refine g_v (.int .i64 q_85) (ev_shl rfl rfl E_q_85) ?_
    refine g_v2 (t1 := 50) (t2 := 52) (u1 := (.int .i64 own_71)) (u2 := (.int .i64 q_85)) (.int .i64 (ior .i64 own_71 q_85)) rfl rfl rfl rfl ?_
    refine g_store (.int .i64 (ior .i64 own_71 q_85)) (rd_of h10 rfl) (rd_of rfl rfl) (by refine ⟨by decide, by decide, rfl, rfl, rfl, ?_⟩; first | rfl | simp [V.toks, V.tokss, Enc.toks_enc]) ?_
    refine g_end ?_
    refine e_end ?_
    refine renew [(1, (Enc.enc (ranks_2 : List Int))), (4, (.bool false)), (5, (.bool false)), (6, (.ref (.bx 6) 0 [] (.agg [(Enc.enc (r_6.a : List Int))]))), (8, (.int .i64 e_62)), (9, (.int .i64 low_82)), (10, (.ref (.bx 10) 0 [] (.int .i64 (ior .i64 own_71 q_85)))), (27, (Enc.enc (ranks_2 : List Int))), (28, (.int .i64 (ranks_2.length : Int))), (29, (.int .i64 t29_34)), (33, (Enc.enc (ranks_2 : List Int))), (34, (.int .i64 (ranks_2.length : Int))), (35, (.int .i64 t35_72))] ⟨(keep_mut h1 (Enc.mut_enc _ _ _ _ (ranks_2 : List Int))), (keep_mut h4 rfl), (keep_mut h5 rfl), (keep_mut h6 (mut_ref_ne rfl rfl (mut_agg (muts_cons (Enc.mut_enc _ _ _ _ (r_6.a : List Int)) rfl)))), (keep_mut h8 rfl), (keep_mut h9 rfl), (keep_mut h10 rfl), (keep_mut h27 (Enc.mut_enc _ _ _ _ (ranks_2 : List Int))), (keep_mut h28 rfl), (keep_mut h29 rfl), (keep_mut h33 (Enc.mut_enc _ _ _ _ (ranks_2 : List Int))), (keep_mut h34 rfl), (keep_mut h35 rfl)⟩ ?_
    rintro s ⟨h1, h4, h5, h6, h8, h9, h10, h27, h28, h29, h33, h34, h35⟩
    exact t_f33_j1 H ranks_2 r_6 e_62 low_82 t29_34 t35_72 c1 Hc1 c4 Hc4 (ior .i64 own_71 q_85) _ ⟨h1, h4, h5, h6, h8, h9, h10, h27, h28, h29, h33, h34, h35⟩ h
  · refine .skip ?_
    exact t_f33_j1 H ranks_2 r_6 e_62 low_82 t29_34 t35_72 c1 Hc1 c4 Hc4 own_71 _ ⟨h1, h4, h5, h6, h8, h9, h10, h27, h28, h29, h33, h34, h35⟩ h
def i_IsRanking_l1 (F : Nat) (ranks_2 : (List Int)) (r_6 : (S1 (List Int))) (e_62 : Int) (t29_34 : Int) (c1 : Int → Option (Bool × Bool)) : Nat → Int → Int → Int → Option (Bool × Bool)
  | 0, _, _, _ => none
  | k + 1, low_70, own_71, t35_72 =>
    bif decide (t35_72 < (ranks_2.length : Int)) then
      (idx ranks_2 t35_72).bind fun e_80 =>
      bif decide (e_80 ≤ e_62) then
        (shlI .i64 1 t35_72).bind fun q_86 =>
        i_IsRanking_j2 F ranks_2 r_6 e_62 own_71 t35_72 e_80 t29_34 c1 (i_IsRanking_l1 F ranks_2 r_6 e_62 t29_34 c1 k) (ior .i64 low_70 q_86)
      else
        i_IsRanking_j2 F ranks_2 r_6 e_62 own_71 t35_72 e_80 t29_34 c1 (i_IsRanking_l1 F ranks_2 r_6 e_62 t29_34 c1 k) low_70
    else
      (i_net_parts F r_6 low_70).bind fun r_87 =>
      (slices_ContainsFunc_of_i_IsRanking_2 F r_87 (Cl.mk () ((Rf.mk own_71 : (Rf Int)), ()) : (Cl 77 Unit ((Rf Int) × Unit)))).bind fun r_88 =>
      bif r_88 then
        some (false, true)
      else
        c1 (w64 (t29_34 + 1))
theorem t_f33_l1 (H : H33 D σ F) (ranks_2 : (List Int)) (r_6 : (S1 (List Int))) (e_62 : Int) (t29_34 : Int) (c1 : Int → Option (Bool × Bool)) (Hc1 : ∀ (t29_34 : Int) (s : Nat → V), Facts [(1, (Enc.enc (ranks_2 : List Int))), (4, (.bool false)), (5, (.bool false)), (6, (.ref (.bx 6) 0 [] (.agg [(Enc.enc (r_6.a : List Int))]))), (27, (Enc.enc (ranks_2 : List Int))), (28, (.int .i64 (ranks_2.length : Int))), (29, (.int .i64 t29_34))] s → c1 t29_34 = some r → Run D σ (R33 r) (.run A33_1 [.lp A33_1, .bk 0, .sq A33_18]) s) : ∀ (k : Nat) (low_70 : Int) (own_71 : Int) (t35_72 : Int) (s : Nat → V), Facts [(1, (Enc.enc (ranks_2 : List Int))), (4, (.bool false)), (5, (.bool false)), (6, (.ref (.bx 6) 0 [] (.agg [(Enc.enc (r_6.a : List Int))]))), (8, (.int .i64 e_62)), (9, (.int .i64 low_70)), (10, (.ref (.bx 10) 0 [] (.int .i64 own_71))), (27, (Enc.enc (ranks_2 : List Int))), (28, (.int .i64 (ranks_2.length : Int))), (29, (.int .i64 t29_34)), (33, (Enc.enc (ranks_2 : List Int))), (34, (.int .i64 (ranks_2.length : Int))), (35, (.int .i64 t35_72))] s → i_IsRanking_l1 F ranks_2 r_6 e_62 t29_34 c1 k low_70 own_71 t35_72 = some r → Run D σ (R33 r) (.run A33_7 [.lp A33_7, .bk 2, .sq A33_15, .bk 1, .sq A33_17, .lp A33_1, .bk 0, .sq A33_18]) s := by
  intro k
  induction k with
  | zero => intro low_70 own_71 t35_72 s _ h; exact nomatch (h : (none : Option _) = some r)
  | succ k ih =>
    intro low_70 own_71 t35_72 s hs h
    rw [i_IsRanking_l1] at h
    obtain ⟨h1, h4, h5, h6, h8, h9, h10, h27, h28, h29, h33, h34, h35⟩ := hs
    refine .seq ?_
    refine run_reg ?_
    refine e_end ?_
    refine g_v2 (t1 := 35) (t2 := 34) (u1 := (.int .i64 t35_72)) (u2 := (.int .i64 (ranks_2.length : Int))) (.bool (decide (t35_72 < (ranks_2.length : Int)))) h35 h34 rfl rfl ?_
    refine g_end ?_
    refine e_end ?_
    refine renew [(1, (Enc.enc (ranks_2 : List Int))), (4, (.bool false)), (5, (.bool false)), (6, (.ref (.bx 6) 0 [] (.agg [(Enc.enc (r_6.a : List Int))]))), (8, (.int .i64 e_62)), (9, (.int .i64 low_70)), (10, (.ref (.bx 10) 0 [] (.int .i64 own_71))), (27, (Enc.enc (ranks_2 : List Int))), (28, (.int .i64 (ranks_2.length : Int))), (29, (.int .i64 t29_34)), (33, (Enc.enc (ranks_2 : List Int))), (34, (.int .i64 (ranks_2.length : Int))), (35, (.int .i64 t35_72)), (36, (.bool (decide (t35_72 < (ranks_2.length : Int)))))] ⟨h1, h4, h5, h6, h8, h9, h10, h27, h28, h29, h33, h34, h35, rfl⟩ ?_
    rintro s ⟨h1, h4, h5, h6, h8, h9, h10, h27, h28, h29, h33, h34, h35, h36⟩
    refine .nsq ?_
    refine .seq ?_
    refine run_cond (t := decide (t35_72 < (ranks_2.length : Int))) h36 h (fun h => ?_) (fun h => ?_)
    · refine .skip ?_
      refine .nsq ?_
      refine .seq ?_
      refine .block ?_
      refine .seq ?_
      refine run_reg ?_
      refine e_end ?_
      refine g_v1 (t := 35) (u := (.int .i64 t35_72)) (.int .i64 t35_72) h35 rfl rfl ?_
      obtain ⟨e_80, E_e_80, h⟩ := bind_some h
      refine g_v (.ref .sh 0 [] (.int .i64 e_80)) (ev_idx (t := .sh) (lo := 0) (xs := ranks_2) h33 h35 E_e_80 rfl rfl) ?_
      refine g_v1 (t := 38) (u := (.ref .sh 0 [] (.int .i64 e_80))) (.int .i64 e_80) rfl rfl rfl ?_
      refine g_v1 (t := 37) (u := (.int .i64 t35_72)) (.int .i64 t35_72) rfl rfl rfl ?_
      refine g_v1 (t := 39) (u := (.int .i64 e_80)) (.int .i64 e_80) rfl rfl rfl ?_
      refine g_end ?_
      refine e_end ?_
      refine renew [(1, (Enc.enc (ranks_2 : List Int))), (4, (.bool false)), (5, (.bool false)), (6, (.ref (.bx 6) 0 [] (.agg [(Enc.enc (r_6.a : List Int))]))), (8, (.int .i64 e_62)), (9, (.int .i64 low_70)), (10, (.ref (.bx 10) 0 [] (.int .i64 own_71))), (11, (.int .i64 t35_72)), (12, (.int .i64 e_80)), (27, (Enc.enc (ranks_2 : List Int))), (28, (.int .i64 (ranks_2.length : Int))), (29, (.int .i64 t29_34)), (33, (Enc.enc (ranks_2 : List Int))), (34, (.int .i64 (ranks_2.length : Int))), (35, (.int .i64 t35_72))] ⟨h1, h4, h5, h6, h8, h9, h10, rfl, rfl, h27, h28, h29, h33, h34, h35⟩ ?_
      rintro s ⟨h1, h4, h5, h6, h8, h9, h10, h11, h12, h27, h28, h29, h33, h34, h35⟩
      refine .nsq ?_
      refine .seq ?_
      refine .seq ?_
      refine run_reg ?_
      refine e_end ?_
      refine g_v1 (t := 12) (u := (.int .i64 e_80)) (.int .i64 e_80) h12 rfl rfl ?_
      refine g_v1 (t := 8) (u := (.int .i64 e_62)) (.int .i64 e_62) h8 rfl rfl ?_
      refine g_v2 (t1 := 40) (t2 := 41) (u1 := (.int .i64 e_80)) (u2 := (.int .i64 e_62)) (.bool (decide (e_80 ≤ e_62))) rfl rfl rfl rfl ?_
      refine g_end ?_
      refine e_end ?_
      refine renew [(1, (Enc.enc (ranks_2 : List Int))), (4, (.bool false)), (5, (.bool false)), (6, (.ref (.bx 6) 0 [] (.agg [(Enc.enc (r_6.a : List Int))]))), (8, (.int .i64 e_62)), (9, (.int .i64 low_70)), (10, (.ref (.bx 10) 0 [] (.int .i64 own_71))), (11, (.int .i64 t35_72)), (12, (.int .i64 e_80)), (27, (Enc.enc (ranks_2 : List Int))), (28, (.int .i64 (ranks_2.length : Int))), (29, (.int .i64 t29_34)), (33, (Enc.enc (ranks_2 : List Int))), (34, (.int .i64 (ranks_2.length : Int))), (35, (.int .i64 t35_72)), (42, (.bool (decide (e_80 ≤ e_62))))] ⟨h1, h4, h5, h6, h8, h9, h10, h11, h12, h27, h28, h29, h33, h34, h35, rfl⟩ ?_
      rintro s ⟨h1, h4, h5, h6, h8, h9, h10, h11, h12, h27, h28, h29, h33, h34, h35, h42⟩
      refine .nsq ?_
      refine run_cond (t := decide (e_80 ≤ e_62)) h42 h (fun h => ?_) (fun h => ?_)
      · refine run_reg ?_
        refine e_end ?_
        refine g_v1 (t := 9) (u := (.int .i64 low_70)) (.int .i64 low_70) h9 rfl rfl ?_
        refine g_v1 (t := 11) (u := (.int .i64 t35_72)) (.int .i64 t35_72) h11 rfl rfl ?_
        obtain ⟨q_86, E_q_86, h⟩ := bind_some h
        refine g_v (.int .i64 q_86) (ev_shl rfl rfl E_q_86) ?_
        refine g_v2 (t1 := 43) (t2 := 45) (u1 := (.int .i64 low_70)) (u2 := (.int .i64 q_86)) (.int .i64 (ior .i64 low_70 q_86)) rfl rfl rfl rfl ?_
        refine g_v1 (t := 46) (u := (.int .i64 (ior .i64 low_70 q_86))) (.int .i64 (ior .i64 low_70 q_86)) rfl rfl rfl ?_
        refine g_end ?_
        refine e_end ?_
        refine renew [(1, (Enc.enc (ranks_2 : List Int))), (4, (.bool false)), (5, (.bool false)), (6, (.ref (.bx 6) 0 [] (.agg [(Enc.enc (r_6.a : List Int))]))), (8, (.int .i64 e_62)), (9, (.int .i64 (ior .i64 low_70 q_86))), (10, (.ref (.bx 10) 0 [] (.int .i64 own_71))), (11, (.int .i64 t35_72)), (12, (.int .i64 e_80)), (27, (Enc.enc (ranks_2 : List Int))), (28, (.int .i64 (ranks_2.length : Int))), (29, (.int .i64 t29_34)), (33, (Enc.enc (ranks_2 : List Int))), (34, (.int .i64 (ranks_2.length : Int))), (35, (.int .i64 t35_72))] ⟨h1, h4, h5, h6, h8, rfl, h10, h11, h12, h27, h28, h29, h33, h34, h35⟩ ?_
        rintro s ⟨h1, h4, h5, h6, h8, h9, h10, h11, h12, h27, h28, h29, h33, h34, h35⟩
        exact t_f33_j2 H ranks_2 r_6 e_62 own_71 t35_72 e_80 t29_34 c1 Hc1 (i_IsRanking_l1 F ranks_2 r_6 e_62 t29_34 c1 k) ih (ior .i64 low_70 q_86) _ ⟨h1, h4, h5, h6, h8, h9, h10, h11, h12, h27, h28, h29, h33, h34, h35⟩ h
      · refine .skip ?_
        exact t_f33_j2 H ranks_2 r_6 e_62 own_71 t35_72 e_80 t29_34 c1 Hc1 (i_IsRanking_l1 F ranks_2 r_6 e_62 t29_34 c1 k) ih low_70 _ ⟨h1, h4, h5, h6, h8, h9, h10, h11, h12, h27, h28, h29, h33, h34, h35⟩ h
    · refine .exit ?_
      refine .esq ?_
      refine .elp ?_
      refine .ebk ?_
      refine .nsq ?_
      refine .seq ?_
      refine run_reg ?_
      refine e_end ?_
      refine g_v1 (t := 6) (u := (.ref (.bx 6) 0 [] (.agg [(Enc.enc (r_6.a : List Int))]))) (.agg [(Enc.enc (r_6.a : List Int))]) h6 rfl rfl ?_
      refine g_v1 (t := 9) (u := (.int .i64 low_70)) (.int .i64 low_70) h9 rfl rfl ?_
      obtain ⟨r_87, E_r_87, h⟩ := bind_some h
      refine g_call (m := 0) (al := false) (r := (Enc.enc (r_87 : (List Int)))) [Enc.enc (r_6 : (S1 (List Int))), Enc.enc (low_70 : Int)] (ta_cons (v := (.agg [(Enc.enc (r_6.a : List Int))])) rfl rfl (Enc.erase_enc (r_6 : (S1 (List Int)))) (ta_cons (v := (.int .i64 low_70)) rfl rfl rfl ta_nil)) (H.c76 _ _ _ E_r_87) H.g76 rfl rfl rfl rfl ?_
      refine g_v1 (t := 10) (u := (.ref (.bx 10) 0 [] (.int .i64 own_71))) (.fn 77 [] [(.ref (.bx 10) 0 [] (.int .i64 own_71))]) h10 rfl rfl ?_
      obtain ⟨r_88, E_r_88, h⟩ := bind_some h
      refine g_call (m := 0) (al := false) (r := (Enc.enc (r_88 : Bool))) [Enc.enc (r_87 : (List Int)), Arg.arg ((Cl.mk () ((Rf.mk own_71 : (Rf Int)), ()) : (Cl 77 Unit ((Rf Int) × Unit))) : (Cl 77 Unit ((Rf Int) × Unit)))] (ta_cons (v := (Enc.enc (r_87 : List Int))) rfl rfl (Enc.erase_enc (r_87 : (List Int))) (ta_cons (v := (.fn 77 [] [(.ref (.bx 10) 0 [] (.int .i64 own_71))])) rfl rfl (erase_fn erases_nil (erases_cons (erase_ref rfl) erases_nil)) ta_nil)) (H.c74s2 _ _ _ E_r_88) H.g74s2 rfl rfl rfl rfl ?_
      refine g_end ?_
      refine e_end ?_
      refine renew [(1, (Enc.enc (ranks_2 : List Int))), (4, (.bool false)), (5, (.bool false)), (6, (.ref (.bx 6) 0 [] (.agg [(Enc.enc (r_6.a : List Int))]))), (27, (Enc.enc (ranks_2 : List Int))), (28, (.int .i64 (ranks_2.length : Int))), (29, (.int .i64 t29_34)), (59, (.bool r_88))] ⟨h1, h4, h5, h6, h27, h28, h29, rfl⟩ ?_
      rintro s ⟨h1, h4, h5, h6, h27, h28, h29, h59⟩
      refine .nsq ?_
      refine run_cond (t := r_88) h59 h (fun h => ?_) (fun h => ?_)
      · refine .seq ?_
        refine run_reg ?_
        refine e_end ?_
        refine g_v0 (.bool false) rfl rfl ?_
        refine g_v0 (.bool true) rfl rfl ?_
        refine g_end ?_
        refine e_end ?_
        refine renew [(1, (Enc.enc (ranks_2 : List Int))), (4, (.bool false)), (5, (.bool true)), (6, (.ref (.bx 6) 0 [] (.agg [(Enc.enc (r_6.a : List Int))]))), (27, (Enc.enc (ranks_2 : List Int))), (28, (.int .i64 (ranks_2.length : Int))), (29, (.int .i64 t29_34))] ⟨h1, rfl, rfl, h6, h27, h28, h29⟩ ?_
        rintro s ⟨h1, h4, h5, h6, h27, h28, h29⟩
        refine .nsq ?_
        refine .ret ?_
        have hr := Option.some.inj h
        subst hr
        exact rrB (res_tmp h4) (res_tmp h5) rfl
      · refine .skip ?_
        refine .nbk ?_
        refine .nsq ?_
        refine run_reg ?_
        refine e_end ?_
        refine g_v1 (t := 29) (u := (.int .i64 t29_34)) (.int .i64 (w64 (t29_34 + 1))) h29 rfl rfl ?_
        refine g_v1 (t := 60) (u := (.int .i64 (w64 (t29_34 + 1)))) (.int .i64 (w64 (t29_34 + 1))) rfl rfl rfl ?_
        refine g_end ?_
        refine e_end ?_
        refine renew [(1, (Enc.enc (ranks_2 : List Int))), (4, (.bool false)), (5, (.bool false)), (6, (.ref (.bx 6) 0 [] (.agg [(Enc.enc (r_6.a : List Int))]))), (27, (Enc.enc (ranks_2 : List Int))), (28, (.int .i64 (ranks_2.length : Int))), (29, (.int .i64 (w64 (t29_34 + 1))))] ⟨h1, h4, h5, h6, h27, h28, rfl⟩ ?_
        rintro s ⟨h1, h4, h5, h6, h27, h28, h29⟩
        refine .nlp ?_
        exact Hc1 (w64 (t29_34 + 1)) _ ⟨h1, h4, h5, h6, h27, h28, h29⟩ h
def i_IsRanking_l2 (F : Nat) (ranks_2 : (List Int)) (r_6 : (S1 (List Int)))  : Nat → Int → Option (Bool × Bool)
  | 0, _ => none
  | k + 1, t29_34 =>
    bif decide (t29_34 < (ranks_2.length : Int)) then
      (idx ranks_2 t29_34).bind fun e_62 =>
      i_IsRanking_l1 F ranks_2 r_6 e_62 t29_34 (i_IsRanking_l2 F ranks_2 r_6 k) F 0 0 0
    else
      some (true, true)
theorem t_f33_l2 (H : H33 D σ F) (ranks_2 : (List Int)) (r_6 : (S1 (List Int)))  : ∀ (k : Nat) (t29_34 : Int) (s : Nat → V), Facts [(1, (Enc.enc (ranks_2 : List Int))), (4, (.bool false)), (5, (.bool false)), (6, (.ref (.bx 6) 0 [] (.agg [(Enc.enc (r_6.a : List Int))]))), (27, (Enc.enc (ranks_2 : List Int))), (28, (.int .i64 (ranks_2.length : Int))), (29, (.int .i64 t29_34))] s → i_IsRanking_l2 F ranks_2 r_6 k t29_34 = some r → Run D σ (R33 r) (.run A33_1 [.lp A33_1, .bk 0, .sq A33_18]) s := by
  intro k
  induction k with
  | zero => intro t29_34 s _ h; exact nomatch (h : (none : Option _) = some r)
  | succ k ih =>
    intro t29_34 s hs h
    rw [i_IsRanking_l2] at h
    obtain ⟨h1, h4, h5, h6, h27, h28, h29⟩ := hs
    refine .seq ?_
    refine run_reg ?_
    refine e_end ?_
    refine g_v2 (t1 := 29) (t2 := 28) (u1 := (.int .i64 t29_34)) (u2 := (.int .i64 (ranks_2.length : Int))) (.bool (decide (t29_34 < (ranks_2.length : Int)))) h29 h28 rfl rfl ?_
    refine g_end ?_
    refine e_end ?_
    refine renew [(1, (Enc.enc (ranks_2 : List Int))), (4, (.bool false)), (5, (.bool false)), (6, (.ref (.bx 6) 0 [] (.agg [(Enc.enc (r_6.a : List Int))]))), (27, (Enc.enc (ranks_2 : List Int))), (28, (.int .i64 (ranks_2.length : Int))), (29, (.int .i64 t29_34)), (30, (.bool (decide (t29_34 < (ranks_2.length : Int)))))] ⟨h1, h4, h5, h6, h27, h28, h29, rfl⟩ ?_
    rintro s ⟨h1, h4, h5, h6, h27, h28, h29, h30⟩
    refine .nsq ?_
    refine .seq ?_
    refine run_cond (t := decide (t29_34 < (ranks_2.length : Int))) h30 h (fun h => ?_) (fun h => ?_)
    · refine .skip ?_
      refine .nsq ?_
      refine .seq ?_
      refine .block ?_
      refine .seq ?_
      refine run_reg ?_
      refine e_end ?_
      obtain ⟨e_62, E_e_62, h⟩ := bind_some h
      refine g_v (.ref .sh 0 [] (.int .i64 e_62)) (ev_idx (t := .sh) (lo := 0) (xs := ranks_2) h27 h29 E_e_62 rfl rfl) ?_
      refine g_v1 (t := 31) (u := (.ref .sh 0 [] (.int .i64 e_62))) (.int .i64 e_62) rfl rfl rfl ?_
      refine g_v1 (t := 32) (u := (.int .i64 e_62)) (.int .i64 e_62) rfl rfl rfl ?_
      refine g_end ?_
      refine e_end ?_
      refine renew [(1, (Enc.enc (ranks_2 : List Int))), (4, (.bool false)), (5, (.bool false)), (6, (.ref (.bx 6) 0 [] (.agg [(Enc.enc (r_6.a : List Int))]))), (8, (.int .i64 e_62)), (27, (Enc.enc (ranks_2 : List Int))), (28, (.int .i64 (ranks_2.length : Int))), (29, (.int .i64 t29_34))] ⟨h1, h4, h5, h6, rfl, h27, h28, h29⟩ ?_
      rintro s ⟨h1, h4, h5, h6, h8, h27, h28, h29⟩
      refine .nsq ?_
      refine .seq ?_
      refine run_reg ?_
      refine e_clr ?_
      refine e_end ?_
      refine g_alloc (gone_clear (s := s) (pk := [10]) (t := 10) rfl) ?_
      refine g_v0 (.int .i64 0) rfl rfl ?_
      refine g_store (.int .i64 0) (rd_of rfl rfl) (rd_of rfl rfl) (by refine ⟨by decide, by decide, rfl, rfl, rfl, ?_⟩; first | rfl | simp [V.toks, V.tokss, Enc.toks_enc]) ?_
      refine g_end ?_
      refine e_end ?_
      refine renew [(1, (Enc.enc (ranks_2 : List Int))), (4, (.bool false)), (5, (.bool false)), (6, (.ref (.bx 6) 0 [] (.agg [(Enc.enc (r_6.a : List Int))]))), (8, (.int .i64 e_62)), (9, (.int .i64 0)), (10, (.ref (.bx 10) 0 [] (.int .i64 0))), (27, (Enc.enc (ranks_2 : List Int))), (28, (.int .i64 (ranks_2.length : Int))), (29, (.int .i64 t29_34))] ⟨(keep_mut (keep_clear (s := s) (pk := [10]) h1 rfl (Enc.map_enc _ (ranks_2 : List Int))) (Enc.mut_enc _ _ _ _ (ranks_2 : List Int))), (keep_mut (keep_clear (s := s) (pk := [10]) h4 rfl rfl) rfl), (keep_mut (keep_clear (s := s) (pk := [10]) h5 rfl rfl) rfl), (keep_mut (keep_clear (s := s) (pk := [10]) h6 rfl (map_bx rfl (map_agg (maps_cons (Enc.map_enc _ (r_6.a : List Int)) maps_nil)))) (mut_ref_ne rfl rfl (mut_agg (muts_cons (Enc.mut_enc _ _ _ _ (r_6.a : List Int)) rfl)))), (keep_mut (keep_clear (s := s) (pk := [10]) h8 rfl rfl) rfl), (keep_mut rfl rfl), (keep_mut rfl rfl), (keep_mut (keep_clear (s := s) (pk := [10]) h27 rfl (Enc.map_enc _ (ranks_2 : List Int))) (Enc.mut_enc _ _ _ _ (ranks_2 : List Int))), (keep_mut (keep_clear (s := s) (pk := [10]) h28 rfl rfl) rfl), (keep_mut (keep_clear (s := s) (pk := [10]) h29 rfl rfl) rfl)⟩ ?_
      rintro s ⟨h1, h4, h5, h6, h8, h9, h10, h27, h28, h29⟩
      refine .nsq ?_
      refine .seq ?_
      refine .seq ?_
      refine run_reg ?_
      refine e_end ?_
      refine g_v1 (t := 1) (u := (Enc.enc (ranks_2 : List Int))) (Enc.enc (ranks_2 : List Int)) h1 rfl rfl ?_
      refine g_v (.int .i64 (ranks_2.length : Int)) (ev_len (xs := ranks_2) rfl) ?_
      refine g_v0 (.int .i64 0) rfl rfl ?_
      refine g_end ?_
      refine e_end ?_
      refine renew [(1, (Enc.enc (ranks_2 : List Int))), (4, (.bool false)), (5, (.bool false)), (6, (.ref (.bx 6) 0 [] (.agg [(Enc.enc (r_6.a : List Int))]))), (8, (.int .i64 e_62)), (9, (.int .i64 0)), (10, (.ref (.bx 10) 0 [] (.int .i64 0))), (27, (Enc.enc (ranks_2 : List Int))), (28, (.int .i64 (ranks_2.length : Int))), (29, (.int .i64 t29_34)), (33, (Enc.enc (ranks_2 : List Int))), (34, (.int .i64 (ranks_2.length : Int))), (35, (.int .i64 0))] ⟨h1, h4, h5, h6, h8, h9, h10, h27, h28, h29, rfl, rfl, rfl⟩ ?_
      rintro s ⟨h1, h4, h5, h6, h8, h9, h10, h27, h28, h29, h33, h34, h35⟩
      refine .nsq ?_
      refine .block ?_
      refine .loop ?_
      exact t_f33_l1 H ranks_2 r_6 e_62 t29_34 (i_IsRanking_l2 F ranks_2 r_6 k) ih F 0 0 0 _ ⟨h1, h4, h5, h6, h8, h9, h10, h27, h28, h29, h33, h34, h35⟩ h
    · refine .exit ?_
      refine .esq ?_
      refine .elp ?_
      refine .ebk ?_
      refine .nsq ?_
      refine .seq ?_
      refine run_reg ?_
      refine e_end ?_
      refine g_v0 (.bool true) rfl rfl ?_
      refine g_v0 (.bool true) rfl rfl ?_
      refine g_end ?_
      refine e_end ?_
      refine renew [(4, (.bool true)), (5, (.bool true))] ⟨rfl, rfl⟩ ?_
      rintro s ⟨h4, h5⟩
      refine .nsq ?_
      refine .ret ?_
      have hr := Option.some.inj h
      subst hr
      exact rrB (res_tmp h4) (res_tmp h5) rfl
def i_IsRanking_j3 (F : Nat) (ranks_2 : (List Int)) (g_1 : (Int × (List (Int × Int))))  (t24_5 : Bool) : Option (Bool × Bool) :=
  bif t24_5 then
    some (false, true)
  else
    (i_netOf F g_1).bind fun r_6 =>
    i_IsRanking_l2 F ranks_2 r_6 F 0
theorem t_f33_j3 (H : H33 D σ F) (ranks_2 : (List Int)) (g_1 : (Int × (List (Int × Int))))  (t24_5 : Bool) (s : Nat → V) (hs : Facts [(1, (Enc.enc (ranks_2 : List Int))), (2, (.ref (.bx 2) 0 [] (.agg [(.int .i64 g_1.1), (Enc.enc (g_1.2 : List (Int × Int)))]))), (4, (.bool false)), (5, (.bool false)), (24, (.bool t24_5))] s) (h : i_IsRanking_j3 F ranks_2 g_1  t24_5 = some r) : Run D σ (R33 r) (.nrm [.sq A33_19, .sq A33_20]) s := by
  unfold i_IsRanking_j3 at h
  obtain ⟨h1, h2, h4, h5, h24⟩ := hs
  refine .nsq ?_
  refine run_cond (t := t24_5) h24 h (fun h => ?_) (fun h => ?_)
  · refine .seq ?_
    refine run_reg ?_
    refine e_end ?_
    refine g_v0 (.bool false) rfl rfl ?_
    refine g_v0 (.bool true) rfl rfl ?_
    refine g_end ?_
    refine e_end ?_
    refine renew [(1, (Enc.enc (ranks_2 : List Int))), (2, (.ref (.bx 2) 0 [] (.agg [(.int .i64 g_1.1), (Enc.enc (g_1.2 : List (Int × Int)))]))), (4, (.bool false)), (5, (.bool true))] ⟨h1, h2, rfl, rfl⟩ ?_
    rintro s ⟨h1, h2, h4, h5⟩
    refine .nsq ?_
    refine .ret ?_
    have hr := Option.some.inj h
    subst hr
    exact rrB (res_tmp h4) (res_tmp h5) rfl
  · refine .skip ?_
    refine .nsq ?_
    refine .seq ?_
    refine run_reg ?_
    refine e_clr ?_
    refine e_end ?_
    refine g_v1 (t := 2) (u := (.ref (.bx 2) 0 [] (.agg [(.int .i64 g_1.1), (Enc.enc (g_1.2 : List (Int × Int)))]))) (.agg [(.int .i64 g_1.1), (Enc.enc (g_1.2 : List (Int × Int)))]) (keep_clear (s := s) (pk := [6]) h2 rfl (map_bx rfl (map_agg (maps_cons rfl (maps_cons (Enc.map_enc _ (g_1.2 : List (Int × Int))) maps_nil))))) rfl rfl ?_
    obtain ⟨r_6, E_r_6, h⟩ := bind_some h
    refine g_call (m := 0) (al := false) (r := (Enc.enc (r_6 : (S1 (List Int))))) [Enc.enc (g_1 : (Int × (List (Int × Int))))] (ta_cons (v := (.agg [(.int .i64 g_1.1), (Enc.enc (g_1.2 : List (Int × Int)))])) rfl rfl (Enc.erase_enc (g_1 : (Int × (List (Int × Int))))) ta_nil) (H.c55 _ _ E_r_6) H.g55 rfl rfl rfl rfl ?_
    refine g_alloc (gone_clear (s := s) (pk := [6]) (t := 6) rfl) ?_
    refine g_store (.agg [(Enc.enc (r_6.a : List Int))]) (rd_of rfl rfl) (rd_of rfl rfl) (by refine ⟨by decide, by decide, rfl, rfl, rfl, ?_⟩; first | rfl | simp [V.toks, V.tokss, Enc.toks_enc]) ?_
    refine g_end ?_
    refine e_end ?_
    refine renew [(1, (Enc.enc (ranks_2 : List Int))), (4, (.bool false)), (5, (.bool false)), (6, (.ref (.bx 6) 0 [] (.agg [(Enc.enc (r_6.a : List Int))])))] ⟨(keep_mut (keep_clear (s := s) (pk := [6]) h1 rfl (Enc.map_enc _ (ranks_2 : List Int))) (Enc.mut_enc _ _ _ _ (ranks_2 : List Int))), (keep_mut (keep_clear (s := s) (pk := [6]) h4 rfl rfl) rfl), (keep_mut (keep_clear (s := s) (pk := [6]) h5 rfl rfl) rfl), (keep_mut rfl rfl)⟩ ?_
    rintro s ⟨h1, h4, h5, h6⟩
    refine .nsq ?_
    refine .seq ?_
    refine .seq ?_
    refine run_reg ?_
    refine e_end ?_
    refine g_v1 (t := 1) (u := (Enc.enc (ranks_2 : List Int))) (Enc.enc (ranks_2 : List Int)) h1 rfl rfl ?_
    refine g_v (.int .i64 (ranks_2.length : Int)) (ev_len (xs := ranks_2) rfl) ?_
    refine g_v0 (.int .i64 0) rfl rfl ?_
    refine g_end ?_
    refine e_end ?_
    refine renew [(1, (Enc.enc (ranks_2 : List Int))), (4, (.bool false)), (5, (.bool false)), (6, (.ref (.bx 6) 0 [] (.agg [(Enc.enc (r_6.a : List Int))]))), (27, (Enc.enc (ranks_2 : List Int))), (28, (.int .i64 (ranks_2.length : Int))), (29, (.int .i64 0))] ⟨h1, h4, h5, h6, rfl, rfl, rfl⟩ ?_
    rintro s ⟨h1, h4, h5, h6, h27, h28, h29⟩
    refine .nsq ?_
    refine .block ?_
    refine .loop ?_
    exact t_f33_l2 H ranks_2 r_6 F 0 _ ⟨h1, h4, h5, h6, h27, h28, h29⟩ h
def i_IsRanking (F : Nat) (g_1 : (Int × (List (Int × Int)))) (ranks_2 : (List Int)) : Option (Bool × Bool) :=
  (i_IsGraph F g_1).bind fun r_3 =>
  bif (!r_3) then
    some (false, false)
  else
    bif ((ranks_2.length : Int) != g_1.1) then
      i_IsRanking_j3 F ranks_2 g_1 true
    else
      (slices_ContainsFunc_of_i_IsRanking_1 F ranks_2 (Cl.mk () () : (Cl 75 Unit Unit))).bind fun r_89 =>
      i_IsRanking_j3 F ranks_2 g_1 r_89
theorem t33 (H : H33 D σ F) (g_1 : (Int × (List (Int × Int)))) (ranks_2 : (List Int)) (s : Nat → V) (hs : Facts [(0, (.agg [(.int .i64 g_1.1), (Enc.enc (g_1.2 : List (Int × Int)))])), (1, (Enc.enc (ranks_2 : List Int)))] s) (h : i_IsRanking F g_1 ranks_2 = some r) : Run D σ (R33 r) (.run A33 []) s := by
  unfold i_IsRanking at h
  obtain ⟨h0, h1⟩ := hs
  refine .seq ?_
  refine run_reg ?_
  refine e_clr ?_
  refine e_end ?_
  refine g_box (.agg [(.int .i64 g_1.1), (Enc.enc (g_1.2 : List (Int × Int)))]) (rd_of (keep_clear (s := s) (pk := [2]) h0 rfl (map_agg (maps_cons rfl (maps_cons (Enc.map_enc _ (g_1.2 : List (Int × Int))) maps_nil)))) rfl) (gone_clear (s := s) (pk := [2]) (t := 2) rfl) rfl ?_
  refine g_v0 (.bool false) rfl rfl ?_
  refine g_v0 (.bool false) rfl rfl ?_
  refine g_end ?_
  refine e_end ?_
  refine renew [(1, (Enc.enc (ranks_2 : List Int))), (2, (.ref (.bx 2) 0 [] (.agg [(.int .i64 g_1.1), (Enc.enc (g_1.2 : List (Int × Int)))]))), (4, (.bool false)), (5, (.bool false))] ⟨(keep_clear (s := s) (pk := [2]) h1 rfl (Enc.map_enc _ (ranks_2 : List Int))), rfl, rfl, rfl⟩ ?_
  rintro s ⟨h1, h2, h4, h5⟩
  refine .nsq ?_
  refine .seq ?_
  refine .seq ?_
  refine run_reg ?_
  refine e_end ?_
  refine g_v1 (t := 2) (u := (.ref (.bx 2) 0 [] (.agg [(.int .i64 g_1.1), (Enc.enc (g_1.2 : List (Int × Int)))]))) (.agg [(.int .i64 g_1.1), (Enc.enc (g_1.2 : List (Int × Int)))]) h2 rfl rfl ?_
  obtain ⟨r_3, E_r_3, h⟩ := bind_some h
  refine g_call (m := 0) (al := false) (r := (Enc.enc (r_3 : Bool))) [Enc.enc (g_1 : (Int × (List (Int × Int))))] (ta_cons (v := (.agg [(.int .i64 g_1.1), (Enc.enc (g_1.2 : List (Int × Int)))])) rfl rfl (Enc.erase_enc (g_1 : (Int × (List (Int × Int))))) ta_nil) (H.c50 _ _ E_r_3) H.g50 rfl rfl rfl rfl ?_
  refine g_v1 (t := 14) (u := (.bool r_3)) (.bool (!r_3)) rfl rfl rfl ?_
  refine g_end ?_
  refine e_end ?_
  refine renew [(1, (Enc.enc (ranks_2 : List Int))), (2, (.ref (.bx 2) 0 [] (.agg [(.int .i64 g_1.1), (Enc.enc (g_1.2 : List (Int × Int)))]))), (4, (.bool false)), (5, (.bool false)), (15, (.bool (!r_3)))] ⟨h1, h2, h4, h5, rfl⟩ ?_
  rintro s ⟨h1, h2, h4, h5, h15⟩
  refine .nsq ?_
  refine run_cond (t := (!r_3)) h15 h (fun h => ?_) (fun h => ?_)
  · refine .seq ?_
    refine run_reg ?_
    refine e_end ?_
    refine g_v0 (.bool false) rfl rfl ?_
    refine g_v0 (.bool false) rfl rfl ?_
    refine g_end ?_
    refine e_end ?_
    refine renew [(1, (Enc.enc (ranks_2 : List Int))), (2, (.ref (.bx 2) 0 [] (.agg [(.int .i64 g_1.1), (Enc.enc (g_1.2 : List (Int × Int)))]))), (4, (.bool false)), (5, (.bool false))] ⟨h1, h2, rfl, rfl⟩ ?_
    rintro s ⟨h1, h2, h4, h5⟩
    refine .nsq ?_
    refine .ret ?_
    have hr := Option.some.inj h
    subst hr
    exact rrB (res_tmp h4) (res_tmp h5) rfl
  · refine .skip ?_
    refine .nsq ?_
    refine .seq ?_
    refine .seq ?_
    refine run_reg ?_
    refine e_end ?_
    refine g_v1 (t := 1) (u := (Enc.enc (ranks_2 : List Int))) (Enc.enc (ranks_2 : List Int)) h1 rfl rfl ?_
    refine g_v (.int .i64 (ranks_2.length : Int)) (ev_len (xs := ranks_2) rfl) ?_
    refine g_v1 (t := 2) (u := (.ref (.bx 2) 0 [] (.agg [(.int .i64 g_1.1), (Enc.enc (g_1.2 : List (Int × Int)))]))) (.ref (.bx 2) 0 [0] (.int .i64 g_1.1)) h2 rfl rfl ?_
    refine g_v1 (t := 18) (u := (.ref (.bx 2) 0 [0] (.int .i64 g_1.1))) (.int .i64 g_1.1) rfl rfl rfl ?_
    refine g_v2 (t1 := 17) (t2 := 19) (u1 := (.int .i64 (ranks_2.length : Int))) (u2 := (.int .i64 g_1.1)) (.bool ((ranks_2.length : Int) != g_1.1)) rfl rfl rfl rfl ?_
    refine g_v1 (t := 20) (u := (.bool ((ranks_2.length : Int) != g_1.1))) (.bool ((ranks_2.length : Int) != g_1.1)) rfl rfl rfl ?_
    refine split_on (c := ((ranks_2.length : Int) != g_1.1)) h (fun hg6 h => ?_) (fun hg6 h => ?_)
    · refine g_no (Eq.trans (b := .bool ((ranks_2.length : Int) != g_1.1)) rfl (congrArg V.bool hg6)) ?_
      refine g_no (Eq.trans (b := .bool ((ranks_2.length : Int) != g_1.1)) rfl (congrArg V.bool hg6)) ?_
      refine g_v2 (t1 := 21) (t2 := 23) (u1 := (.bool true)) (u2 := (.tup [])) (.bool true) (Eq.trans (b := .bool ((ranks_2.length : Int) != g_1.1)) rfl (congrArg V.bool hg6)) rfl rfl rfl ?_
      refine g_end ?_
      refine e_end ?_
      refine renew [(1, (Enc.enc (ranks_2 : List Int))), (2, (.ref (.bx 2) 0 [] (.agg [(.int .i64 g_1.1), (Enc.enc (g_1.2 : List (Int × Int)))]))), (4, (.bool false)), (5, (.bool false)), (24, (.bool true))] ⟨h1, h2, h4, h5, rfl⟩ ?_
      rintro s ⟨h1, h2, h4, h5, h24⟩
      exact t_f33_j3 H ranks_2 g_1 true _ ⟨h1, h2, h4, h5, h24⟩ h
    · refine g_yes (Eq.trans (b := .bool ((ranks_2.length : Int) != g_1.1)) rfl (congrArg V.bool hg6)) (g_v1 (t := 1) (u := (Enc.enc (ranks_2 : List Int))) (Enc.enc (ranks_2 : List Int)) h1 rfl rfl ?_)
      obtain ⟨r_89, E_r_89, h⟩ := bind_some h
      refine g_yes (Eq.trans (b := .bool ((ranks_2.length : Int) != g_1.1)) rfl (congrArg V.bool hg6)) (g_call (m := 0) (al := false) (r := (Enc.enc (r_89 : Bool))) [Enc.enc (ranks_2 : (List Int)), Arg.arg ((Cl.mk () () : (Cl 75 Unit Unit)) : (Cl 75 Unit Unit))] (ta_cons (v := (Enc.enc (ranks_2 : List Int))) rfl rfl (Enc.erase_enc (ranks_2 : (List Int))) (ta_cons (v := (.fn 75 [] [])) rfl rfl (erase_fn erases_nil erases_nil) ta_nil)) (H.c74s1 _ _ _ E_r_89) H.g74s1 rfl rfl rfl rfl ?_)
      refine g_v2 (t1 := 21) (t2 := 23) (u1 := (.bool false)) (u2 := (.bool r_89)) (.bool r_89) (Eq.trans (b := .bool ((ranks_2.length : Int) != g_1.1)) rfl (congrArg V.bool hg6)) rfl rfl rfl ?_
      refine g_end ?_
      refine e_end ?_
      refine renew [(1, (Enc.enc (ranks_2 : List Int))), (2, (.ref (.bx 2) 0 [] (.agg [(.int .i64 g_1.1), (Enc.enc (g_1.2 : List (Int × Int)))]))), (4, (.bool false)), (5, (.bool false)), (24, (.bool r_89))] ⟨h1, h2, h4, h5, rfl⟩ ?_
      rintro s ⟨h1, h2, h4, h5, h24⟩
      exact t_f33_j3 H ranks_2 g_1 r_89 _ ⟨h1, h2, h4, h5, h24⟩ h
end
def e33 (F : Nat) : Ent := ⟨33, da (fun (x : ((Int × (List (Int × Int))) × (List Int) × Unit)) => i_IsRanking F x.1 x.2.1) (fun (r : (Bool × Bool)) => (.tup [Enc.enc (r.1 : Bool), Enc.enc (r.2 : Bool)])), 0, false, selF []⟩
theorem p33 {F : Nat} {x0 : (Int × (List (Int × Int)))} {x1 : (List Int)} {r : (Bool × Bool)} (h : i_IsRanking F x0 x1 = some r) : (e33 F).den [Enc.enc x0, Enc.enc x1] = some (.tup [Enc.enc (r.1 : Bool), Enc.enc (r.2 : Bool)]) := da_put (f := fun (x : ((Int × (List (Int × Int))) × (List Int) × Unit)) => i_IsRanking F x.1 x.2.1) (t := fun (r : (Bool × Bool)) => (.tup [Enc.enc (r.1 : Bool), Enc.enc (r.2 : Bool)])) (x0, x1, ()) h
theorem o33 {D : Den} {σ : Sig} {F : Nat} (hF : Fits2 Try.prog D σ) (H : H33 D σ F) : (e33 F).Ok Try.prog := by
  refine ok_of (f := 33) (show unk 33 = 33 from rfl) (fun args r h => ?_) ⟨Try.f33, Try.func33, rfl, rfl⟩
  obtain ⟨⟨x0, x1, _⟩, y, rfl, hy, rfl⟩ := da_open h
  exact contract_run hF (by kernel_rfl) Try.func33 rfl c33 (show 2 ≤ Try.f33.ntmps by decide) (t33 H x0 x1 _ ⟨rfl, rfl⟩ hy)
/- loop.example/g01109/laws.eqIntA2 -/
def A104_2 : AC := (AC.cond (O.t 7) AC.skip (AC.exit 0))
def A104_4 : AC := (AC.cond (O.t 16) (AC.seq (AC.reg [] [(I.mk (some 4) none false (X.v (A.mov (O.k (V.bool false)))))] []) AC.ret) AC.skip)
def A104_5 : AC := (AC.reg [] [(I.mk (some 8) none false (X.v (A.mov (O.t 5)))), (I.mk (some 9) none false (X.v (A.bin BinOp.add (O.t 8) (O.k (V.int IntKind.i64 (Int.ofNat 1)))))), (I.mk (some 5) none false (X.v (A.mov (O.t 9))))] [])
def A104_3 : AC := (AC.seq (AC.block 1 (AC.seq (AC.reg [] [(I.mk (some 10) none false (X.v (A.mov (O.t 5)))), (I.mk (some 11) none false (X.v (A.idxA (O.t 2) (O.t 10) 2 1))), (I.mk (some 12) none false (X.v (A.load Sh.s (O.t 11)))), (I.mk (some 13) none false (X.v (A.mov (O.t 5)))), (I.mk (some 14) none false (X.v (A.idxA (O.t 3) (O.t 13) 2 1))), (I.mk (some 15) none false (X.v (A.load Sh.s (O.t 14)))), (I.mk (some 16) none false (X.v (A.bin BinOp.neq (O.t 12) (O.t 15))))] []) A104_4)) A104_5)
def A104_1 : AC := (AC.seq (AC.seq (AC.reg [] [(I.mk (some 6) none false (X.v (A.mov (O.t 5)))), (I.mk (some 7) none false (X.v (A.bin BinOp.lss (O.t 6) (O.k (V.int IntKind.i64 (Int.ofNat 2))))))] []) A104_2) A104_3)
def A104_6 : AC := (AC.seq (AC.reg [] [(I.mk (some 4) none false (X.v (A.mov (O.k (V.bool true)))))] []) AC.ret)
def A104_8 : AC := (AC.block 0 (AC.loop A104_1))
def A104_7 : AC := (AC.seq (AC.seq (AC.reg [] [(I.mk (some 5) none false (X.v (A.mov (O.k (V.int IntKind.i64 (Int.ofNat 0))))))] []) A104_8) A104_6)
def A104 : AC := (AC.seq (AC.reg [.clr [2, 3]] [(I.mk (some 2) none false (X.box (O.t 0))), (I.mk (some 3) none false (X.box (O.t 1))), (I.mk (some 4) none false (X.v (A.mov (O.k (V.bool false)))))] []) A104_7)
def an104 : List An := [{ id := 0, pre := [.clr [2, 3]], ep := [], lin := [], sp := [] }]
theorem c104 : cC Try.prog Try.f104.ntmps an104 (Try.f104.body.getD .skip) = some A104 := by kernel_rfl
structure H104 (D : Den) (σ : Sig) (F : Nat) : Prop where
  mk ::
abbrev R104 (r : Bool) : (Nat → V) → Prop := RR Try.prog [.tmp 4] 0 false (Enc.enc (r : Bool))
section
variable {D : Den} {σ : Sig} {F : Nat} {r : Bool}
def w_eqIntA2_l1 (F : Nat) (a_1 : (Int × Int)) (b_2 : (Int × Int))  : Nat → Int → Option Bool
  | 0, _ => none
  | k + 1, i_3 =>
    bif decide (i_3 < 2) then
      (idx [a_1.1, a_1.2] i_3).bind fun e_6 =>
      (idx [b_2.1, b_2.2] i_3).bind fun e_7 =>
      bif (e_6 != e_7) then
        some false
      else
        (w_eqIntA2_l1 F a_1 b_2 k) (w64 (i_3 + 1))
    else
      some true
theorem t_f104_l1 (H : H104 D σ F) (a_1 : (Int × Int)) (b_2 : (Int × Int))  : ∀ (k : Nat) (i_3 : Int) (s : Nat → V), Facts [(2, (.ref (.bx 2) 0 [] (.agg [(.int .i64 a_1.1), (.int .i64 a_1.2)]))), (3, (.ref (.bx 3) 0 [] (.agg [(.int .i64 b_2.1), (.int .i64 b_2.2)]))), (4, (.bool false)), (5, (.int .i64 i_3))] s → w_eqIntA2_l1 F a_1 b_2 k i_3 = some r → Run D σ (R104 r) (.run A104_1 [.lp A104_1, .bk 0, .sq A104_6]) s := by
  intro k
  induction k with
  | zero => intro i_3 s _ h; exact nomatch (h : (none : Option _) = some r)
  | succ k ih =>
    intro i_3 s hs h
    rw [w_eqIntA2_l1] at h
    obtain ⟨h2, h3, h4, h5⟩ := hs
    refine .seq ?_
    refine .seq ?_
    refine run_reg ?_
    refine e_end ?_
    refine g_v1 (t := 5) (u := (.int .i64 i_3)) (.int .i64 i_3) h5 rfl rfl ?_
    refine g_v1 (t := 6) (u := (.int .i64 i_3)) (.bool (decide (i_3 < 2))) rfl rfl rfl ?_
    refine g_end ?_
    refine e_end ?_
    refine renew [(2, (.ref (.bx 2) 0 [] (.agg [(.int .i64 a_1.1), (.int .i64 a_1.2)]))), (3, (.ref (.bx 3) 0 [] (.agg [(.int .i64 b_2.1), (.int .i64 b_2.2)]))), (4, (.bool false)), (5, (.int .i64 i_3)), (7, (.bool (decide (i_3 < 2))))] ⟨h2, h3, h4, h5, rfl⟩ ?_
    rintro s ⟨h2, h3, h4, h5, h7⟩
    refine .nsq ?_
    refine run_cond (t := decide (i_3 < 2)) h7 h (fun h => ?_) (fun h => ?_)
    · refine .skip ?_
      refine .nsq ?_
      refine .seq ?_
      refine .block ?_
      refine .seq ?_
      refine run_reg ?_
      refine e_end ?_
      refine g_v1 (t := 5) (u := (.int .i64 i_3)) (.int .i64 i_3) h5 rfl rfl ?_
      obtain ⟨e_6, E_e_6, h⟩ := bind_some h
      refine g_v (.ref (.bx 2) 0 [i_3.toNat] (.int .i64 e_6)) (ev_idxA (xs := [a_1.1, a_1.2]) (a := e_6) (n := i_3) (q := []) h2 rfl E_e_6 rfl rfl rfl) ?_
      refine g_v1 (t := 11) (u := (.ref (.bx 2) 0 [i_3.toNat] (.int .i64 e_6))) (.int .i64 e_6) rfl rfl rfl ?_
      refine g_v1 (t := 5) (u := (.int .i64 i_3)) (.int .i64 i_3) h5 rfl rfl ?_
      obtain ⟨e_7, E_e_7, h⟩ := bind_some h
      refine g_v (.ref (.bx 3) 0 [i_3.toNat] (.int .i64 e_7)) (ev_idxA (xs := [b_2.1, b_2.2]) (a := e_7) (n := i_3) (q := []) h3 rfl E_e_7 rfl rfl rfl) ?_
      refine g_v1 (t := 14) (u := (.ref (.bx 3) 0 [i_3.toNat] (.int .i64 e_7))) (.int .i64 e_7) rfl rfl rfl ?_
      refine g_v2 (t1 := 12) (t2 := 15) (u1 := (.int .i64 e_6)) (u2 := (.int .i64 e_7)) (.bool (e_6 != e_7)) rfl rfl rfl rfl ?_
      refine g_end ?_
      refine e_end ?_
      refine renew [(2, (.ref (.bx 2) 0 [] (.agg [(.int .i64 a_1.1), (.int .i64 a_1.2)]))), (3, (.ref (.bx 3) 0 [] (.agg [(.int .i64 b_2.1), (.int .i64 b_2.2)]))), (4, (.bool false)), (5, (.int .i64 i_3)), (16, (.bool (e_6 != e_7)))] ⟨h2, h3, h4, h5, rfl⟩ ?_
      rintro s ⟨h2, h3, h4, h5, h16⟩
      refine .nsq ?_
      refine run_cond (t := (e_6 != e_7)) h16 h (fun h => ?_) (fun h => ?_)
      · refine .seq ?_
        refine run_reg ?_
        refine e_end ?_
        refine g_v0 (.bool false) rfl rfl ?_
        refine g_end ?_
        refine e_end ?_
        refine renew [(2, (.ref (.bx 2) 0 [] (.agg [(.int .i64 a_1.1), (.int .i64 a_1.2)]))), (3, (.ref (.bx 3) 0 [] (.agg [(.int .i64 b_2.1), (.int .i64 b_2.2)]))), (4, (.bool false)), (5, (.int .i64 i_3))] ⟨h2, h3, rfl, h5⟩ ?_
        rintro s ⟨h2, h3, h4, h5⟩
        refine .nsq ?_
        refine .ret ?_
        have hr := Option.some.inj h
        subst hr
        exact rrA (res_tmp h4) rfl
      · refine .skip ?_
        refine .nbk ?_
        refine .nsq ?_
        refine run_reg ?_
        refine e_end ?_
        refine g_v1 (t := 5) (u := (.int .i64 i_3)) (.int .i64 i_3) h5 rfl rfl ?_
        refine g_v1 (t := 8) (u := (.int .i64 i_3)) (.int .i64 (w64 (i_3 + 1))) rfl rfl rfl ?_
        refine g_v1 (t := 9) (u := (.int .i64 (w64 (i_3 + 1)))) (.int .i64 (w64 (i_3 + 1))) rfl rfl rfl ?_
        refine g_end ?_
        refine e_end ?_
        refine renew [(2, (.ref (.bx 2) 0 [] (.agg [(.int .i64 a_1.1), (.int .i64 a_1.2)]))), (3, (.ref (.bx 3) 0 [] (.agg [(.int .i64 b_2.1), (.int .i64 b_2.2)]))), (4, (.bool false)), (5, (.int .i64 (w64 (i_3 + 1))))] ⟨h2, h3, h4, rfl⟩ ?_
        rintro s ⟨h2, h3, h4, h5⟩
        refine .nlp ?_
        exact ih (w64 (i_3 + 1)) _ ⟨h2, h3, h4, h5⟩ h
    · refine .exit ?_
      refine .esq ?_
      refine .elp ?_
      refine .ebk ?_
      refine .nsq ?_
      refine .seq ?_
      refine run_reg ?_
      refine e_end ?_
      refine g_v0 (.bool true) rfl rfl ?_
      refine g_end ?_
      refine e_end ?_
      refine renew [(4, (.bool true))] rfl ?_
      rintro s h4
      refine .nsq ?_
      refine .ret ?_
      have hr := Option.some.inj h
      subst hr
      exact rrA (res_tmp h4) rfl
def w_eqIntA2 (F : Nat) (a_1 : (Int × Int)) (b_2 : (Int × Int)) : Option Bool :=
  w_eqIntA2_l1 F a_1 b_2 F 0
theorem t104 (H : H104 D σ F) (a_1 : (Int × Int)) (b_2 : (Int × Int)) (s : Nat → V) (hs : Facts [(0, (.agg [(.int .i64 a_1.1), (.int .i64 a_1.2)])), (1, (.agg [(.int .i64 b_2.1), (.int .i64 b_2.2)]))] s) (h : w_eqIntA2 F a_1 b_2 = some r) : Run D σ (R104 r) (.run A104 []) s := by
  unfold w_eqIntA2 at h
  obtain ⟨h0, h1⟩ := hs
  refine .seq ?_
  refine run_reg ?_
  refine e_clr ?_
  refine e_end ?_
  refine g_box (.agg [(.int .i64 a_1.1), (.int .i64 a_1.2)]) (rd_of (keep_clear (s := s) (pk := [2, 3]) h0 rfl (map_agg (maps_cons rfl (maps_cons rfl maps_nil)))) rfl) (gone_clear (s := s) (pk := [2, 3]) (t := 2) rfl) rfl ?_
  refine g_box (.agg [(.int .i64 b_2.1), (.int .i64 b_2.2)]) (rd_of (keep_clear (s := s) (pk := [2, 3]) h1 rfl (map_agg (maps_cons rfl (maps_cons rfl maps_nil)))) rfl) (gone_clear (s := s) (pk := [2, 3]) (t := 3) rfl) rfl ?_
  refine g_v0 (.bool false) rfl rfl ?_
  refine g_end ?_
  refine e_end ?_
  refine renew [(2, (.ref (.bx 2) 0 [] (.agg [(.int .i64 a_1.1), (.int .i64 a_1.2)]))), (3, (.ref (.bx 3) 0 [] (.agg [(.int .i64 b_2.1), (.int .i64 b_2.2)]))), (4, (.bool false))] ⟨rfl, rfl, rfl⟩ ?_
  rintro s ⟨h2, h3, h4⟩
  refine .nsq ?_
  refine .seq ?_
  refine .seq ?_
  refine run_reg ?_
  refine e_end ?_
  refine g_v0 (.int .i64 0) rfl rfl ?_
  refine g_end ?_
  refine e_end ?_
  refine renew [(2, (.ref (.bx 2) 0 [] (.agg [(.int .i64 a_1.1), (.int .i64 a_1.2)]))), (3, (.ref (.bx 3) 0 [] (.agg [(.int .i64 b_2.1), (.int .i64 b_2.2)]))), (4, (.bool false)), (5, (.int .i64 0))] ⟨h2, h3, h4, rfl⟩ ?_
  rintro s ⟨h2, h3, h4, h5⟩
  refine .nsq ?_
  refine .block ?_
  refine .loop ?_
  exact t_f104_l1 H a_1 b_2 F 0 _ ⟨h2, h3, h4, h5⟩ h
end
def e104 (F : Nat) : Ent := ⟨104, da (fun (x : ((Int × Int) × (Int × Int) × Unit)) => w_eqIntA2 F x.1 x.2.1) (fun (r : Bool) => (Enc.enc (r : Bool))), 0, false, selF []⟩
theorem p104 {F : Nat} {x0 : (Int × Int)} {x1 : (Int × Int)} {r : Bool} (h : w_eqIntA2 F x0 x1 = some r) : (e104 F).den [Enc.enc x0, Enc.enc x1] = some (Enc.enc (r : Bool)) := da_put (f := fun (x : ((Int × Int) × (Int × Int) × Unit)) => w_eqIntA2 F x.1 x.2.1) (t := fun (r : Bool) => (Enc.enc (r : Bool))) (x0, x1, ()) h
theorem o104 {D : Den} {σ : Sig} {F : Nat} (hF : Fits2 Try.prog D σ) (H : H104 D σ F) : (e104 F).Ok Try.prog := by
  refine ok_of (f := 104) (show unk 104 = 104 from rfl) (fun args r h => ?_) ⟨Try.f104, Try.func104, rfl, rfl⟩
  obtain ⟨⟨x0, x1, _⟩, y, rfl, hy, rfl⟩ := da_open h
  exact contract_run hF (by kernel_rfl) Try.func104 rfl c104 (show 2 ≤ Try.f104.ntmps by decide) (t104 H x0 x1 _ ⟨rfl, rfl⟩ hy)
/- loop.example/g01109/laws.eqIntA2S -/
def A53_2 : AC := (AC.cond (O.t 14) AC.skip (AC.exit 0))
def A53_4 : AC := (AC.cond (O.t 26) (AC.seq (AC.reg [] [(I.mk (some 4) none false (X.v (A.mov (O.k (V.bool false)))))] []) AC.ret) AC.skip)
def A53_5 : AC := (AC.reg [] [(I.mk (some 15) none false (X.v (A.mov (O.t 5)))), (I.mk (some 16) none false (X.v (A.bin BinOp.add (O.t 15) (O.k (V.int IntKind.i64 (Int.ofNat 1)))))), (I.mk (some 5) none false (X.v (A.mov (O.t 16))))] [])
def A53_3 : AC := (AC.seq (AC.block 1 (AC.seq (AC.reg [] [(I.mk (some 17) none false (X.v (A.mov (O.t 0)))), (I.mk (some 18) none false (X.v (A.mov (O.t 5)))), (I.mk (some 19) none false (X.v (A.idx (O.t 17) (O.t 18) 2))), (I.mk (some 20) none false (X.v (A.load (Sh.ag [Sh.s, Sh.s]) (O.t 19)))), (I.mk (some 21) none false (X.v (A.mov (O.t 1)))), (I.mk (some 22) none false (X.v (A.mov (O.t 5)))), (I.mk (some 23) none false (X.v (A.idx (O.t 21) (O.t 22) 2))), (I.mk (some 24) none false (X.v (A.load (Sh.ag [Sh.s, Sh.s]) (O.t 23)))), (I.mk (some 25) none false (X.call (O.k (V.fn 104 [] [])) [(O.t 20), (O.t 24)])), (I.mk (some 26) none false (X.v (A.un UnOp.not (O.t 25))))] []) A53_4)) A53_5)
def A53_1 : AC := (AC.seq (AC.seq (AC.reg [] [(I.mk (some 11) none false (X.v (A.mov (O.t 5)))), (I.mk (some 12) none false (X.v (A.mov (O.t 0)))), (I.mk (some 13) none false (X.v (A.len (O.t 12)))), (I.mk (some 14) none false (X.v (A.bin BinOp.lss (O.t 11) (O.t 13))))] []) A53_2) A53_3)
def A53_6 : AC := (AC.seq (AC.reg [] [(I.mk (some 4) none false (X.v (A.mov (O.k (V.bool true)))))] []) AC.ret)
def A53_8 : AC := (AC.cond (O.t 10) (AC.seq (AC.reg [] [(I.mk (some 4) none false (X.v (A.mov (O.k (V.bool false)))))] []) AC.ret) AC.skip)
def A53_10 : AC := (AC.block 0 (AC.loop A53_1))
def A53_9 : AC := (AC.seq (AC.seq (AC.reg [] [(I.mk (some 5) none false (X.v (A.mov (O.k (V.int IntKind.i64 (Int.ofNat 0))))))] []) A53_10) A53_6)
def A53_7 : AC := (AC.seq (AC.seq (AC.reg [] [(I.mk (some 6) none false (X.v (A.mov (O.t 0)))), (I.mk (some 7) none false (X.v (A.len (O.t 6)))), (I.mk (some 8) none false (X.v (A.mov (O.t 1)))), (I.mk (some 9) none false (X.v (A.len (O.t 8)))), (I.mk (some 10) none false (X.v (A.bin BinOp.neq (O.t 7) (O.t 9))))] []) A53_8) A53_9)
def A53 : AC := (AC.seq (AC.reg [] [(I.mk (some 4) none false (X.v (A.mov (O.k (V.bool false)))))] []) A53_7)
def an53 : List An := []
theorem c53 : cC Try.prog Try.f53.ntmps an53 (Try.f53.body.getD .skip) = some A53 := by kernel_rfl
structure H53 (D : Den) (σ : Sig) (F : Nat) : Prop where
  c104 : ∀ (x0 : (Int × Int)) (x1 : (Int × Int)) r, w_eqIntA2 F x0 x1 = some r → D 104 [Enc.enc x0, Enc.enc x1] = some (Enc.enc (r : Bool))
  g104 : σ 104 = some (0, false)
abbrev R53 (r : Bool) : (Nat → V) → Prop := RR Try.prog [.tmp 4] 0 false (Enc.enc (r : Bool))
section
variable {D : Den} {σ : Sig} {F : Nat} {r : Bool}
def w_eqIntA2S_l1 (F : Nat) (a_1 : (List (Int × Int))) (b_2 : (List (Int × Int)))  : Nat → Int → Option Bool
  | 0, _ => none
  | k + 1, i_6 =>
    bif decide (i_6 < (a_1.length : Int)) then
      (idx a_1 i_6).bind fun e_10 =>
      (idx b_2 i_6).bind fun e_11 =>
      (w_eqIntA2 F e_10 e_11).bind fun r_12 =>
      bif (!r_12) then
        some false
      else
        (w_eqIntA2S_l1 F a_1 b_2 k) (w64 (i_6 + 1))
    else
      some true
theorem t_f53_l1 (H : H53 D σ F) (a_1 : (List (Int × Int))) (b_2 : (List (Int × Int)))  : ∀ (k : Nat) (i_6 : Int) (s : Nat → V), Facts [(0, (Enc.enc (a_1 : List (Int × Int)))), (1, (Enc.enc (b_2 : List (Int × Int)))), (4, (.bool false)), (5, (.int .i64 i_6))] s → w_eqIntA2S_l1 F a_1 b_2 k i_6 = some r → Run D σ (R53 r) (.run A53_1 [.lp A53_1, .bk 0, .sq A53_6]) s := by
  intro k
  induction k with
  | zero => intro i_6 s _ h; exact nomatch (h : (none : Option _) = some r)
  | succ k ih =>
    intro i_6 s hs h
    rw [w_eqIntA2S_l1] at h
    obtain ⟨h0, h1, h4, h5⟩ := hs
    refine .seq ?_
    refine .seq ?_
    refine run_reg ?_
    refine e_end ?_
    refine g_v1 (t := 5) (u := (.int .i64 i_6)) (.int .i64 i_6) h5 rfl rfl ?_
    refine g_v1 (t := 0) (u := (Enc.enc (a_1 : List (Int × Int)))) (Enc.enc (a_1 : List (Int × Int))) h0 rfl rfl ?_
    refine g_v (.int .i64 (a_1.length : Int)) (ev_len (xs := a_1) rfl) ?_
    refine g_v2 (t1 := 11) (t2 := 13) (u1 := (.int .i64 i_6)) (u2 := (.int .i64 (a_1.length : Int))) (.bool (decide (i_6 < (a_1.length : Int)))) rfl rfl rfl rfl ?_
    refine g_end ?_
    refine e_end ?_
    refine renew [(0, (Enc.enc (a_1 : List (Int × Int)))), (1, (Enc.enc (b_2 : List (Int × Int)))), (4, (.bool false)), (5, (.int .i64 i_6)), (14, (.bool (decide (i_6 < (a_1.length : Int)))))] ⟨h0, h1, h4, h5, rfl⟩ ?_
    rintro s ⟨h0, h1, h4, h5, h14⟩
    refine .nsq ?_
    refine run_cond (t := decide (i_6 < (a_1.length : Int))) h14 h (fun h => ?_) (fun h => ?_)
    · refine .skip ?_
      refine .nsq ?_
      refine .seq ?_
      refine .block ?_
      refine .seq ?_
      refine run_reg ?_
      refine e_end ?_
      refine g_v1 (t := 0) (u := (Enc.enc (a_1 : List (Int × Int)))) (Enc.enc (a_1 : List (Int × Int))) h0 rfl rfl ?_
      refine g_v1 (t := 5) (u := (.int .i64 i_6)) (.int .i64 i_6) h5 rfl rfl ?_
      obtain ⟨e_10, E_e_10, h⟩ := bind_some h
      refine g_v (.ref .sh 0 [] (.agg [(.int .i64 e_10.1), (.int .i64 e_10.2)])) (ev_idx (t := .sh) (lo := 0) (xs := a_1) rfl rfl E_e_10 rfl rfl) ?_
      refine g_v1 (t := 19) (u := (.ref .sh 0 [] (.agg [(.int .i64 e_10.1), (.int .i64 e_10.2)]))) (.agg [(.int .i64 e_10.1), (.int .i64 e_10.2)]) rfl rfl rfl ?_
      refine g_v1 (t := 1) (u := (Enc.enc (b_2 : List (Int × Int)))) (Enc.enc (b_2 : List (Int × Int))) h1 rfl rfl ?_
      refine g_v1 (t := 5) (u := (.int .i64 i_6)) (.int .i64 i_6) h5 rfl rfl ?_
      obtain ⟨e_11, E_e_11, h⟩ := bind_some h
      refine g_v (.ref .sh 0 [] (.agg [(.int .i64 e_11.1), (.int .i64 e_11.2)])) (ev_idx (t := .sh) (lo := 0) (xs := b_2) rfl rfl E_e_11 rfl rfl) ?_
      refine g_v1 (t := 23) (u := (.ref .sh 0 [] (.agg [(.int .i64 e_11.1), (.int .i64 e_11.2)]))) (.agg [(.int .i64 e_11.1), (.int .i64 e_11.2)]) rfl rfl rfl ?_
      obtain ⟨r_12, E_r_12, h⟩ := bind_some h
      refine g_call (m := 0) (al := false) (r := (Enc.enc (r_12 : Bool))) [Enc.enc (e_10 : (Int × Int)), Enc.enc (e_11 : (Int × Int))] (ta_cons (v := (.agg [(.int .i64 e_10.1), (.int .i64 e_10.2)])) rfl rfl (Enc.erase_enc (e_10 : (Int × Int))) (ta_cons (v := (.agg [(.int .i64 e_11.1), (.int .i64 e_11.2)])) rfl rfl (Enc.erase_enc (e_11 : (Int × Int))) ta_nil)) (H.c104 _ _ _ E_r_12) H.g104 rfl rfl rfl rfl ?_
      refine g_v1 (t := 25) (u := (.bool r_12)) (.bool (!r_12)) rfl rfl rfl ?_
      refine g_end ?_
      refine e_end ?_
      refine renew [(0, (Enc.enc (a_1 : List (Int × Int)))), (1, (Enc.enc (b_2 : List (Int × Int)))), (4, (.bool false)), (5, (.int .i64 i_6)), (26, (.bool (!r_12)))] ⟨h0, h1, h4, h5, rfl⟩ ?_
      rintro s ⟨h0, h1, h4, h5, h26⟩
      refine .nsq ?_
      refine run_cond (t := (!r_12)) h26 h (fun h => ?_) (fun h => ?_)
      · refine .seq ?_
        refine run_reg ?_
        refine e_end ?_
        refine g_v0 (.bool false) rfl rfl ?_
        refine g_end ?_
        refine e_end ?_
        refine renew [(0, (Enc.enc (a_1 : List (Int × Int)))), (1, (Enc.enc (b_2 : List (Int × Int)))), (4, (.bool false)), (5, (.int .i64 i_6))] ⟨h0, h1, rfl, h5⟩ ?_
        rintro s ⟨h0, h1, h4, h5⟩
        refine .nsq ?_
        refine .ret ?_
        have hr := Option.some.inj h
        subst hr
        exact rrA (res_tmp h4) rfl
      · refine .skip ?_
        refine .nbk ?_
        refine .nsq ?_
        refine run_reg ?_
        refine e_end ?_
        refine g_v1 (t := 5) (u := (.int .i64 i_6)) (.int .i64 i_6) h5 rfl rfl ?_
        refine g_v1 (t := 15) (u := (.int .i64 i_6)) (.int .i64 (w64 (i_6 + 1))) rfl rfl rfl ?_
        refine g_v1 (t := 16) (u := (.int .i64 (w64 (i_6 + 1)))) (.int .i64 (w64 (i_6 + 1))) rfl rfl rfl ?_
        refine g_end ?_
        refine e_end ?_
        refine renew [(0, (Enc.enc (a_1 : List (Int × Int)))), (1, (Enc.enc (b_2 : List (Int × Int)))), (4, (.bool false)), (5, (.int .i64 (w64 (i_6 + 1))))] ⟨h0, h1, h4, rfl⟩ ?_
        rintro s ⟨h0, h1, h4, h5⟩
        refine .nlp ?_
        exact ih (w64 (i_6 + 1)) _ ⟨h0, h1, h4, h5⟩ h
    · refine .exit ?_
      refine .esq ?_
      refine .elp ?_
      refine .ebk ?_
      refine .nsq ?_
      refine .seq ?_
      refine run_reg ?_
      refine e_end ?_
      refine g_v0 (.bool true) rfl rfl ?_
      refine g_end ?_
      refine e_end ?_
      refine renew [(4, (.bool true))] rfl ?_
      rintro s h4
      refine .nsq ?_
      refine .ret ?_
      have hr := Option.some.inj h
      subst hr
      exact rrA (res_tmp h4) rfl
def w_eqIntA2S (F : Nat) (a_1 : (List (Int × Int))) (b_2 : (List (Int × Int))) : Option Bool :=
  bif ((a_1.length : Int) != (b_2.length : Int)) then
    some false
  else
    w_eqIntA2S_l1 F a_1 b_2 F 0
theorem t53 (H : H53 D σ F) (a_1 : (List (Int × Int))) (b_2 : (List (Int × Int))) (s : Nat → V) (hs : Facts [(0, (Enc.enc (a_1 : List (Int × Int)))), (1, (Enc.enc (b_2 : List (Int × Int))))] s) (h : w_eqIntA2S F a_1 b_2 = some r) : Run D σ (R53 r) (.run A53 []) s := by
  unfold w_eqIntA2S at h
  obtain ⟨h0, h1⟩ := hs
  refine .seq ?_
  refine run_reg ?_
  refine e_end ?_
  refine g_v0 (.bool false) rfl rfl ?_
  refine g_end ?_
  refine e_end ?_
  refine renew [(0, (Enc.enc (a_1 : List (Int × Int)))), (1, (Enc.enc (b_2 : List (Int × Int)))), (4, (.bool false))] ⟨h0, h1, rfl⟩ ?_
  rintro s ⟨h0, h1, h4⟩
  refine .nsq ?_
  refine .seq ?_
  refine .seq ?_
  refine run_reg ?_
  refine e_end ?_
  refine g_v1 (t := 0) (u := (Enc.enc (a_1 : List (Int × Int)))) (Enc.enc (a_1 : List (Int × Int))) h0 rfl rfl ?_
  refine g_v (.int .i64 (a_1.length : Int)) (ev_len (xs := a_1) rfl) ?_
  refine g_v1 (t := 1) (u := (Enc.enc (b_2 : List (Int × Int)))) (Enc.enc (b_2 : List (Int × Int))) h1 rfl rfl ?_
  refine g_v (.int .i64 (b_2.length : Int)) (ev_len (xs := b_2) rfl) ?_
  refine g_v2 (t1 := 7) (t2 := 9) (u1 := (.int .i64 (a_1.length : Int))) (u2 := (.int .i64 (b_2.length : Int))) (.bool ((a_1.length : Int) != (b_2.length : Int))) rfl rfl rfl rfl ?_
  refine g_end ?_
  refine e_end ?_
  refine renew [(0, (Enc.enc (a_1 : List (Int × Int)))), (1, (Enc.enc (b_2 : List (Int × Int)))), (4, (.bool false)), (10, (.bool ((a_1.length : Int) != (b_2.length : Int))))] ⟨h0, h1, h4, rfl⟩ ?_
  rintro s ⟨h0, h1, h4, h10⟩
  refine .nsq ?_
  refine run_cond (t := ((a_1.length : Int) != (b_2.length : Int))) h10 h (fun h => ?_) (fun h => ?_)
  · refine .seq ?_
    refine run_reg ?_
    refine e_end ?_
    refine g_v0 (.bool false) rfl rfl ?_
    refine g_end ?_
    refine e_end ?_
    refine renew [(0, (Enc.enc (a_1 : List (Int × Int)))), (1, (Enc.enc (b_2 : List (Int × Int)))), (4, (.bool false))] ⟨h0, h1, rfl⟩ ?_
    rintro s ⟨h0, h1, h4⟩
    refine .nsq ?_
    refine .ret ?_
    have hr := Option.some.inj h
    subst hr
    exact rrA (res_tmp h4) rfl
  · refine .skip ?_
    refine .nsq ?_
    refine .seq ?_
    refine .seq ?_
    refine run_reg ?_
    refine e_end ?_
    refine g_v0 (.int .i64 0) rfl rfl ?_
    refine g_end ?_
    refine e_end ?_
    refine renew [(0, (Enc.enc (a_1 : List (Int × Int)))), (1, (Enc.enc (b_2 : List (Int × Int)))), (4, (.bool false)), (5, (.int .i64 0))] ⟨h0, h1, h4, rfl⟩ ?_
    rintro s ⟨h0, h1, h4, h5⟩
    refine .nsq ?_
    refine .block ?_
    refine .loop ?_
    exact t_f53_l1 H a_1 b_2 F 0 _ ⟨h0, h1, h4, h5⟩ h
end
def e53 (F : Nat) : Ent := ⟨53, da (fun (x : ((List (Int × Int)) × (List (Int × Int)) × Unit)) => w_eqIntA2S F x.1 x.2.1) (fun (r : Bool) => (Enc.enc (r : Bool))), 0, false, selF []⟩
theorem p53 {F : Nat} {x0 : (List (Int × Int))} {x1 : (List (Int × Int))} {r : Bool} (h : w_eqIntA2S F x0 x1 = some r) : (e53 F).den [Enc.enc x0, Enc.enc x1] = some (Enc.enc (r : Bool)) := da_put (f := fun (x : ((List (Int × Int)) × (List (Int × Int)) × Unit)) => w_eqIntA2S F x.1 x.2.1) (t := fun (r : Bool) => (Enc.enc (r : Bool))) (x0, x1, ()) h
theorem o53 {D : Den} {σ : Sig} {F : Nat} (hF : Fits2 Try.prog D σ) (H : H53 D σ F) : (e53 F).Ok Try.prog := by
  refine ok_of (f := 53) (show unk 53 = 53 from rfl) (fun args r h => ?_) ⟨Try.f53, Try.func53, rfl, rfl⟩
  obtain ⟨⟨x0, x1, _⟩, y, rfl, hy, rfl⟩ := da_open h
  exact contract_run hF (by kernel_rfl) Try.func53 rfl c53 (show 2 ≤ Try.f53.ntmps by decide) (t53 H x0 x1 _ ⟨rfl, rfl⟩ hy)
/- loop.example/g01109/laws.eqGraph -/
def A20_2 : AC := (AC.cond (O.t 9) (AC.seq (AC.reg [] [(I.mk (some 4) none false (X.v (A.mov (O.k (V.bool false)))))] []) AC.ret) AC.skip)
def A20_4 : AC := (AC.cond (O.t 15) (AC.seq (AC.reg [] [(I.mk (some 4) none false (X.v (A.mov (O.k (V.bool false)))))] []) AC.ret) AC.skip)
def A20_5 : AC := (AC.seq (AC.reg [] [(I.mk (some 4) none false (X.v (A.mov (O.k (V.bool true)))))] []) AC.ret)
def A20_3 : AC := (AC.seq (AC.seq (AC.reg [] [(I.mk (some 10) none false (X.v (A.fld (O.t 2) 1 1))), (I.mk (some 11) none false (X.v (A.load Sh.p (O.t 10)))), (I.mk (some 12) none false (X.v (A.fld (O.t 3) 1 1))), (I.mk (some 13) none false (X.v (A.load Sh.p (O.t 12)))), (I.mk (some 14) none false (X.call (O.k (V.fn 53 [] [])) [(O.t 11), (O.t 13)])), (I.mk (some 15) none false (X.v (A.un UnOp.not (O.t 14))))] []) A20_4) A20_5)
def A20_1 : AC := (AC.seq (AC.seq (AC.reg [] [(I.mk (some 5) none false (X.v (A.fld (O.t 2) 0 0))), (I.mk (some 6) none false (X.v (A.load Sh.s (O.t 5)))), (I.mk (some 7) none false (X.v (A.fld (O.t 3) 0 0))), (I.mk (some 8) none false (X.v (A.load Sh.s (O.t 7)))), (I.mk (some 9) none false (X.v (A.bin BinOp.neq (O.t 6) (O.t 8))))] []) A20_2) A20_3)
def A20 : AC := (AC.seq (AC.reg [.clr [2, 3]] [(I.mk (some 2) none false (X.box (O.t 0))), (I.mk (some 3) none false (X.box (O.t 1))), (I.mk (some 4) none false (X.v (A.mov (O.k (V.bool false)))))] []) A20_1)
def an20 : List An := [{ id := 0, pre := [.clr [2, 3]], ep := [], lin := [], sp := [] }]
theorem c20 : cC Try.prog Try.f20.ntmps an20 (Try.f20.body.getD .skip) = some A20 := by kernel_rfl
structure H20 (D : Den) (σ : Sig) (F : Nat) : Prop where
  c53 : ∀ (x0 : (List (Int × Int))) (x1 : (List (Int × Int))) r, w_eqIntA2S F x0 x1 = some r → D 53 [Enc.enc x0, Enc.enc x1] = some (Enc.enc (r : Bool))
  g53 : σ 53 = some (0, false)
abbrev R20 (r : Bool) : (Nat → V) → Prop := RR Try.prog [.tmp 4] 0 false (Enc.enc (r : Bool))
section
variable {D : Den} {σ : Sig} {F : Nat} {r : Bool}
def w_eqGraph (F : Nat) (a_1 : (Int × (List (Int × Int)))) (b_2 : (Int × (List (Int × Int)))) : Option Bool :=
  bif (a_1.1 != b_2.1) then
    some false
  else
    (w_eqIntA2S F a_1.2 b_2.2).bind fun r_3 =>
    bif (!r_3) then
      some false
    else
      some true
theorem t20 (H : H20 D σ F) (a_1 : (Int × (List (Int × Int)))) (b_2 : (Int × (List (Int × Int)))) (s : Nat → V) (hs : Facts [(0, (.agg [(.int .i64 a_1.1), (Enc.enc (a_1.2 : List (Int × Int)))])), (1, (.agg [(.int .i64 b_2.1), (Enc.enc (b_2.2 : List (Int × Int)))]))] s) (h : w_eqGraph F a_1 b_2 = some r) : Run D σ (R20 r) (.run A20 []) s := by
  unfold w_eqGraph at h
  obtain ⟨h0, h1⟩ := hs
  refine .seq ?_
  refine run_reg ?_
  refine e_clr ?_
  refine e_end ?_
  refine g_box (.agg [(.int .i64 a_1.1), (Enc.enc (a_1.2 : List (Int × Int)))]) (rd_of (keep_clear (s := s) (pk := [2, 3]) h0 rfl (map_agg (maps_cons rfl (maps_cons (Enc.map_enc _ (a_1.2 : List (Int × Int))) maps_nil)))) rfl) (gone_clear (s := s) (pk := [2, 3]) (t := 2) rfl) rfl ?_
  refine g_box (.agg [(.int .i64 b_2.1), (Enc.enc (b_2.2 : List (Int × Int)))]) (rd_of (keep_clear (s := s) (pk := [2, 3]) h1 rfl (map_agg (maps_cons rfl (maps_cons (Enc.map_enc _ (b_2.2 : List (Int × Int))) maps_nil)))) rfl) (gone_clear (s := s) (pk := [2, 3]) (t := 3) rfl) rfl ?_
  refine g_v0 (.bool false) rfl rfl ?_
  refine g_end ?_
  refine e_end ?_
  refine renew [(2, (.ref (.bx 2) 0 [] (.agg [(.int .i64 a_1.1), (Enc.enc (a_1.2 : List (Int × Int)))]))), (3, (.ref (.bx 3) 0 [] (.agg [(.int .i64 b_2.1), (Enc.enc (b_2.2 : List (Int × Int)))]))), (4, (.bool false))] ⟨rfl, rfl, rfl⟩ ?_
  rintro s ⟨h2, h3, h4⟩
  refine .nsq ?_
  refine .seq ?_
  refine .seq ?_
  refine run_reg ?_
  refine e_end ?_
  refine g_v1 (t := 2) (u := (.ref (.bx 2) 0 [] (.agg [(.int .i64 a_1.1), (Enc.enc (a_1.2 : List (Int × Int)))]))) (.ref (.bx 2) 0 [0] (.int .i64 a_1.1)) h2 rfl rfl ?_
  refine g_v1 (t := 5) (u := (.ref (.bx 2) 0 [0] (.int .i64 a_1.1))) (.int .i64 a_1.1) rfl rfl rfl ?_
  refine g_v1 (t := 3) (u := (.ref (.bx 3) 0 [] (.agg [(.int .i64 b_2.1), (Enc.enc (b_2.2 : List (Int × Int)))]))) (.ref (.bx 3) 0 [0] (.int .i64 b_2.1)) h3 rfl rfl ?_
  refine g_v1 (t := 7) (u := (.ref (.bx 3) 0 [0] (.int .i64 b_2.1))) (.int .i64 b_2.1) rfl rfl rfl ?_
  refine g_v2 (t1 := 6) (t2 := 8) (u1 := (.int .i64 a_1.1)) (u2 := (.int .i64 b_2.1)) (.bool (a_1.1 != b_2.1)) rfl rfl rfl rfl ?_
  refine g_end ?_
  refine e_end ?_
  refine renew [(2, (.ref (.bx 2) 0 [] (.agg [(.int .i64 a_1.1), (Enc.enc (a_1.2 : List (Int × Int)))]))), (3, (.ref (.bx 3) 0 [] (.agg [(.int .i64 b_2.1), (Enc.enc (b_2.2 : List (Int × Int)))]))), (4, (.bool false)), (9, (.bool (a_1.1 != b_2.1)))] ⟨h2, h3, h4, rfl⟩ ?_
  rintro s ⟨h2, h3, h4, h9⟩
  refine .nsq ?_
  refine run_cond (t := (a_1.1 != b_2.1)) h9 h (fun h => ?_) (fun h => ?_)
  · refine .seq ?_
    refine run_reg ?_
    refine e_end ?_
    refine g_v0 (.bool false) rfl rfl ?_
    refine g_end ?_
    refine e_end ?_
    refine renew [(2, (.ref (.bx 2) 0 [] (.agg [(.int .i64 a_1.1), (Enc.enc (a_1.2 : List (Int × Int)))]))), (3, (.ref (.bx 3) 0 [] (.agg [(.int .i64 b_2.1), (Enc.enc (b_2.2 : List (Int × Int)))]))), (4, (.bool false))] ⟨h2, h3, rfl⟩ ?_
    rintro s ⟨h2, h3, h4⟩
    refine .nsq ?_
    refine .ret ?_
    have hr := Option.some.inj h
    subst hr
    exact rrA (res_tmp h4) rfl
  · refine .skip ?_
    refine .nsq ?_
    refine .seq ?_
    refine .seq ?_
    refine run_reg ?_
    refine e_end ?_
    refine g_v1 (t := 2) (u := (.ref (.bx 2) 0 [] (.agg [(.int .i64 a_1.1), (Enc.enc (a_1.2 : List (Int × Int)))]))) (.ref (.bx 2) 0 [1] (Enc.enc (a_1.2 : List (Int × Int)))) h2 rfl rfl ?_
    refine g_v1 (t := 10) (u := (.ref (.bx 2) 0 [1] (Enc.enc (a_1.2 : List (Int × Int))))) (Enc.enc (a_1.2 : List (Int × Int))) rfl rfl rfl ?_
    refine g_v1 (t := 3) (u := (.ref (.bx 3) 0 [] (.agg [(.int .i64 b_2.1), (Enc.enc (b_2.2 : List (Int × Int)))]))) (.ref (.bx 3) 0 [1] (Enc.enc (b_2.2 : List (Int × Int)))) h3 rfl rfl ?_
    refine g_v1 (t := 12) (u := (.ref (.bx 3) 0 [1] (Enc.enc (b_2.2 : List (Int × Int))))) (Enc.enc (b_2.2 : List (Int × Int))) rfl rfl rfl ?_
    obtain ⟨r_3, E_r_3, h⟩ := bind_some h
    refine g_call (m := 0) (al := false) (r := (Enc.enc (r_3 : Bool))) [Enc.enc (a_1.2 : (List (Int × Int))), Enc.enc (b_2.2 : (List (Int × Int)))] (ta_cons (v := (Enc.enc (a_1.2 : List (Int × Int)))) rfl rfl (Enc.erase_enc (a_1.2 : (List (Int × Int)))) (ta_cons (v := (Enc.enc (b_2.2 : List (Int × Int)))) rfl rfl (Enc.erase_enc (b_2.2 : (List (Int × Int)))) ta_nil)) (H.c53 _ _ _ E_r_3) H.g53 rfl rfl rfl rfl ?_
    refine g_v1 (t := 14) (u := (.bool r_3)) (.bool (!r_3)) rfl rfl rfl ?_
    refine g_end ?_
    refine e_end ?_
    refine renew [(4, (.bool false)), (15, (.bool (!r_3)))] ⟨h4, rfl⟩ ?_
    rintro s ⟨h4, h15⟩
    refine .nsq ?_
    refine run_cond (t := (!r_3)) h15 h (fun h => ?_) (fun h => ?_)
    · refine .seq ?_
      refine run_reg ?_
      refine e_end ?_
      refine g_v0 (.bool false) rfl rfl ?_
      refine g_end ?_
      refine e_end ?_
      refine renew [(4, (.bool false))] rfl ?_
      rintro s h4
      refine .nsq ?_
      refine .ret ?_
      have hr := Option.some.inj h
      subst hr
      exact rrA (res_tmp h4) rfl
    · refine .skip ?_
      refine .nsq ?_
      refine .seq ?_
      refine run_reg ?_
      refine e_end ?_
      refine g_v0 (.bool true) rfl rfl ?_
      refine g_end ?_
      refine e_end ?_
      refine renew [(4, (.bool true))] rfl ?_
      rintro s h4
      refine .nsq ?_
      refine .ret ?_
      have hr := Option.some.inj h
      subst hr
      exact rrA (res_tmp h4) rfl
end
def e20 (F : Nat) : Ent := ⟨20, da (fun (x : ((Int × (List (Int × Int))) × (Int × (List (Int × Int))) × Unit)) => w_eqGraph F x.1 x.2.1) (fun (r : Bool) => (Enc.enc (r : Bool))), 0, false, selF []⟩
theorem p20 {F : Nat} {x0 : (Int × (List (Int × Int)))} {x1 : (Int × (List (Int × Int)))} {r : Bool} (h : w_eqGraph F x0 x1 = some r) : (e20 F).den [Enc.enc x0, Enc.enc x1] = some (Enc.enc (r : Bool)) := da_put (f := fun (x : ((Int × (List (Int × Int))) × (Int × (List (Int × Int))) × Unit)) => w_eqGraph F x.1 x.2.1) (t := fun (r : Bool) => (Enc.enc (r : Bool))) (x0, x1, ()) h
theorem o20 {D : Den} {σ : Sig} {F : Nat} (hF : Fits2 Try.prog D σ) (H : H20 D σ F) : (e20 F).Ok Try.prog := by
  refine ok_of (f := 20) (show unk 20 = 20 from rfl) (fun args r h => ?_) ⟨Try.f20, Try.func20, rfl, rfl⟩
  obtain ⟨⟨x0, x1, _⟩, y, rfl, hy, rfl⟩ := da_open h
  exact contract_run hF (by kernel_rfl) Try.func20 rfl c20 (show 2 ≤ Try.f20.ntmps by decide) (t20 H x0 x1 _ ⟨rfl, rfl⟩ hy)
/- loop.example/g01109/laws.eqIntS -/
def A21_2 : AC := (AC.cond (O.t 14) AC.skip (AC.exit 0))
def A21_4 : AC := (AC.cond (O.t 25) (AC.seq (AC.reg [] [(I.mk (some 4) none false (X.v (A.mov (O.k (V.bool false)))))] []) AC.ret) AC.skip)
def A21_5 : AC := (AC.reg [] [(I.mk (some 15) none false (X.v (A.mov (O.t 5)))), (I.mk (some 16) none false (X.v (A.bin BinOp.add (O.t 15) (O.k (V.int IntKind.i64 (Int.ofNat 1)))))), (I.mk (some 5) none false (X.v (A.mov (O.t 16))))] [])
def A21_3 : AC := (AC.seq (AC.block 1 (AC.seq (AC.reg [] [(I.mk (some 17) none false (X.v (A.mov (O.t 0)))), (I.mk (some 18) none false (X.v (A.mov (O.t 5)))), (I.mk (some 19) none false (X.v (A.idx (O.t 17) (O.t 18) 1))), (I.mk (some 20) none false (X.v (A.load Sh.s (O.t 19)))), (I.mk (some 21) none false (X.v (A.mov (O.t 1)))), (I.mk (some 22) none false (X.v (A.mov (O.t 5)))), (I.mk (some 23) none false (X.v (A.idx (O.t 21) (O.t 22) 1))), (I.mk (some 24) none false (X.v (A.load Sh.s (O.t 23)))), (I.mk (some 25) none false (X.v (A.bin BinOp.neq (O.t 20) (O.t 24))))] []) A21_4)) A21_5)
def A21_1 : AC := (AC.seq (AC.seq (AC.reg [] [(I.mk (some 11) none false (X.v (A.mov (O.t 5)))), (I.mk (some 12) none false (X.v (A.mov (O.t 0)))), (I.mk (some 13) none false (X.v (A.len (O.t 12)))), (I.mk (some 14) none false (X.v (A.bin BinOp.lss (O.t 11) (O.t 13))))] []) A21_2) A21_3)
def A21_6 : AC := (AC.seq (AC.reg [] [(I.mk (some 4) none false (X.v (A.mov (O.k (V.bool true)))))] []) AC.ret)
def A21_8 : AC := (AC.cond (O.t 10) (AC.seq (AC.reg [] [(I.mk (some 4) none false (X.v (A.mov (O.k (V.bool false)))))] []) AC.ret) AC.skip)
def A21_10 : AC := (AC.block 0 (AC.loop A21_1))
def A21_9 : AC := (AC.seq (AC.seq (AC.reg [] [(I.mk (some 5) none false (X.v (A.mov (O.k (V.int IntKind.i64 (Int.ofNat 0))))))] []) A21_10) A21_6)
def A21_7 : AC := (AC.seq (AC.seq (AC.reg [] [(I.mk (some 6) none false (X.v (A.mov (O.t 0)))), (I.mk (some 7) none false (X.v (A.len (O.t 6)))), (I.mk (some 8) none false (X.v (A.mov (O.t 1)))), (I.mk (some 9) none false (X.v (A.len (O.t 8)))), (I.mk (some 10) none false (X.v (A.bin BinOp.neq (O.t 7) (O.t 9))))] []) A21_8) A21_9)
def A21 : AC := (AC.seq (AC.reg [] [(I.mk (some 4) none false (X.v (A.mov (O.k (V.bool false)))))] []) A21_7)
def an21 : List An := []
theorem c21 : cC Try.prog Try.f21.ntmps an21 (Try.f21.body.getD .skip) = some A21 := by kernel_rfl
structure H21 (D : Den) (σ : Sig) (F : Nat) : Prop where
  mk ::
abbrev R21 (r : Bool) : (Nat → V) → Prop := RR Try.prog [.tmp 4] 0 false (Enc.enc (r : Bool))
section
variable {D : Den} {σ : Sig} {F : Nat} {r : Bool}
def w_eqIntS_l1 (F : Nat) (a_1 : (List Int)) (b_2 : (List Int))  : Nat → Int → Option Bool
  | 0, _ => none
  | k + 1, i_5 =>
    bif decide (i_5 < (a_1.length : Int)) then
      (idx a_1 i_5).bind fun e_8 =>
      (idx b_2 i_5).bind fun e_9 =>
      bif (e_8 != e_9) then
        some false
      else
        (w_eqIntS_l1 F a_1 b_2 k) (w64 (i_5 + 1))
    else
      some true
theorem t_f21_l1 (H : H21 D σ F) (a_1 : (List Int)) (b_2 : (List Int))  : ∀ (k : Nat) (i_5 : Int) (s : Nat → V), Facts [(0, (Enc.enc (a_1 : List Int))), (1, (Enc.enc (b_2 : List Int))), (4, (.bool false)), (5, (.int .i64 i_5))] s → w_eqIntS_l1 F a_1 b_2 k i_5 = some r → Run D σ (R21 r) (.run A21_1 [.lp A21_1, .bk 0, .sq A21_6]) s := by
  intro k
  induction k with
  | zero => intro i_5 s _ h; exact nomatch (h : (none : Option _) = some r)
  | succ k ih =>
    intro i_5 s hs h
    rw [w_eqIntS_l1] at h
    obtain ⟨h0, h1, h4, h5⟩ := hs
    refine .seq ?_
    refine .seq ?_
    refine run_reg ?_
    refine e_end ?_
    refine g_v1 (t := 5) (u := (.int .i64 i_5)) (.int .i64 i_5) h5 rfl rfl ?_
    refine g_v1 (t := 0) (u := (Enc.enc (a_1 : List Int))) (Enc.enc (a_1 : List Int)) h0 rfl rfl ?_
    refine g_v (.int .i64 (a_1.length : Int)) (ev_len (xs := a_1) rfl) ?_
    refine g_v2 (t1 := 11) (t2 := 13) (u1 := (.int .i64 i_5)) (u2 := (.int .i64 (a_1.length : Int))) (.bool (decide (i_5 < (a_1.length : Int)))) rfl rfl rfl rfl ?_
    refine g_end ?_
    refine e_end ?_
    refine renew [(0, (Enc.enc (a_1 : List Int))), (1, (Enc.enc (b_2 : List Int))), (4, (.bool false)), (5, (.int .i64 i_5)), (14, (.bool (decide (i_5 < (a_1.length : Int)))))] ⟨h0, h1, h4, h5, rfl⟩ ?_
    rintro s ⟨h0, h1, h4, h5, h14⟩
    refine .nsq ?_
    refine run_cond (t := decide (i_5 < (a_1.length : Int))) h14 h (fun h => ?_) (fun h => ?_)
    · refine .skip ?_
      refine .nsq ?_
      refine .seq ?_
      refine .block ?_
      refine .seq ?_
      refine run_reg ?_
      refine e_end ?_
      refine g_v1 (t := 0) (u := (Enc.enc (a_1 : List Int))) (Enc.enc (a_1 : List Int)) h0 rfl rfl ?_
      refine g_v1 (t := 5) (u := (.int .i64 i_5)) (.int .i64 i_5) h5 rfl rfl ?_
      obtain ⟨e_8, E_e_8, h⟩ := bind_some h
      refine g_v (.ref .sh 0 [] (.int .i64 e_8)) (ev_idx (t := .sh) (lo := 0) (xs := a_1) rfl rfl E_e_8 rfl rfl) ?_
      refine g_v1 (t := 19) (u := (.ref .sh 0 [] (.int .i64 e_8))) (.int .i64 e_8) rfl rfl rfl ?_
      refine g_v1 (t := 1) (u := (Enc.enc (b_2 : List Int))) (Enc.enc (b_2 : List Int)) h1 rfl rfl ?_
      refine g_v1 (t := 5) (u := (.int .i64 i_5)) (.int .i64 i_5) h5 rfl rfl ?_
      obtain ⟨e_9, E_e_9, h⟩ := bind_some h
      refine g_v (.ref .sh 0 [] (.int .i64 e_9)) (ev_idx (t := .sh) (lo := 0) (xs := b_2) rfl rfl E_e_9 rfl rfl) ?_
      refine g_v1 (t := 23) (u := (.ref .sh 0 [] (.int .i64 e_9))) (.int .i64 e_9) rfl rfl rfl ?_
      refine g_v2 (t1 := 20) (t2 := 24) (u1 := (.int .i64 e_8)) (u2 := (.int .i64 e_9)) (.bool (e_8 != e_9)) rfl rfl rfl rfl ?_
      refine g_end ?_
      refine e_end ?_
      refine renew [(0, (Enc.enc (a_1 : List Int))), (1, (Enc.enc (b_2 : List Int))), (4, (.bool false)), (5, (.int .i64 i_5)), (25, (.bool (e_8 != e_9)))] ⟨h0, h1, h4, h5, rfl⟩ ?_
      rintro s ⟨h0, h1, h4, h5, h25⟩
      refine .nsq ?_
      refine run_cond (t := (e_8 != e_9)) h25 h (fun h => ?_) (fun h => ?_)
      · refine .seq ?_
        refine run_reg ?_
        refine e_end ?_
        refine g_v0 (.bool false) rfl rfl ?_
        refine g_end ?_
        refine e_end ?_
        refine renew [(0, (Enc.enc (a_1 : List Int))), (1, (Enc.enc (b_2 : List Int))), (4, (.bool false)), (5, (.int .i64 i_5))] ⟨h0, h1, rfl, h5⟩ ?_
        rintro s ⟨h0, h1, h4, h5⟩
        refine .nsq ?_
        refine .ret ?_
        have hr := Option.some.inj h
        subst hr
        exact rrA (res_tmp h4) rfl
      · refine .skip ?_
        refine .nbk ?_
        refine .nsq ?_
        refine run_reg ?_
        refine e_end ?_
        refine g_v1 (t := 5) (u := (.int .i64 i_5)) (.int .i64 i_5) h5 rfl rfl ?_
        refine g_v1 (t := 15) (u := (.int .i64 i_5)) (.int .i64 (w64 (i_5 + 1))) rfl rfl rfl ?_
        refine g_v1 (t := 16) (u := (.int .i64 (w64 (i_5 + 1)))) (.int .i64 (w64 (i_5 + 1))) rfl rfl rfl ?_
        refine g_end ?_
        refine e_end ?_
        refine renew [(0, (Enc.enc (a_1 : List Int))), (1, (Enc.enc (b_2 : List Int))), (4, (.bool false)), (5, (.int .i64 (w64 (i_5 + 1))))] ⟨h0, h1, h4, rfl⟩ ?_
        rintro s ⟨h0, h1, h4, h5⟩
        refine .nlp ?_
        exact ih (w64 (i_5 + 1)) _ ⟨h0, h1, h4, h5⟩ h
    · refine .exit ?_
      refine .esq ?_
      refine .elp ?_
      refine .ebk ?_
      refine .nsq ?_
      refine .seq ?_
      refine run_reg ?_
      refine e_end ?_
      refine g_v0 (.bool true) rfl rfl ?_
      refine g_end ?_
      refine e_end ?_
      refine renew [(4, (.bool true))] rfl ?_
      rintro s h4
      refine .nsq ?_
      refine .ret ?_
      have hr := Option.some.inj h
      subst hr
      exact rrA (res_tmp h4) rfl
def w_eqIntS (F : Nat) (a_1 : (List Int)) (b_2 : (List Int)) : Option Bool :=
  bif ((a_1.length : Int) != (b_2.length : Int)) then
    some false
  else
    w_eqIntS_l1 F a_1 b_2 F 0
theorem t21 (H : H21 D σ F) (a_1 : (List Int)) (b_2 : (List Int)) (s : Nat → V) (hs : Facts [(0, (Enc.enc (a_1 : List Int))), (1, (Enc.enc (b_2 : List Int)))] s) (h : w_eqIntS F a_1 b_2 = some r) : Run D σ (R21 r) (.run A21 []) s := by
  unfold w_eqIntS at h
  obtain ⟨h0, h1⟩ := hs
  refine .seq ?_
  refine run_reg ?_
  refine e_end ?_
  refine g_v0 (.bool false) rfl rfl ?_
  refine g_end ?_
  refine e_end ?_
  refine renew [(0, (Enc.enc (a_1 : List Int))), (1, (Enc.enc (b_2 : List Int))), (4, (.bool false))] ⟨h0, h1, rfl⟩ ?_
  rintro s ⟨h0, h1, h4⟩
  refine .nsq ?_
  refine .seq ?_
  refine .seq ?_
  refine run_reg ?_
  refine e_end ?_
  refine g_v1 (t := 0) (u := (Enc.enc (a_1 : List Int))) (Enc.enc (a_1 : List Int)) h0 rfl rfl ?_
  refine g_v (.int .i64 (a_1.length : Int)) (ev_len (xs := a_1) rfl) ?_
  refine g_v1 (t := 1) (u := (Enc.enc (b_2 : List Int))) (Enc.enc (b_2 : List Int)) h1 rfl rfl ?_
  refine g_v (.int .i64 (b_2.length : Int)) (ev_len (xs := b_2) rfl) ?_
  refine g_v2 (t1 := 7) (t2 := 9) (u1 := (.int .i64 (a_1.length : Int))) (u2 := (.int .i64 (b_2.length : Int))) (.bool ((a_1.length : Int) != (b_2.length : Int))) rfl rfl rfl rfl ?_
  refine g_end ?_
  refine e_end ?_
  refine renew [(0, (Enc.enc (a_1 : List Int))), (1, (Enc.enc (b_2 : List Int))), (4, (.bool false)), (10, (.bool ((a_1.length : Int) != (b_2.length : Int))))] ⟨h0, h1, h4, rfl⟩ ?_
  rintro s ⟨h0, h1, h4, h10⟩
  refine .nsq ?_
  refine run_cond (t := ((a_1.length : Int) != (b_2.length : Int))) h10 h (fun h => ?_) (fun h => ?_)
  · refine .seq ?_
    refine run_reg ?_
    refine e_end ?_
    refine g_v0 (.bool false) rfl rfl ?_
    refine g_end ?_
    refine e_end ?_
    refine renew [(0, (Enc.enc (a_1 : List Int))), (1, (Enc.enc (b_2 : List Int))), (4, (.bool false))] ⟨h0, h1, rfl⟩ ?_
    rintro s ⟨h0, h1, h4⟩
    refine .nsq ?_
    refine .ret ?_
    have hr := Option.some.inj h
    subst hr
    exact rrA (res_tmp h4) rfl
  · refine .skip ?_
    refine .nsq ?_
    refine .seq ?_
    refine .seq ?_
    refine run_reg ?_
    refine e_end ?_
    refine g_v0 (.int .i64 0) rfl rfl ?_
    refine g_end ?_
    refine e_end ?_
    refine renew [(0, (Enc.enc (a_1 : List Int))), (1, (Enc.enc (b_2 : List Int))), (4, (.bool false)), (5, (.int .i64 0))] ⟨h0, h1, h4, rfl⟩ ?_
    rintro s ⟨h0, h1, h4, h5⟩
    refine .nsq ?_
    refine .block ?_
    refine .loop ?_
    exact t_f21_l1 H a_1 b_2 F 0 _ ⟨h0, h1, h4, h5⟩ h
end
def e21 (F : Nat) : Ent := ⟨21, da (fun (x : ((List Int) × (List Int) × Unit)) => w_eqIntS F x.1 x.2.1) (fun (r : Bool) => (Enc.enc (r : Bool))), 0, false, selF []⟩
theorem p21 {F : Nat} {x0 : (List Int)} {x1 : (List Int)} {r : Bool} (h : w_eqIntS F x0 x1 = some r) : (e21 F).den [Enc.enc x0, Enc.enc x1] = some (Enc.enc (r : Bool)) := da_put (f := fun (x : ((List Int) × (List Int) × Unit)) => w_eqIntS F x.1 x.2.1) (t := fun (r : Bool) => (Enc.enc (r : Bool))) (x0, x1, ()) h
theorem o21 {D : Den} {σ : Sig} {F : Nat} (hF : Fits2 Try.prog D σ) (H : H21 D σ F) : (e21 F).Ok Try.prog := by
  refine ok_of (f := 21) (show unk 21 = 21 from rfl) (fun args r h => ?_) ⟨Try.f21, Try.func21, rfl, rfl⟩
  obtain ⟨⟨x0, x1, _⟩, y, rfl, hy, rfl⟩ := da_open h
  exact contract_run hF (by kernel_rfl) Try.func21 rfl c21 (show 2 ≤ Try.f21.ntmps by decide) (t21 H x0 x1 _ ⟨rfl, rfl⟩ hy)
/- loop.example/g01109/laws.FnExactIsRanking -/
def A9_1 : AC := (AC.cond (O.t 45) (AC.seq (AC.reg [] [(I.mk (some 4) none false (X.v (A.mov (O.k (V.bool false)))))] []) AC.ret) AC.skip)
def A9_3 : AC := (AC.cond (O.t 50) (AC.seq (AC.reg [] [(I.mk (some 4) none false (X.v (A.mov (O.k (V.bool false)))))] []) AC.ret) AC.skip)
def A9_5 : AC := (AC.cond (O.t 55) (AC.seq (AC.reg [] [(I.mk (some 4) none false (X.v (A.mov (O.k (V.bool false)))))] []) AC.ret) AC.skip)
def A9_6 : AC := (AC.seq (AC.reg [] [(I.mk (some 4) none false (X.v (A.mov (O.k (V.bool true)))))] []) AC.ret)
def A9_4 : AC := (AC.seq (AC.seq (AC.reg [] [(I.mk (some 51) none false (X.v (A.mov (O.t 9)))), (I.mk (some 52) none false (X.v (A.mov (O.t 1)))), (I.mk (some 53) none false (X.call (O.k (V.fn 18 [] [])) [(O.t 52)])), (I.mk (some 54) none false (X.call (O.k (V.fn 21 [] [])) [(O.t 51), (O.t 53)])), (I.mk (some 55) none false (X.v (A.un UnOp.not (O.t 54))))] []) A9_5) A9_6)
def A9_2 : AC := (AC.seq (AC.seq (AC.reg [] [(I.mk (some 46) none false (X.v (A.load (Sh.ag [Sh.s, Sh.p]) (O.t 8)))), (I.mk (some 47) none false (X.v (A.load (Sh.ag [Sh.s, Sh.p]) (O.t 2)))), (I.mk (some 48) none false (X.call (O.k (V.fn 17 [] [])) [(O.t 47)])), (I.mk (some 49) none false (X.call (O.k (V.fn 20 [] [])) [(O.t 46), (O.t 48)])), (I.mk (some 50) none false (X.v (A.un UnOp.not (O.t 49))))] []) A9_3) A9_4)
def A9_8 : AC := (AC.cond (O.t 14) (AC.seq (AC.reg [] [(I.mk (some 4) none false (X.v (A.mov (O.k (V.bool true)))))] []) AC.ret) AC.skip)
def A9_12 : AC := (AC.cond (O.t 19) (AC.seq (AC.reg [] [(I.mk (some 4) none false (X.v (A.mov (O.k (V.bool true)))))] []) AC.ret) AC.skip)
def A9_17 : AC := (AC.seq (AC.seq (AC.reg [] [(I.mk (some 38) none false (X.v (A.mov (O.t 10)))), (I.mk (some 39) none false (X.v (A.mov (O.t 6)))), (I.mk (some 40) none false (X.v (A.beq true (O.t 38) (O.t 39)))), (I.mk (some 41) none false (X.v (A.mov (O.t 40)))), (I.mk (some 42) (some (41, false)) false (X.v (A.mov (O.t 11)))), (I.mk (some 43) (some (41, false)) false (X.v (A.mov (O.t 7)))), (I.mk (some 44) (some (41, false)) false (X.v (A.beq true (O.t 42) (O.t 43)))), (I.mk (some 45) none false (X.v (A.pick (O.t 41) (O.k (V.bool true)) (O.t 44))))] []) A9_1) A9_2)
def A9_16 : AC := (AC.seq (AC.reg [] [(I.mk (some 33) none false (X.v (A.load (Sh.ag [Sh.s, Sh.p]) (O.t 8)))), (I.mk (some 34) none false (X.v (A.mov (O.t 9)))), (I.mk (some 35) none false (X.call (O.k (V.fn 33 [] [])) [(O.t 33), (O.t 34)])), (I.mk (some 32) none false (X.v (A.mov (O.t 35)))), (I.mk (some 36) none false (X.v (A.extS (O.t 32) 0))), (I.mk (some 37) none false (X.v (A.extS (O.t 32) 1))), (I.mk (some 10) none false (X.v (A.mov (O.t 36)))), (I.mk (some 11) none false (X.v (A.mov (O.t 37))))] []) A9_17)
def A9_15 : AC := (AC.seq (AC.reg [] [(I.mk (some 30) none false (X.v (A.mov (O.t 1)))), (I.mk (some 31) none false (X.call (O.k (V.fn 18 [] [])) [(O.t 30)])), (I.mk (some 9) none false (X.v (A.mov (O.t 31))))] []) A9_16)
def A9_14 : AC := (AC.seq (AC.reg [.clr [8]] [(I.mk (some 28) none false (X.v (A.load (Sh.ag [Sh.s, Sh.p]) (O.t 2)))), (I.mk (some 29) none false (X.call (O.k (V.fn 17 [] [])) [(O.t 28)])), (I.mk (some 8) none false (X.alloc (V.agg [(V.int IntKind.i64 (Int.ofNat 0)), (V.sl Tok.nl (Sh.ag [Sh.s, Sh.s]) 0 [])]))), (I.mk none none false (X.store (Sh.ag [Sh.s, Sh.p]) (O.t 8) (O.t 29)))] []) A9_15)
def A9_13 : AC := (AC.seq (AC.reg [] [(I.mk (some 21) none false (X.v (A.load (Sh.ag [Sh.s, Sh.p]) (O.t 2)))), (I.mk (some 22) none false (X.call (O.k (V.fn 17 [] [])) [(O.t 21)])), (I.mk (some 23) none false (X.v (A.mov (O.t 1)))), (I.mk (some 24) none false (X.call (O.k (V.fn 18 [] [])) [(O.t 23)])), (I.mk (some 25) none false (X.call (O.k (V.fn 32 [] [])) [(O.t 22), (O.t 24)])), (I.mk (some 20) none false (X.v (A.mov (O.t 25)))), (I.mk (some 26) none false (X.v (A.extS (O.t 20) 0))), (I.mk (some 27) none false (X.v (A.extS (O.t 20) 1))), (I.mk (some 6) none false (X.v (A.mov (O.t 26)))), (I.mk (some 7) none false (X.v (A.mov (O.t 27))))] []) A9_14)
def A9_11 : AC := (AC.seq (AC.seq (AC.reg [] [(I.mk (some 18) none false (X.v (A.mov (O.t 5)))), (I.mk (some 19) none false (X.v (A.bin BinOp.lss (O.t 18) (O.k (V.int IntKind.i64 (Int.ofNat 0))))))] []) A9_12) A9_13)
def A9_10 : AC := (AC.seq (AC.reg [] [(I.mk (some 15) none false (X.v (A.load (Sh.ag [Sh.s, Sh.p]) (O.t 2)))), (I.mk (some 16) none false (X.v (A.mov (O.t 5)))), (I.mk (some 17) none false (X.call (O.k (V.fn 15 [] [])) [(O.t 15), (O.t 16)])), (I.mk (some 5) none false (X.v (A.mov (O.t 17))))] []) A9_11)
def A9_9 : AC := (AC.seq (AC.reg [] [(I.mk (some 5) none false (X.v (A.mov (O.k (V.int IntKind.i64 (Int.ofNat 1048576))))))] []) A9_10)
def A9_7 : AC := (AC.seq (AC.seq (AC.reg [] [(I.mk (some 12) none false (X.v (A.mov (O.t 1)))), (I.mk (some 13) none false (X.v (A.len (O.t 12)))), (I.mk (some 14) none false (X.v (A.bin BinOp.gtr (O.t 13) (O.k (V.int IntKind.i64 (Int.ofNat 1048576))))))] []) A9_8) A9_9)
def A9 : AC := (AC.seq (AC.reg [.clr [2]] [(I.mk (some 2) none false (X.box (O.t 0))), (I.mk (some 4) none false (X.v (A.mov (O.k (V.bool false)))))] []) A9_7)
def an9 : List An := [{ id := 0, pre := [.clr [2]], ep := [], lin := [], sp := [] }, { id := 8, pre := [.clr [8]], ep := [], lin := [], sp := [] }]
theorem c9 : cC Try.prog Try.f9.ntmps an9 (Try.f9.body.getD .skip) = some A9 := by kernel_rfl
structure H9 (D : Den) (σ : Sig) (F : Nat) : Prop where
  c15 : ∀ (x0 : (Int × (List (Int × Int)))) (x1 : Int) r, w_szGraph F x0 x1 = some r → D 15 [Enc.enc x0, Enc.enc x1] = some (Enc.enc (r : Int))
  g15 : σ 15 = some (0, false)
  c17 : ∀ (x0 : (Int × (List (Int × Int)))) r, w_toGraph F x0 = some r → D 17 [Enc.enc x0] = some (Enc.enc (r : (Int × (List (Int × Int)))))
  g17 : σ 17 = some (0, true)
  c18 : ∀ (x0 : (List Int)) r, w_toIntS F x0 = some r → D 18 [Enc.enc x0] = some (Enc.enc (r : (List Int)))
  g18 : σ 18 = some (0, false)
  c32 : ∀ (x0 : (Int × (List (Int × Int)))) (x1 : (List Int)) r, s_IsRanking F x0 x1 = some r → D 32 [Enc.enc x0, Enc.enc x1] = some (.tup [Enc.enc (r.1 : Bool), Enc.enc (r.2 : Bool)])
  g32 : σ 32 = some (0, false)
  c33 : ∀ (x0 : (Int × (List (Int × Int)))) (x1 : (List Int)) r, i_IsRanking F x0 x1 = some r → D 33 [Enc.enc x0, Enc.enc x1] = some (.tup [Enc.enc (r.1 : Bool), Enc.enc (r.2 : Bool)])
  g33 : σ 33 = some (0, false)
  c20 : ∀ (x0 : (Int × (List (Int × Int)))) (x1 : (Int × (List (Int × Int)))) r, w_eqGraph F x0 x1 = some r → D 20 [Enc.enc x0, Enc.enc x1] = some (Enc.enc (r : Bool))
  g20 : σ 20 = some (0, false)
  c21 : ∀ (x0 : (List Int)) (x1 : (List Int)) r, w_eqIntS F x0 x1 = some r → D 21 [Enc.enc x0, Enc.enc x1] = some (Enc.enc (r : Bool))
  g21 : σ 21 = some (0, false)
abbrev R9 (r : Bool) : (Nat → V) → Prop := RR Try.prog [.tmp 4] 0 false (Enc.enc (r : Bool))
section
variable {D : Den} {σ : Sig} {F : Nat} {r : Bool}
def w_FnExactIsRanking_j1 (F : Nat) (aRanks_2 : (List Int)) (aG_1 : (Int × (List (Int × Int)))) (r_7 : (Int × (List (Int × Int)))) (r_8 : (List Int))  (t45_10 : Bool) : Option Bool :=
  bif t45_10 then
    some false
  else
    (w_toGraph F aG_1).bind fun r_11 =>
    (w_eqGraph F r_7 r_11).bind fun r_12 =>
    bif (!r_12) then
      some false
    else
      (w_toIntS F aRanks_2).bind fun r_13 =>
      (w_eqIntS F r_8 r_13).bind fun r_14 =>
      bif (!r_14) then
        some false
      else
        some true
theorem t_f9_j1 (H : H9 D σ F) (aRanks_2 : (List Int)) (aG_1 : (Int × (List (Int × Int)))) (r_7 : (Int × (List (Int × Int)))) (r_8 : (List Int))  (t45_10 : Bool) (s : Nat → V) (hs : Facts [(1, (Enc.enc (aRanks_2 : List Int))), (2, (.ref (.bx 2) 0 [] (.agg [(.int .i64 aG_1.1), (Enc.enc (aG_1.2 : List (Int × Int)))]))), (4, (.bool false)), (8, (.ref (.bx 8) 0 [] (.agg [(.int .i64 r_7.1), (Enc.enc (r_7.2 : List (Int × Int)))]))), (9, (Enc.enc (r_8 : List Int))), (45, (.bool t45_10))] s) (h : w_FnExactIsRanking_j1 F aRanks_2 aG_1 r_7 r_8  t45_10 = some r) : Run D σ (R9 r) (.nrm [.sq A9_1, .sq A9_2]) s := by
  unfold w_FnExactIsRanking_j1 at h
  obtain ⟨h1, h2, h4, h8, h9, h45⟩ := hs
  refine .nsq ?_
  refine run_cond (t := t45_10) h45 h (fun h => ?_) (fun h => ?_)
  · refine .seq ?_
    refine run_reg ?_
    refine e_end ?_
    refine g_v0 (.bool false) rfl rfl ?_
    refine g_end ?_
    refine e_end ?_
    refine renew [(1, (Enc.enc (aRanks_2 : List Int))), (2, (.ref (.bx 2) 0 [] (.agg [(.int .i64 aG_1.1), (Enc.enc (aG_1.2 : List (Int × Int)))]))), (4, (.bool false)), (8, (.ref (.bx 8) 0 [] (.agg [(.int .i64 r_7.1), (Enc.enc (r_7.2 : List (Int × Int)))]))), (9, (Enc.enc (r_8 : List Int)))] ⟨h1, h2, rfl, h8, h9⟩ ?_
    rintro s ⟨h1, h2, h4, h8, h9⟩
    refine .nsq ?_
    refine .ret ?_
    have hr := Option.some.inj h
    subst hr
    exact rrA (res_tmp h4) rfl
  · refine .skip ?_
    refine .nsq ?_
    refine .seq ?_
    refine .seq ?_
    refine run_reg ?_
    refine e_end ?_
    refine g_v1 (t := 8) (u := (.ref (.bx 8) 0 [] (.agg [(.int .i64 r_7.1), (Enc.enc (r_7.2 : List (Int × Int)))]))) (.agg [(.int .i64 r_7.1), (Enc.enc (r_7.2 : List (Int × Int)))]) h8 rfl rfl ?_
    refine g_v1 (t := 2) (u := (.ref (.bx 2) 0 [] (.agg [(.int .i64 aG_1.1), (Enc.enc (aG_1.2 : List (Int × Int)))]))) (.agg [(.int .i64 aG_1.1), (Enc.enc (aG_1.2 : List (Int × Int)))]) h2 rfl rfl ?_
    obtain ⟨r_11, E_r_11, h⟩ := bind_some h
    refine g_call (m := 0) (al := true) (r := (Enc.enc (r_11 : (Int × (List (Int × Int)))))) [Enc.enc (aG_1 : (Int × (List (Int × Int))))] (ta_cons (v := (.agg [(.int .i64 aG_1.1), (Enc.enc (aG_1.2 : List (Int × Int)))])) rfl rfl (Enc.erase_enc (aG_1 : (Int × (List (Int × Int))))) ta_nil) (H.c17 _ _ E_r_11) H.g17 (hal_of (ht_cons (v := (.agg [(.int .i64 aG_1.1), (Enc.enc (aG_1.2 : List (Int × Int)))])) rfl rfl rfl ht_nil)) rfl rfl rfl ?_
    obtain ⟨r_12, E_r_12, h⟩ := bind_some h
    refine g_call (m := 0) (al := false) (r := (Enc.enc (r_12 : Bool))) [Enc.enc (r_7 : (Int × (List (Int × Int)))), Enc.enc (r_11 : (Int × (List (Int × Int))))] (ta_cons (v := (.agg [(.int .i64 r_7.1), (Enc.enc (r_7.2 : List (Int × Int)))])) rfl rfl (Enc.erase_enc (r_7 : (Int × (List (Int × Int))))) (ta_cons (v := (.agg [(.int .i64 r_11.1), (Enc.enc (r_11.2 : List (Int × Int)))])) rfl rfl (Enc.erase_enc (r_11 : (Int × (List (Int × Int))))) ta_nil)) (H.c20 _ _ _ E_r_12) H.g20 rfl rfl rfl rfl ?_
    refine g_v1 (t := 49) (u := (.bool r_12)) (.bool (!r_12)) rfl rfl rfl ?_
    refine g_end ?_
    refine e_end ?_
    refine renew [(1, (Enc.enc (aRanks_2 : List Int))), (4, (.bool false)), (9, (Enc.enc (r_8 : List Int))), (50, (.bool (!r_12)))] ⟨h1, h4, h9, rfl⟩ ?_
    rintro s ⟨h1, h4, h9, h50⟩
    refine .nsq ?_
    refine run_cond (t := (!r_12)) h50 h (fun h => ?_) (fun h => ?_)
    · refine .seq ?_
      refine run_reg ?_
      refine e_end ?_
      refine g_v0 (.bool false) rfl rfl ?_
      refine g_end ?_
      refine e_end ?_
      refine renew [(1, (Enc.enc (aRanks_2 : List Int))), (4, (.bool false)), (9, (Enc.enc (r_8 : List Int)))] ⟨h1, rfl, h9⟩ ?_
      rintro s ⟨h1, h4, h9⟩
      refine .nsq ?_
      refine .ret ?_
      have hr := Option.some.inj h
      subst hr
      exact rrA (res_tmp h4) rfl
    · refine .skip ?_
      refine .nsq ?_
      refine .seq ?_
      refine .seq ?_
      refine run_reg ?_
      refine e_end ?_
      refine g_v1 (t := 9) (u := (Enc.enc (r_8 : List Int))) (Enc.enc (r_8 : List Int)) h9 rfl rfl ?_
      refine g_v1 (t := 1) (u := (Enc.enc (aRanks_2 : List Int))) (Enc.enc (aRanks_2 : List Int)) h1 rfl rfl ?_
      obtain ⟨r_13, E_r_13, h⟩ := bind_some h
      refine g_call (m := 0) (al := false) (r := (Enc.enc (r_13 : (List Int)))) [Enc.enc (aRanks_2 : (List Int))] (ta_cons (v := (Enc.enc (aRanks_2 : List Int))) rfl rfl (Enc.erase_enc (aRanks_2 : (List Int))) ta_nil) (H.c18 _ _ E_r_13) H.g18 rfl rfl rfl rfl ?_
      obtain ⟨r_14, E_r_14, h⟩ := bind_some h
      refine g_call (m := 0) (al := false) (r := (Enc.enc (r_14 : Bool))) [Enc.enc (r_8 : (List Int)), Enc.enc (r_13 : (List Int))] (ta_cons (v := (Enc.enc (r_8 : List Int))) rfl rfl (Enc.erase_enc (r_8 : (List Int))) (ta_cons (v := (Enc.enc (r_13 : List Int))) rfl rfl (Enc.erase_enc (r_13 : (List Int))) ta_nil)) (H.c21 _ _ _ E_r_14) H.g21 rfl rfl rfl rfl ?_
      refine g_v1 (t := 54) (u := (.bool r_14)) (.bool (!r_14)) rfl rfl rfl ?_
      refine g_end ?_
      refine e_end ?_
      refine renew [(4, (.bool false)), (55, (.bool (!r_14)))] ⟨h4, rfl⟩ ?_
      rintro s ⟨h4, h55⟩
      refine .nsq ?_
      refine run_cond (t := (!r_14)) h55 h (fun h => ?_) (fun h => ?_)
      · refine .seq ?_
        refine run_reg ?_
        refine e_end ?_
        refine g_v0 (.bool false) rfl rfl ?_
        refine g_end ?_
        refine e_end ?_
        refine renew [(4, (.bool false))] rfl ?_
        rintro s h4
        refine .nsq ?_
        refine .ret ?_
        have hr := Option.some.inj h
        subst hr
        exact rrA (res_tmp h4) rfl
      · refine .skip ?_
        refine .nsq ?_
        refine .seq ?_
        refine run_reg ?_
        refine e_end ?_
        refine g_v0 (.bool true) rfl rfl ?_
        refine g_end ?_
        refine e_end ?_
        refine renew [(4, (.bool true))] rfl ?_
        rintro s h4
        refine .nsq ?_
        refine .ret ?_
        have hr := Option.some.inj h
        subst hr
        exact rrA (res_tmp h4) rfl
def w_FnExactIsRanking (F : Nat) (aG_1 : (Int × (List (Int × Int)))) (aRanks_2 : (List Int)) : Option Bool :=
  bif decide ((aRanks_2.length : Int) > 1048576) then
    some true
  else
    (w_szGraph F aG_1 1048576).bind fun r_3 =>
    bif decide (r_3 < 0) then
      some true
    else
      (w_toGraph F aG_1).bind fun r_4 =>
      (w_toIntS F aRanks_2).bind fun r_5 =>
      (s_IsRanking F r_4 r_5).bind fun r_6 =>
      (w_toGraph F aG_1).bind fun r_7 =>
      (w_toIntS F aRanks_2).bind fun r_8 =>
      (i_IsRanking F r_7 r_8).bind fun r_9 =>
      bif (r_9.1 != r_6.1) then
        w_FnExactIsRanking_j1 F aRanks_2 aG_1 r_7 r_8 true
      else
        w_FnExactIsRanking_j1 F aRanks_2 aG_1 r_7 r_8 (r_9.2 != r_6.2)
theorem t9 (H : H9 D σ F) (aG_1 : (Int × (List (Int × Int)))) (aRanks_2 : (List Int)) (s : Nat → V) (hs : Facts [(0, (.agg [(.int .i64 aG_1.1), (Enc.enc (aG_1.2 : List (Int × Int)))])), (1, (Enc.enc (aRanks_2 : List Int)))] s) (h : w_FnExactIsRanking F aG_1 aRanks_2 = some r) : Run D σ (R9 r) (.run A9 []) s := by
  unfold w_FnExactIsRanking at h
  obtain ⟨h0, h1⟩ := hs
  refine .seq ?_
  refine run_reg ?_
  refine e_clr ?_
  refine e_end ?_
  refine g_box (.agg [(.int .i64 aG_1.1), (Enc.enc (aG_1.2 : List (Int × Int)))]) (rd_of (keep_clear (s := s) (pk := [2]) h0 rfl (map_agg (maps_cons rfl (maps_cons (Enc.map_enc _ (aG_1.2 : List (Int × Int))) maps_nil)))) rfl) (gone_clear (s := s) (pk := [2]) (t := 2) rfl) rfl ?_
  refine g_v0 (.bool false) rfl rfl ?_
  refine g_end ?_
  refine e_end ?_
  refine renew [(1, (Enc.enc (aRanks_2 : List Int))), (2, (.ref (.bx 2) 0 [] (.agg [(.int .i64 aG_1.1), (Enc.enc (aG_1.2 : List (Int × Int)))]))), (4, (.bool false))] ⟨(keep_clear (s := s) (pk := [2]) h1 rfl (Enc.map_enc _ (aRanks_2 : List Int))), rfl, rfl⟩ ?_
  rintro s ⟨h1, h2, h4⟩
  refine .nsq ?_
  refine .seq ?_
  refine .seq ?_
  refine run_reg ?_
  refine e_end ?_
  refine g_v1 (t := 1) (u := (Enc.enc (aRanks_2 : List Int))) (Enc.enc (aRanks_2 : List Int)) h1 rfl rfl ?_
  refine g_v (.int .i64 (aRanks_2.length : Int)) (ev_len (xs := aRanks_2) rfl) ?_
  refine g_v1 (t := 13) (u := (.int .i64 (aRanks_2.length : Int))) (.bool (decide ((aRanks_2.length : Int) > 1048576))) rfl rfl rfl ?_
  refine g_end ?_
  refine e_end ?_
  refine renew [(1, (Enc.enc (aRanks_2 : List Int))), (2, (.ref (.bx 2) 0 [] (.agg [(.int .i64 aG_1.1), (Enc.enc (aG_1.2 : List (Int × Int)))]))), (4, (.bool false)), (14, (.bool (decide ((aRanks_2.length : Int) > 1048576))))] ⟨h1, h2, h4, rfl⟩ ?_
  rintro s ⟨h1, h2, h4, h14⟩
  refine .nsq ?_
  refine run_cond (t := decide ((aRanks_2.length : Int) > 1048576)) h14 h (fun h => ?_) (fun h => ?_)
  · refine .seq ?_
    refine run_reg ?_
    refine e_end ?_
    refine g_v0 (.bool true) rfl rfl ?_
    refine g_end ?_
    refine e_end ?_
    refine renew [(1, (Enc.enc (aRanks_2 : List Int))), (2, (.ref (.bx 2) 0 [] (.agg [(.int .i64 aG_1.1), (Enc.enc (aG_1.2 : List (Int × Int)))]))), (4, (.bool true))] ⟨h1, h2, rfl⟩ ?_
    rintro s ⟨h1, h2, h4⟩
    refine .nsq ?_
    refine .ret ?_
    have hr := Option.some.inj h
    subst hr
    exact rrA (res_tmp h4) rfl
  · refine .skip ?_
    refine .nsq ?_
    refine .seq ?_
    refine run_reg ?_
    refine e_end ?_
    refine g_v0 (.int .i64 1048576) rfl rfl ?_
    refine g_end ?_
    refine e_end ?_
    refine renew [(1, (Enc.enc (aRanks_2 : List Int))), (2, (.ref (.bx 2) 0 [] (.agg [(.int .i64 aG_1.1), (Enc.enc (aG_1.2 : List (Int × Int)))]))), (4, (.bool false)), (5, (.int .i64 1048576))] ⟨h1, h2, h4, rfl⟩ ?_
    rintro s ⟨h1, h2, h4, h5⟩
    refine .nsq ?_
    refine .seq ?_
    refine run_reg ?_
    refine e_end ?_
    refine g_v1 (t := 2) (u := (.ref (.bx 2) 0 [] (.agg [(.int .i64 aG_1.1), (Enc.enc (aG_1.2 : List (Int × Int)))]))) (.agg [(.int .i64 aG_1.1), (Enc.enc (aG_1.2 : List (Int × Int)))]) h2 rfl rfl ?_
    refine g_v1 (t := 5) (u := (.int .i64 1048576)) (.int .i64 1048576) h5 rfl rfl ?_
    obtain ⟨r_3, E_r_3, h⟩ := bind_some h
    refine g_call (m := 0) (al := false) (r := (Enc.enc (r_3 : Int))) [Enc.enc (aG_1 : (Int × (List (Int × Int)))), Enc.enc (1048576 : Int)] (ta_cons (v := (.agg [(.int .i64 aG_1.1), (Enc.enc (aG_1.2 : List (Int × Int)))])) rfl rfl (Enc.erase_enc (aG_1 : (Int × (List (Int × Int))))) (ta_cons (v := (.int .i64 1048576)) rfl rfl rfl ta_nil)) (H.c15 _ _ _ E_r_3) H.g15 rfl rfl rfl rfl ?_
    refine g_v1 (t := 17) (u := (.int .i64 r_3)) (.int .i64 r_3) rfl rfl rfl ?_
    refine g_end ?_
    refine e_end ?_
    refine renew [(1, (Enc.enc (aRanks_2 : List Int))), (2, (.ref (.bx 2) 0 [] (.agg [(.int .i64 aG_1.1), (Enc.enc (aG_1.2 : List (Int × Int)))]))), (4, (.bool false)), (5, (.int .i64 r_3))] ⟨h1, h2, h4, rfl⟩ ?_
    rintro s ⟨h1, h2, h4, h5⟩
    refine .nsq ?_
    refine .seq ?_
    refine .seq ?_
    refine run_reg ?_
    refine e_end ?_
    refine g_v1 (t := 5) (u := (.int .i64 r_3)) (.int .i64 r_3) h5 rfl rfl ?_
    refine g_v1 (t := 18) (u := (.int .i64 r_3)) (.bool (decide (r_3 < 0))) rfl rfl rfl ?_
    refine g_end ?_
    refine e_end ?_
    refine renew [(1, (Enc.enc (aRanks_2 : List Int))), (2, (.ref (.bx 2) 0 [] (.agg [(.int .i64 aG_1.1), (Enc.enc (aG_1.2 : List (Int × Int)))]))), (4, (.bool false)), (19, (.bool (decide (r_3 < 0))))] ⟨h1, h2, h4, rfl⟩ ?_
    rintro s ⟨h1, h2, h4, h19⟩
    refine .nsq ?_
    refine run_cond (t := decide (r_3 < 0)) h19 h (fun h => ?_) (fun h => ?_)
    · refine .seq ?_
      refine run_reg ?_
      refine e_end ?_
      refine g_v0 (.bool true) rfl rfl ?_
      refine g_end ?_
      refine e_end ?_
      refine renew [(1, (Enc.enc (aRanks_2 : List Int))), (2, (.ref (.bx 2) 0 [] (.agg [(.int .i64 aG_1.1), (Enc.enc (aG_1.2 : List (Int × Int)))]))), (4, (.bool true))] ⟨h1, h2, rfl⟩ ?_
      rintro s ⟨h1, h2, h4⟩
      refine .nsq ?_
      refine .ret ?_
      have hr := Option.some.inj h
      subst hr
      exact rrA (res_tmp h4) rfl
    · refine .skip ?_
      refine .nsq ?_
      refine .seq ?_
      refine run_reg ?_
      refine e_end ?_
      refine g_v1 (t := 2) (u := (.ref (.bx 2) 0 [] (.agg [(.int .i64 aG_1.1), (Enc.enc (aG_1.2 : List (Int × Int)))]))) (.agg [(.int .i64 aG_1.1), (Enc.enc (aG_1.2 : List (Int × Int)))]) h2 rfl rfl ?_
      obtain ⟨r_4, E_r_4, h⟩ := bind_some h
      refine g_call (m := 0) (al := true) (r := (Enc.enc (r_4 : (Int × (List (Int × Int)))))) [Enc.enc (aG_1 : (Int × (List (Int × Int))))] (ta_cons (v := (.agg [(.int .i64 aG_1.1), (Enc.enc (aG_1.2 : List (Int × Int)))])) rfl rfl (Enc.erase_enc (aG_1 : (Int × (List (Int × Int))))) ta_nil) (H.c17 _ _ E_r_4) H.g17 (hal_of (ht_cons (v := (.agg [(.int .i64 aG_1.1), (Enc.enc (aG_1.2 : List (Int × Int)))])) rfl rfl rfl ht_nil)) rfl rfl rfl ?_
      refine g_v1 (t := 1) (u := (Enc.enc (aRanks_2 : List Int))) (Enc.enc (aRanks_2 : List Int)) h1 rfl rfl ?_
      obtain ⟨r_5, E_r_5, h⟩ := bind_some h
      refine g_call (m := 0) (al := false) (r := (Enc.enc (r_5 : (List Int)))) [Enc.enc (aRanks_2 : (List Int))] (ta_cons (v := (Enc.enc (aRanks_2 : List Int))) rfl rfl (Enc.erase_enc (aRanks_2 : (List Int))) ta_nil) (H.c18 _ _ E_r_5) H.g18 rfl rfl rfl rfl ?_
      obtain ⟨r_6, E_r_6, h⟩ := bind_some h
      refine g_call (m := 0) (al := false) (r := (.tup [Enc.enc (r_6.1 : Bool), Enc.enc (r_6.2 : Bool)])) [Enc.enc (r_4 : (Int × (List (Int × Int)))), Enc.enc (r_5 : (List Int))] (ta_cons (v := (.agg [(.int .i64 r_4.1), (Enc.enc (r_4.2 : List (Int × Int)))])) rfl rfl (Enc.erase_enc (r_4 : (Int × (List (Int × Int))))) (ta_cons (v := (Enc.enc (r_5 : List Int))) rfl rfl (Enc.erase_enc (r_5 : (List Int))) ta_nil)) (H.c32 _ _ _ E_r_6) H.g32 rfl rfl rfl rfl ?_
      refine g_v1 (t := 25) (u := (.tup [(.bool r_6.1), (.bool r_6.2)])) (.tup [(.bool r_6.1), (.bool r_6.2)]) rfl rfl rfl ?_
      refine g_v1 (t := 20) (u := (.tup [(.bool r_6.1), (.bool r_6.2)])) (.bool r_6.1) rfl rfl rfl ?_
      refine g_v1 (t := 20) (u := (.tup [(.bool r_6.1), (.bool r_6.2)])) (.bool r_6.2) rfl rfl rfl ?_
      refine g_v1 (t := 26) (u := (.bool r_6.1)) (.bool r_6.1) rfl rfl rfl ?_
      refine g_v1 (t := 27) (u := (.bool r_6.2)) (.bool r_6.2) rfl rfl rfl ?_
      refine g_end ?_
      refine e_end ?_
      refine renew [(1, (Enc.enc (aRanks_2 : List Int))), (2, (.ref (.bx 2) 0 [] (.agg [(.int .i64 aG_1.1), (Enc.enc (aG_1.2 : List (Int × Int)))]))), (4, (.bool false)), (6, (.bool r_6.1)), (7, (.bool r_6.2))] ⟨h1, h2, h4, rfl, rfl⟩ ?_
      rintro s ⟨h1, h2, h4, h6, h7⟩
      refine .nsq ?_
      refine .seq ?_
      refine run_reg ?_
      refine e_clr ?_
      refine e_end ?_
      refine g_v1 (t := 2) (u := (.ref (.bx 2) 0 [] (.agg [(.int .i64 aG_1.1), (Enc.enc (aG_1.2 : List (Int × Int)))]))) (.agg [(.int .i64 aG_1.1), (Enc.enc (aG_1.2 : List (Int × Int)))]) (keep_clear (s := s) (pk := [8]) h2 rfl (map_bx rfl (map_agg (maps_cons rfl (maps_cons (Enc.map_enc _ (aG_1.2 : List (Int × Int))) maps_nil))))) rfl rfl ?_
      obtain ⟨r_7, E_r_7, h⟩ := bind_some h
      refine g_call (m := 0) (al := true) (r := (Enc.enc (r_7 : (Int × (List (Int × Int)))))) [Enc.enc (aG_1 : (Int × (List (Int × Int))))] (ta_cons (v := (.agg [(.int .i64 aG_1.1), (Enc.enc (aG_1.2 : List (Int × Int)))])) rfl rfl (Enc.erase_enc (aG_1 : (Int × (List (Int × Int))))) ta_nil) (H.c17 _ _ E_r_7) H.g17 (hal_of (ht_cons (v := (.agg [(.int .i64 aG_1.1), (Enc.enc (aG_1.2 : List (Int × Int)))])) rfl rfl rfl ht_nil)) rfl rfl rfl ?_
      refine g_alloc (gone_clear (s := s) (pk := [8]) (t := 8) rfl) ?_
      refine g_store (.agg [(.int .i64 r_7.1), (Enc.enc (r_7.2 : List (Int × Int)))]) (rd_of rfl rfl) (rd_of rfl rfl) (by refine ⟨by decide, by decide, rfl, rfl, rfl, ?_⟩; first | rfl | simp [V.toks, V.tokss, Enc.toks_enc]) ?_
      refine g_end ?_
      refine e_end ?_
      refine renew [(1, (Enc.enc (aRanks_2 : List Int))), (2, (.ref (.bx 2) 0 [] (.agg [(.int .i64 aG_1.1), (Enc.enc (aG_1.2 : List (Int × Int)))]))), (4, (.bool false)), (6, (.bool r_6.1)), (7, (.bool r_6.2)), (8, (.ref (.bx 8) 0 [] (.agg [(.int .i64 r_7.1), (Enc.enc (r_7.2 : List (Int × Int)))])))] ⟨(keep_mut (keep_clear (s := s) (pk := [8]) h1 rfl (Enc.map_enc _ (aRanks_2 : List Int))) (Enc.mut_enc _ _ _ _ (aRanks_2 : List Int))), (keep_mut (keep_clear (s := s) (pk := [8]) h2 rfl (map_bx rfl (map_agg (maps_cons rfl (maps_cons (Enc.map_enc _ (aG_1.2 : List (Int × Int))) maps_nil))))) (mut_ref_ne rfl rfl (mut_agg (muts_cons rfl (muts_cons (Enc.mut_enc _ _ _ _ (aG_1.2 : List (Int × Int))) rfl))))), (keep_mut (keep_clear (s := s) (pk := [8]) h4 rfl rfl) rfl), (keep_mut (keep_clear (s := s) (pk := [8]) h6 rfl rfl) rfl), (keep_mut (keep_clear (s := s) (pk := [8]) h7 rfl rfl) rfl), (keep_mut rfl rfl)⟩ ?_
      rintro s ⟨h1, h2, h4, h6, h7, h8⟩
      refine .nsq ?_
      refine .seq ?_
      refine run_reg ?_
      refine e_end ?_
      refine g_v1 (t := 1) (u := (Enc.enc (aRanks_2 : List Int))) (Enc.enc (aRanks_2 : List Int)) h1 rfl rfl ?_
      obtain ⟨r_8, E_r_8, h⟩ := bind_some h
      refine g_call (m := 0) (al := false) (r := (Enc.enc (r_8 : (List Int)))) [Enc.enc (aRanks_2 : (List Int))] (ta_cons (v := (Enc.enc (aRanks_2 : List Int))) rfl rfl (Enc.erase_enc (aRanks_2 : (List Int))) ta_nil) (H.c18 _ _ E_r_8) H.g18 rfl rfl rfl rfl ?_
      refine g_v1 (t := 31) (u := (Enc.enc (r_8 : List Int))) (Enc.enc (r_8 : List Int)) rfl rfl rfl ?_
      refine g_end ?_
      refine e_end ?_
      refine renew [(1, (Enc.enc (aRanks_2 : List Int))), (2, (.ref (.bx 2) 0 [] (.agg [(.int .i64 aG_1.1), (Enc.enc (aG_1.2 : List (Int × Int)))]))), (4, (.bool false)), (6, (.bool r_6.1)), (7, (.bool r_6.2)), (8, (.ref (.bx 8) 0 [] (.agg [(.int .i64 r_7.1), (Enc.enc (r_7.2 : List (Int × Int)))]))), (9, (Enc.enc (r_8 : List Int)))] ⟨h1, h2, h4, h6, h7, h8, rfl⟩ ?_
      rintro s ⟨h1, h2, h4, h6, h7, h8, h9⟩
      refine .nsq ?_
      refine .seq ?_
      refine run_reg ?_
      refine e_end ?_
      refine g_v1 (t := 8) (u := (.ref (.bx 8) 0 [] (.agg [(.int .i64 r_7.1), (Enc.enc (r_7.2 : List (Int × Int)))]))) (.agg [(.int .i64 r_7.1), (Enc.enc (r_7.2 : List (Int × Int)))]) h8 rfl rfl ?_
      refine g_v1 (t := 9) (u := (Enc.enc (r_8 : List Int))) (Enc.enc (r_8 : List Int)) h9 rfl rfl ?_
      obtain ⟨r_9, E_r_9, h⟩ := bind_some h
      refine g_call (m := 0) (al := false) (r := (.tup [Enc.enc (r_9.1 : Bool), Enc.enc (r_9.2 : Bool)])) [Enc.enc (r_7 : (Int × (List (Int × Int)))), Enc.enc (r_8 : (List Int))] (ta_cons (v := (.agg [(.int .i64 r_7.1), (Enc.enc (r_7.2 : List (Int × Int)))])) rfl rfl (Enc.erase_enc (r_7 : (Int × (List (Int × Int))))) (ta_cons (v := (Enc.enc (r_8 : List Int))) rfl rfl (Enc.erase_enc (r_8 : (List Int))) ta_nil)) (H.c33 _ _ _ E_r_9) H.g33 rfl rfl rfl rfl ?_
      refine g_v1 (t := 35) (u := (.tup [(.bool r_9.1), (.bool r_9.2)])) (.tup [(.bool r_9.1), (.bool r_9.2)]) rfl rfl rfl ?_
      refine g_v1 (t := 32) (u := (.tup [(.bool r_9.1), (.bool r_9.2)])) (.bool r_9.1) rfl rfl rfl ?_
      refine g_v1 (t := 32) (u := (.tup [(.bool r_9.1), (.bool r_9.2)])) (.bool r_9.2) rfl rfl rfl ?_
      refine g_v1 (t := 36) (u := (.bool r_9.1)) (.bool r_9.1) rfl rfl rfl ?_
      refine g_v1 (t := 37) (u := (.bool r_9.2)) (.bool r_9.2) rfl rfl rfl ?_
      refine g_end ?_
      refine e_end ?_
      refine renew [(1, (Enc.enc (aRanks_2 : List Int))), (2, (.ref (.bx 2) 0 [] (.agg [(.int .i64 aG_1.1), (Enc.enc (aG_1.2 : List (Int × Int)))]))), (4, (.bool false)), (6, (.bool r_6.1)), (7, (.bool r_6.2)), (8, (.ref (.bx 8) 0 [] (.agg [(.int .i64 r_7.1), (Enc.enc (r_7.2 : List (Int × Int)))]))), (9, (Enc.enc (r_8 : List Int))), (10, (.bool r_9.1)), (11, (.bool r_9.2))] ⟨h1, h2, h4, h6, h7, h8, h9, rfl, rfl⟩ ?_
      rintro s ⟨h1, h2, h4, h6, h7, h8, h9, h10, h11⟩
      refine .nsq ?_
      refine .seq ?_
      refine .seq ?_
      refine run_reg ?_
      refine e_end ?_
      refine g_v1 (t := 10) (u := (.bool r_9.1)) (.bool r_9.1) h10 rfl rfl ?_
      refine g_v1 (t := 6) (u := (.bool r_6.1)) (.bool r_6.1) h6 rfl rfl ?_
      refine g_v2 (t1 := 38) (t2 := 39) (u1 := (.bool r_9.1)) (u2 := (.bool r_6.1)) (.bool (r_9.1 != r_6.1)) rfl rfl rfl rfl ?_
      refine g_v1 (t := 40) (u := (.bool (r_9.1 != r_6.1))) (.bool (r_9.1 != r_6.1)) rfl rfl rfl ?_
      refine split_on (c := (r_9.1 != r_6.1)) h (fun hg4 h => ?_) (fun hg4 h => ?_)
      · refine g_no (Eq.trans (b := .bool (r_9.1 != r_6.1)) rfl (congrArg V.bool hg4)) ?_
        refine g_no (Eq.trans (b := .bool (r_9.1 != r_6.1)) rfl (congrArg V.bool hg4)) ?_
        refine g_no (Eq.trans (b := .bool (r_9.1 != r_6.1)) rfl (congrArg V.bool hg4)) ?_
        refine g_v2 (t1 := 41) (t2 := 44) (u1 := (.bool true)) (u2 := (.tup [])) (.bool true) (Eq.trans (b := .bool (r_9.1 != r_6.1)) rfl (congrArg V.bool hg4)) rfl rfl rfl ?_
        refine g_end ?_
        refine e_end ?_
        refine renew [(1, (Enc.enc (aRanks_2 : List Int))), (2, (.ref (.bx 2) 0 [] (.agg [(.int .i64 aG_1.1), (Enc.enc (aG_1.2 : List (Int × Int)))]))), (4, (.bool false)), (8, (.ref (.bx 8) 0 [] (.agg [(.int .i64 r_7.1), (Enc.enc (r_7.2 : List (Int × Int)))]))), (9, (Enc.enc (r_8 : List Int))), (45, (.bool true))] ⟨h1, h2, h4, h8, h9, rfl⟩ ?_
        rintro s ⟨h1, h2, h4, h8, h9, h45⟩
        exact t_f9_j1 H aRanks_2 aG_1 r_7 r_8 true _ ⟨h1, h2, h4, h8, h9, h45⟩ h
      · refine g_yes (Eq.trans (b := .bool (r_9.1 != r_6.1)) rfl (congrArg V.bool hg4)) (g_v1 (t := 11) (u := (.bool r_9.2)) (.bool r_9.2) h11 rfl rfl ?_)
        refine g_yes (Eq.trans (b := .bool (r_9.1 != r_6.1)) rfl (congrArg V.bool hg4)) (g_v1 (t := 7) (u := (.bool r_6.2)) (.bool r_6.2) h7 rfl rfl ?_)
        refine g_yes (Eq.trans (b := .bool (r_9.1 != r_6.1)) rfl (congrArg V.bool hg4)) (g_v2 (t1 := 42) (t2 := 43) (u1 := (.bool r_9.2)) (u2 := (.bool r_6.2)) (.bool (r_9.2 != r_6.2)) rfl rfl rfl rfl ?_)
        refine g_v2 (t1 := 41) (t2 := 44) (u1 := (.bool false)) (u2 := (.bool (r_9.2 != r_6.2))) (.bool (r_9.2 != r_6.2)) (Eq.trans (b := .bool (r_9.1 != r_6.1)) rfl (congrArg V.bool hg4)) rfl rfl rfl ?_
        refine g_end ?_
        refine e_end ?_
        refine renew [(1, (Enc.enc (aRanks_2 : List Int))), (2, (.ref (.bx 2) 0 [] (.agg [(.int .i64 aG_1.1), (Enc.enc (aG_1.2 : List (Int × Int)))]))), (4, (.bool false)), (8, (.ref (.bx 8) 0 [] (.agg [(.int .i64 r_7.1), (Enc.enc (r_7.2 : List (Int × Int)))]))), (9, (Enc.enc (r_8 : List Int))), (45, (.bool (r_9.2 != r_6.2)))] ⟨h1, h2, h4, h8, h9, rfl⟩ ?_
        rintro s ⟨h1, h2, h4, h8, h9, h45⟩
        exact t_f9_j1 H aRanks_2 aG_1 r_7 r_8 (r_9.2 != r_6.2) _ ⟨h1, h2, h4, h8, h9, h45⟩ h
end
def e9 (F : Nat) : Ent := ⟨9, da (fun (x : ((Int × (List (Int × Int))) × (List Int) × Unit)) => w_FnExactIsRanking F x.1 x.2.1) (fun (r : Bool) => (Enc.enc (r : Bool))), 0, false, selF []⟩
theorem p9 {F : Nat} {x0 : (Int × (List (Int × Int)))} {x1 : (List Int)} {r : Bool} (h : w_FnExactIsRanking F x0 x1 = some r) : (e9 F).den [Enc.enc x0, Enc.enc x1] = some (Enc.enc (r : Bool)) := da_put (f := fun (x : ((Int × (List (Int × Int))) × (List Int) × Unit)) => w_FnExactIsRanking F x.1 x.2.1) (t := fun (r : Bool) => (Enc.enc (r : Bool))) (x0, x1, ()) h
theorem o9 {D : Den} {σ : Sig} {F : Nat} (hF : Fits2 Try.prog D σ) (H : H9 D σ F) : (e9 F).Ok Try.prog := by
  refine ok_of (f := 9) (show unk 9 = 9 from rfl) (fun args r h => ?_) ⟨Try.f9, Try.func9, rfl, rfl⟩
  obtain ⟨⟨x0, x1, _⟩, y, rfl, hy, rfl⟩ := da_open h
  exact contract_run hF (by kernel_rfl) Try.func9 rfl c9 (show 2 ≤ Try.f9.ntmps by decide) (t9 H x0 x1 _ ⟨rfl, rfl⟩ hy)
end Go.Zq
