/- Functions of the program as typed functions, and that the machine runs as they say (part 4). No further condition. -/
import Derived.Test.YtonidecbmdpfhaaK3
import Derived.Test.YtonidecbmdpfhaaProg
import Derived.Test.YtonidecbmdpfhaaChecked
import Derived.KernelRfl
import Derived.Test.YtonidecbmdpfhaaG3
set_option linter.unusedVariables false
set_option linter.unusedSimpArgs false
/- Functions of the program, as typed functions, and that the machine runs as they say. -/
namespace Go.Zq
open Go.Proofs
/- loop.example/g01109/laws.FnExactProgramOfLayout -/
def A8_1 : AC := (AC.cond (O.t 108) (AC.seq (AC.reg [] [(I.mk (some 4) none false (X.v (A.mov (O.k (V.bool false)))))] []) AC.ret) AC.skip)
def A8_5 : AC := (AC.cond (O.t 113) (AC.seq (AC.reg [] [(I.mk (some 4) none false (X.v (A.mov (O.k (V.bool false)))))] []) AC.ret) AC.skip)
def A8_7 : AC := (AC.cond (O.t 116) (AC.seq (AC.reg [] [(I.mk (some 4) none false (X.v (A.mov (O.k (V.bool false)))))] []) AC.ret) AC.skip)
def A8_8 : AC := (AC.seq (AC.reg [] [(I.mk (some 4) none false (X.v (A.mov (O.k (V.bool true)))))] []) AC.ret)
def A8_6 : AC := (AC.seq (AC.seq (AC.reg [] [(I.mk (some 114) none false (X.v (A.mov (O.t 14)))), (I.mk (some 115) none false (X.v (A.mov (O.t 13)))), (I.mk (some 116) none false (X.v (A.bin BinOp.neq (O.t 114) (O.t 115))))] []) A8_7) A8_8)
def A8_4 : AC := (AC.seq (AC.seq (AC.reg [] [(I.mk (some 112) none false (X.v (A.mov (O.t 14)))), (I.mk (some 113) none false (X.v (A.bin BinOp.lss (O.t 112) (O.k (V.int IntKind.i64 (Int.ofNat 0))))))] []) A8_5) A8_6)
def A8_3 : AC := (AC.seq (AC.reg [] [(I.mk (some 109) none false (X.v (A.mov (O.t 10)))), (I.mk (some 110) none false (X.v (A.mov (O.t 14)))), (I.mk (some 111) none false (X.call (O.k (V.fn 23 [] [])) [(O.t 109), (O.t 110)])), (I.mk (some 14) none false (X.v (A.mov (O.t 111))))] []) A8_4)
def A8_2 : AC := (AC.seq (AC.reg [] [(I.mk (some 14) none false (X.v (A.mov (O.k (V.int IntKind.i64 (Int.ofNat 1))))))] []) A8_3)
def A8_9 : AC := (AC.cond (O.t 80) (AC.seq (AC.reg [] [(I.mk (some 4) none false (X.v (A.mov (O.k (V.bool false)))))] []) AC.ret) AC.skip)
def A8_15 : AC := (AC.cond (O.t 88) (AC.seq (AC.reg [] [(I.mk (some 4) none false (X.v (A.mov (O.k (V.bool false)))))] []) AC.ret) AC.skip)
def A8_17 : AC := (AC.cond (O.t 91) (AC.seq (AC.reg [] [(I.mk (some 4) none false (X.v (A.mov (O.k (V.bool false)))))] []) AC.ret) AC.skip)
def A8_19 : AC := (AC.seq (AC.seq (AC.reg [] [(I.mk (some 100) none false (X.v (A.mov (O.t 15)))), (I.mk (some 101) none false (X.v (A.mov (O.t 6)))), (I.mk (some 102) none false (X.call (O.k (V.fn 19 [] [])) [(O.t 100), (O.t 101)])), (I.mk (some 103) none false (X.v (A.un UnOp.not (O.t 102)))), (I.mk (some 104) none false (X.v (A.mov (O.t 103)))), (I.mk (some 105) (some (104, false)) false (X.v (A.mov (O.t 16)))), (I.mk (some 106) (some (104, false)) false (X.v (A.mov (O.t 7)))), (I.mk (some 107) (some (104, false)) false (X.v (A.beq true (O.t 105) (O.t 106)))), (I.mk (some 108) none false (X.v (A.pick (O.t 104) (O.k (V.bool true)) (O.t 107))))] []) A8_1) A8_2)
def A8_18 : AC := (AC.seq (AC.reg [.clr [97]] [(I.mk (some 93) none false (X.v (A.load (Sh.ag [Sh.s, Sh.p]) (O.t 2)))), (I.mk (some 94) none false (X.call (O.k (V.fn 17 [] [])) [(O.t 93)])), (I.mk (some 95) none false (X.v (A.mov (O.t 1)))), (I.mk (some 96) none false (X.call (O.k (V.fn 31 [] [])) [(O.t 95)])), (I.mk (some 97) none true (X.call (O.k (V.fn 34 [] [])) [(O.t 94), (O.t 96)])), (I.mk (some 92) none false (X.v (A.mov (O.t 97)))), (I.mk (some 98) none false (X.v (A.ext (O.t 92) 0))), (I.mk (some 99) none false (X.v (A.extS (O.t 92) 1))), (I.mk (some 15) none false (X.v (A.mov (O.t 98)))), (I.mk (some 16) none false (X.v (A.mov (O.t 99))))] [.home 97 15]) A8_19)
def A8_16 : AC := (AC.seq (AC.seq (AC.reg [] [(I.mk (some 89) none false (X.v (A.mov (O.t 14)))), (I.mk (some 90) none false (X.v (A.mov (O.t 13)))), (I.mk (some 91) none false (X.v (A.bin BinOp.neq (O.t 89) (O.t 90))))] []) A8_17) A8_18)
def A8_14 : AC := (AC.seq (AC.seq (AC.reg [] [(I.mk (some 87) none false (X.v (A.mov (O.t 14)))), (I.mk (some 88) none false (X.v (A.bin BinOp.lss (O.t 87) (O.k (V.int IntKind.i64 (Int.ofNat 0))))))] []) A8_15) A8_16)
def A8_13 : AC := (AC.seq (AC.reg [] [(I.mk (some 84) none false (X.v (A.mov (O.t 10)))), (I.mk (some 85) none false (X.v (A.mov (O.t 14)))), (I.mk (some 86) none false (X.call (O.k (V.fn 23 [] [])) [(O.t 84), (O.t 85)])), (I.mk (some 14) none false (X.v (A.mov (O.t 86))))] []) A8_14)
def A8_12 : AC := (AC.seq (AC.reg [] [(I.mk (some 14) none false (X.v (A.mov (O.k (V.int IntKind.i64 (Int.ofNat 1))))))] []) A8_13)
def A8_11 : AC := (AC.seq (AC.reg [] [(I.mk (some 81) none false (X.v (A.mov (O.t 10)))), (I.mk (some 82) none false (X.v (A.mov (O.t 13)))), (I.mk (some 83) none false (X.mark (O.k (V.fn 22 [] [])) [(O.t 81), (O.t 82)])), (I.mk (some 13) none false (X.v (A.mov (O.t 83))))] []) A8_12)
def A8_10 : AC := (AC.seq (AC.reg [] [(I.mk (some 13) none false (X.v (A.mov (O.k (V.int IntKind.i64 (Int.ofNat 1))))))] []) A8_11)
def A8_20 : AC := (AC.cond (O.t 51) (AC.seq (AC.reg [] [(I.mk (some 4) none false (X.v (A.mov (O.k (V.bool false)))))] []) AC.ret) AC.skip)
def A8_22 : AC := (AC.cond (O.t 56) (AC.seq (AC.reg [] [(I.mk (some 4) none false (X.v (A.mov (O.k (V.bool false)))))] []) AC.ret) AC.skip)
def A8_24 : AC := (AC.cond (O.t 61) (AC.seq (AC.reg [] [(I.mk (some 4) none false (X.v (A.mov (O.k (V.bool false)))))] []) AC.ret) AC.skip)
def A8_28 : AC := (AC.seq (AC.seq (AC.reg [] [(I.mk (some 68) none false (X.v (A.mov (O.t 12)))), (I.mk (some 69) none false (X.v (A.bin BinOp.lss (O.t 68) (O.k (V.int IntKind.i64 (Int.ofNat 0)))))), (I.mk (some 70) none false (X.v (A.mov (O.t 69)))), (I.mk (some 71) (some (70, false)) false (X.v (A.mov (O.t 10)))), (I.mk (some 72) (some (70, false)) false (X.v (A.mov (O.t 6)))), (I.mk (some 73) (some (70, false)) false (X.call (O.k (V.fn 19 [] [])) [(O.t 71), (O.t 72)])), (I.mk (some 74) (some (70, false)) false (X.v (A.un UnOp.not (O.t 73)))), (I.mk (some 75) none false (X.v (A.pick (O.t 70) (O.k (V.bool true)) (O.t 74)))), (I.mk (some 76) none false (X.v (A.mov (O.t 75)))), (I.mk (some 77) (some (76, false)) false (X.v (A.mov (O.t 11)))), (I.mk (some 78) (some (76, false)) false (X.v (A.mov (O.t 7)))), (I.mk (some 79) (some (76, false)) false (X.v (A.beq true (O.t 77) (O.t 78)))), (I.mk (some 80) none false (X.v (A.pick (O.t 76) (O.k (V.bool true)) (O.t 79))))] []) A8_9) A8_10)
def A8_27 : AC := (AC.seq (AC.reg [] [(I.mk (some 65) none false (X.v (A.mov (O.t 9)))), (I.mk (some 66) none false (X.v (A.mov (O.t 12)))), (I.mk (some 67) none false (X.mark (O.k (V.fn 22 [] [])) [(O.t 65), (O.t 66)])), (I.mk (some 12) none false (X.v (A.mov (O.t 67))))] []) A8_28)
def A8_26 : AC := (AC.seq (AC.reg [] [(I.mk (some 62) none false (X.v (A.load (Sh.ag [Sh.s, Sh.p]) (O.t 8)))), (I.mk (some 63) none false (X.v (A.mov (O.t 12)))), (I.mk (some 64) none false (X.mark (O.k (V.fn 21 [] [])) [(O.t 62), (O.t 63)])), (I.mk (some 12) none false (X.v (A.mov (O.t 64))))] []) A8_27)
def A8_25 : AC := (AC.seq (AC.reg [] [(I.mk (some 12) none false (X.v (A.mov (O.k (V.int IntKind.i64 (Int.ofNat 1))))))] []) A8_26)
def A8_23 : AC := (AC.seq (AC.seq (AC.reg [] [(I.mk (some 57) none false (X.v (A.mov (O.t 9)))), (I.mk (some 58) none false (X.v (A.mov (O.t 1)))), (I.mk (some 59) none false (X.call (O.k (V.fn 31 [] [])) [(O.t 58)])), (I.mk (some 60) none false (X.call (O.k (V.fn 19 [] [])) [(O.t 57), (O.t 59)])), (I.mk (some 61) none false (X.v (A.un UnOp.not (O.t 60))))] []) A8_24) A8_25)
def A8_21 : AC := (AC.seq (AC.seq (AC.reg [] [(I.mk (some 52) none false (X.v (A.load (Sh.ag [Sh.s, Sh.p]) (O.t 8)))), (I.mk (some 53) none false (X.v (A.load (Sh.ag [Sh.s, Sh.p]) (O.t 2)))), (I.mk (some 54) none false (X.call (O.k (V.fn 17 [] [])) [(O.t 53)])), (I.mk (some 55) none false (X.call (O.k (V.fn 20 [] [])) [(O.t 52), (O.t 54)])), (I.mk (some 56) none false (X.v (A.un UnOp.not (O.t 55))))] []) A8_22) A8_23)
def A8_30 : AC := (AC.cond (O.t 19) (AC.seq (AC.reg [] [(I.mk (some 4) none false (X.v (A.mov (O.k (V.bool true)))))] []) AC.ret) AC.skip)
def A8_34 : AC := (AC.cond (O.t 24) (AC.seq (AC.reg [] [(I.mk (some 4) none false (X.v (A.mov (O.k (V.bool true)))))] []) AC.ret) AC.skip)
def A8_39 : AC := (AC.seq (AC.seq (AC.reg [] [(I.mk (some 43) none false (X.v (A.mov (O.t 10)))), (I.mk (some 44) none false (X.v (A.mov (O.t 6)))), (I.mk (some 45) none false (X.call (O.k (V.fn 19 [] [])) [(O.t 43), (O.t 44)])), (I.mk (some 46) none false (X.v (A.un UnOp.not (O.t 45)))), (I.mk (some 47) none false (X.v (A.mov (O.t 46)))), (I.mk (some 48) (some (47, false)) false (X.v (A.mov (O.t 11)))), (I.mk (some 49) (some (47, false)) false (X.v (A.mov (O.t 7)))), (I.mk (some 50) (some (47, false)) false (X.v (A.beq true (O.t 48) (O.t 49)))), (I.mk (some 51) none false (X.v (A.pick (O.t 47) (O.k (V.bool true)) (O.t 50))))] []) A8_20) A8_21)
def A8_38 : AC := (AC.seq (AC.reg [.clr [40]] [(I.mk (some 38) none false (X.v (A.load (Sh.ag [Sh.s, Sh.p]) (O.t 8)))), (I.mk (some 39) none false (X.v (A.mov (O.t 9)))), (I.mk (some 40) none true (X.call (O.k (V.fn 34 [] [])) [(O.t 38), (O.t 39)])), (I.mk (some 37) none false (X.v (A.mov (O.t 40)))), (I.mk (some 41) none false (X.v (A.ext (O.t 37) 0))), (I.mk (some 42) none false (X.v (A.extS (O.t 37) 1))), (I.mk (some 10) none false (X.v (A.mov (O.t 41)))), (I.mk (some 11) none false (X.v (A.mov (O.t 42))))] [.home 40 10]) A8_39)
def A8_37 : AC := (AC.seq (AC.reg [.clr [36]] [(I.mk (some 35) none false (X.v (A.mov (O.t 1)))), (I.mk (some 36) none true (X.call (O.k (V.fn 31 [] [])) [(O.t 35)])), (I.mk (some 9) none false (X.v (A.mov (O.t 36))))] [.home 36 9]) A8_38)
def A8_36 : AC := (AC.seq (AC.reg [.clr [34, 8]] [(I.mk (some 33) none false (X.v (A.load (Sh.ag [Sh.s, Sh.p]) (O.t 2)))), (I.mk (some 34) none true (X.call (O.k (V.fn 17 [] [])) [(O.t 33)])), (I.mk (some 8) none false (X.alloc (V.agg [(V.int IntKind.i64 (Int.ofNat 0)), (V.sl Tok.nl (Sh.ag [Sh.s, Sh.s]) 0 [])]))), (I.mk none none false (X.store (Sh.ag [Sh.s, Sh.p]) (O.t 8) (O.t 34)))] []) A8_37)
def A8_35 : AC := (AC.seq (AC.reg [] [(I.mk (some 26) none false (X.v (A.load (Sh.ag [Sh.s, Sh.p]) (O.t 2)))), (I.mk (some 27) none false (X.call (O.k (V.fn 17 [] [])) [(O.t 26)])), (I.mk (some 28) none false (X.v (A.mov (O.t 1)))), (I.mk (some 29) none false (X.call (O.k (V.fn 31 [] [])) [(O.t 28)])), (I.mk (some 30) none false (X.call (O.k (V.fn 33 [] [])) [(O.t 27), (O.t 29)])), (I.mk (some 25) none false (X.v (A.mov (O.t 30)))), (I.mk (some 31) none false (X.v (A.ext (O.t 25) 0))), (I.mk (some 32) none false (X.v (A.extS (O.t 25) 1))), (I.mk (some 6) none false (X.v (A.mov (O.t 31)))), (I.mk (some 7) none false (X.v (A.mov (O.t 32))))] []) A8_36)
def A8_33 : AC := (AC.seq (AC.seq (AC.reg [] [(I.mk (some 23) none false (X.v (A.mov (O.t 5)))), (I.mk (some 24) none false (X.v (A.bin BinOp.lss (O.t 23) (O.k (V.int IntKind.i64 (Int.ofNat 0))))))] []) A8_34) A8_35)
def A8_32 : AC := (AC.seq (AC.reg [] [(I.mk (some 20) none false (X.v (A.load (Sh.ag [Sh.s, Sh.p]) (O.t 2)))), (I.mk (some 21) none false (X.v (A.mov (O.t 5)))), (I.mk (some 22) none false (X.call (O.k (V.fn 15 [] [])) [(O.t 20), (O.t 21)])), (I.mk (some 5) none false (X.v (A.mov (O.t 22))))] []) A8_33)
def A8_31 : AC := (AC.seq (AC.reg [] [(I.mk (some 5) none false (X.v (A.mov (O.k (V.int IntKind.i64 (Int.ofNat 1048576))))))] []) A8_32)
def A8_29 : AC := (AC.seq (AC.seq (AC.reg [] [(I.mk (some 17) none false (X.v (A.mov (O.t 1)))), (I.mk (some 18) none false (X.v (A.len (O.t 17)))), (I.mk (some 19) none false (X.v (A.bin BinOp.gtr (O.t 18) (O.k (V.int IntKind.i64 (Int.ofNat 1048576))))))] []) A8_30) A8_31)
def A8 : AC := (AC.seq (AC.reg [.clr [2]] [(I.mk (some 2) none false (X.box (O.t 0))), (I.mk (some 4) none false (X.v (A.mov (O.k (V.bool false)))))] []) A8_29)
def an8 : List An := [{ id := 0, pre := [.clr [2]], ep := [], lin := [], sp := [] }, { id := 8, pre := [.clr [34, 8]], ep := [], lin := [1], sp := [] }, { id := 9, pre := [.clr [36]], ep := [.home 36 9], lin := [1], sp := [] }, { id := 10, pre := [.clr [40]], ep := [.home 40 10], lin := [2], sp := [] }, { id := 18, pre := [], ep := [], lin := [], sp := [2] }, { id := 19, pre := [], ep := [], lin := [], sp := [2] }, { id := 23, pre := [], ep := [], lin := [], sp := [2] }, { id := 30, pre := [.clr [97]], ep := [.home 97 15], lin := [4], sp := [] }]
theorem c8 : cC Try.prog Try.f8.ntmps an8 (Try.f8.body.getD .skip) = some A8 := by kernel_rfl
structure H8 (D : Den) (σ : Sig) (F : Nat) : Prop where
  c15 : ∀ (x0 : (Int × (List (Int × Int)))) (x1 : Int) r, w_szGraph F x0 x1 = some r → D 15 [Enc.enc x0, Enc.enc x1] = some (Enc.enc (r : Int))
  g15 : σ 15 = some (0, false)
  c17 : ∀ (x0 : (Int × (List (Int × Int)))) r, w_toGraph F x0 = some r → D 17 [Enc.enc x0] = some (Enc.enc (r : (Int × (List (Int × Int)))))
  g17 : σ 17 = some (0, true)
  c31 : ∀ (x0 : (List Int)) r, w_toIntS F x0 = some r → D 31 [Enc.enc x0] = some (Enc.enc (r : (List Int)))
  g31 : σ 31 = some (0, false)
  c33 : ∀ (x0 : (Int × (List (Int × Int)))) (x1 : (List Int)) r, s_ProgramOfLayout F x0 x1 = some r → D 33 [Enc.enc x0, Enc.enc x1] = some (.tup [Enc.enc (r.1 : (List Int)), Enc.enc (r.2 : Bool)])
  g33 : σ 33 = some (0, false)
  c17o : ∀ (x0 : (Int × (List (Int × Int)))) r, w_toGraph_o F x0 = some r → D 1000000017 [Enc.enc x0] = some (.agg [(Enc.enc (r.1 : Int)), (encO .sh (r.2 : NL (Int × Int)))])
  g17o : σ 1000000017 = some (1, false)
  c31o : ∀ (x0 : (List Int)) r, w_toIntS_o F x0 = some r → D 1000000031 [Enc.enc x0] = some (encO .sh (r : NL Int))
  g31o : σ 1000000031 = some (1, false)
  c34o : ∀ (x0 : (Int × (List (Int × Int)))) (x1 : (List Int)) r, i_ProgramOfLayout_o F x0 x1 = some r → D 1000000034 [Enc.enc x0, Enc.enc x1] = some (.tup [(encO .sh (r.1 : NL Int)), (Enc.enc (r.2 : Bool))])
  g34o : σ 1000000034 = some (1, false)
  c19 : ∀ (x0 : (List Int)) (x1 : (List Int)) r, w_eqIntS F x0 x1 = some r → D 19 [Enc.enc x0, Enc.enc x1] = some (Enc.enc (r : Bool))
  g19 : σ 19 = some (0, false)
  c20 : ∀ (x0 : (Int × (List (Int × Int)))) (x1 : (Int × (List (Int × Int)))) r, w_eqGraph F x0 x1 = some r → D 20 [Enc.enc x0, Enc.enc x1] = some (Enc.enc (r : Bool))
  g20 : σ 20 = some (0, false)
  c21 : ∀ (x0 : (Og (Int × Int))) (x1 : Int) r, w_markGraph F x0 x1 = some r → D 21 [Arg.arg x0, Enc.enc x1] = some (.tup [Enc.enc (r : Int), .dead])
  g21 : σ 21 = some (pinR, false)
  c22 : ∀ (x0 : (On Int)) (x1 : Int) r, w_markIntS F x0 x1 = some r → D 22 [Arg.arg x0, Enc.enc x1] = some (.tup [Enc.enc (r.1 : Int), encO (.at pinR []) (r.2 : NL Int)])
  g22 : σ 22 = some (pinR, false)
  c23 : ∀ (x0 : (List Int)) (x1 : Int) r, w_heldIntS F x0 x1 = some r → D 23 [Enc.enc x0, Enc.enc x1] = some (Enc.enc (r : Int))
  g23 : σ 23 = some (0, false)
abbrev R8 (r : Bool) : (Nat → V) → Prop := RR Try.prog [.tmp 4] 0 false (Enc.enc (r : Bool))
section
variable {D : Den} {σ : Sig} {F : Nat} {r : Bool}
def w_FnExactProgramOfLayout_j1 (F : Nat) (m_21 : (NL Int)) (r_20 : (Int × NL Int))  (t108_27 : Bool) : Option Bool :=
  bif t108_27 then
    some false
  else
    (w_heldIntS F m_21.list 1).bind fun r_28 =>
    bif decide (r_28 < 0) then
      some false
    else
      bif (r_28 != r_20.1) then
        some false
      else
        some true
theorem t_f8_j1 (H : H8 D σ F) (m_21 : (NL Int)) (r_20 : (Int × NL Int))  (t108_27 : Bool) (s : Nat → V) (hs : Facts [(4, (.bool false)), (10, (encO (.at 10 [0]) (m_21 : NL Int))), (13, (.int .i64 r_20.1)), (108, (.bool t108_27))] s) (h : w_FnExactProgramOfLayout_j1 F m_21 r_20  t108_27 = some r) : Run D σ (R8 r) (.nrm [.sq A8_1, .sq A8_2]) s := by
  unfold w_FnExactProgramOfLayout_j1 at h
  obtain ⟨h4, h10, h13, h108⟩ := hs
  refine .nsq ?_
  refine run_cond (t := t108_27) h108 h (fun h => ?_) (fun h => ?_)
  · refine .seq ?_
    refine run_reg ?_
    refine e_end ?_
    refine g_v0 (.bool false) rfl rfl ?_
    refine g_end ?_
    refine e_end ?_
    refine renew [(4, (.bool false)), (10, (encO (.at 10 [0]) (m_21 : NL Int))), (13, (.int .i64 r_20.1))] ⟨rfl, h10, h13⟩ ?_
    rintro s ⟨h4, h10, h13⟩
    refine .nsq ?_
    refine .ret ?_
    have hr := Option.some.inj h
    subst hr
    exact rrA (res_tmp h4) rfl
  · refine .skip ?_
    refine .nsq ?_
    refine .seq ?_
    refine run_reg ?_
    refine e_end ?_
    refine g_v0 (.int .i64 1) rfl rfl ?_
    refine g_end ?_
    refine e_end ?_
    refine renew [(4, (.bool false)), (10, (encO (.at 10 [0]) (m_21 : NL Int))), (13, (.int .i64 r_20.1)), (14, (.int .i64 1))] ⟨h4, h10, h13, rfl⟩ ?_
    rintro s ⟨h4, h10, h13, h14⟩
    refine .nsq ?_
    refine .seq ?_
    refine run_reg ?_
    refine e_end ?_
    refine g_v (encO (.at 10 [0]) (m_21 : NL Int)) (ev_mov h10 ok_encO) ?_
    refine g_v1 (t := 14) (u := (.int .i64 1)) (.int .i64 1) h14 rfl rfl ?_
    obtain ⟨r_28, E_r_28, h⟩ := bind_some h
    refine g_call (m := 0) (al := false) (r := (Enc.enc (r_28 : Int))) [Enc.enc (m_21.list : (List Int)), Enc.enc (1 : Int)] (ta_cons (v := (encO (.at 10 [0]) (m_21 : NL Int))) rfl ok_encP (erase_encO (o := m_21)) (ta_cons (v := (.int .i64 1)) rfl rfl rfl ta_nil)) (H.c23 _ _ _ E_r_28) H.g23 rfl rfl rfl rfl ?_
    refine g_v1 (t := 111) (u := (.int .i64 r_28)) (.int .i64 r_28) rfl rfl rfl ?_
    refine g_end ?_
    refine e_end ?_
    refine renew [(4, (.bool false)), (13, (.int .i64 r_20.1)), (14, (.int .i64 r_28))] ⟨h4, h13, rfl⟩ ?_
    rintro s ⟨h4, h13, h14⟩
    refine .nsq ?_
    refine .seq ?_
    refine .seq ?_
    refine run_reg ?_
    refine e_end ?_
    refine g_v1 (t := 14) (u := (.int .i64 r_28)) (.int .i64 r_28) h14 rfl rfl ?_
    refine g_v1 (t := 112) (u := (.int .i64 r_28)) (.bool (decide (r_28 < 0))) rfl rfl rfl ?_
    refine g_end ?_
    refine e_end ?_
    refine renew [(4, (.bool false)), (13, (.int .i64 r_20.1)), (14, (.int .i64 r_28)), (113, (.bool (decide (r_28 < 0))))] ⟨h4, h13, h14, rfl⟩ ?_
    rintro s ⟨h4, h13, h14, h113⟩
    refine .nsq ?_
    refine run_cond (t := decide (r_28 < 0)) h113 h (fun h => ?_) (fun h => ?_)
    · refine .seq ?_
      refine run_reg ?_
      refine e_end ?_
      refine g_v0 (.bool false) rfl rfl ?_
      refine g_end ?_
      refine e_end ?_
      refine renew [(4, (.bool false)), (13, (.int .i64 r_20.1)), (14, (.int .i64 r_28))] ⟨rfl, h13, h14⟩ ?_
      rintro s ⟨h4, h13, h14⟩
      refine .nsq ?_
      refine .ret ?_
      have hr := Option.some.inj h
      subst hr
      exact rrA (res_tmp h4) rfl
    · refine .skip ?_
      refine .nsq ?_
      refine .seq ?_
      refine .seq ?_
      refine run_reg ?_
      refine e_end ?_
      refine g_v1 (t := 14) (u := (.int .i64 r_28)) (.int .i64 r_28) h14 rfl rfl ?_
      refine g_v1 (t := 13) (u := (.int .i64 r_20.1)) (.int .i64 r_20.1) h13 rfl rfl ?_
      refine g_v2 (t1 := 114) (t2 := 115) (u1 := (.int .i64 r_28)) (u2 := (.int .i64 r_20.1)) (.bool (r_28 != r_20.1)) rfl rfl rfl rfl ?_
      refine g_end ?_
      refine e_end ?_
      refine renew [(4, (.bool false)), (116, (.bool (r_28 != r_20.1)))] ⟨h4, rfl⟩ ?_
      rintro s ⟨h4, h116⟩
      refine .nsq ?_
      refine run_cond (t := (r_28 != r_20.1)) h116 h (fun h => ?_) (fun h => ?_)
      · refine .seq ?_
        refine run_reg ?_
        refine e_end ?_
        refine g_v0 (.bool false) rfl rfl ?_
        refine g_end ?_
        refine e_end ?_
        refine renew [(4, (.bool false))] rfl ?_
        rintro s h4
        refine .nsq ?_
        refine .ret ?_
        have hr := Option.some.inj h
        subst hr
        exact rrA (res_tmp h4) rfl
      · refine .skip ?_
        refine .nsq ?_
        refine .seq ?_
        refine run_reg ?_
        refine e_end ?_
        refine g_v0 (.bool true) rfl rfl ?_
        refine g_end ?_
        refine e_end ?_
        refine renew [(4, (.bool true))] rfl ?_
        rintro s h4
        refine .nsq ?_
        refine .ret ?_
        have hr := Option.some.inj h
        subst hr
        exact rrA (res_tmp h4) rfl
def w_FnExactProgramOfLayout_j2 (F : Nat) (aLayout_2 : (List Int)) (aG_1 : (Int × (List (Int × Int)))) (r_6 : ((List Int) × Bool)) (r_9 : ((NL Int) × Bool))  (t80_19 : Bool) : Option Bool :=
  bif t80_19 then
    some false
  else
    (w_markIntS F (On.mk r_9.1 : (On Int)) 1).bind fun r_20 =>
    (remark r_9.1 r_20.2).bind fun m_21 =>
    (w_heldIntS F m_21.list 1).bind fun r_22 =>
    bif decide (r_22 < 0) then
      some false
    else
      bif (r_22 != r_20.1) then
        some false
      else
        (w_toGraph F aG_1).bind fun r_23 =>
        (w_toIntS F aLayout_2).bind fun r_24 =>
        (i_ProgramOfLayout_o F r_23 r_24).bind fun r_25 =>
        (w_eqIntS F r_25.1.list r_6.1).bind fun r_29 =>
        bif (!r_29) then
          w_FnExactProgramOfLayout_j1 F m_21 r_20 true
        else
          w_FnExactProgramOfLayout_j1 F m_21 r_20 (r_25.2 != r_6.2)
theorem t_f8_j2 (H : H8 D σ F) (aLayout_2 : (List Int)) (aG_1 : (Int × (List (Int × Int)))) (r_6 : ((List Int) × Bool)) (r_9 : ((NL Int) × Bool))  (t80_19 : Bool) (s : Nat → V) (hs : Facts [(1, (Enc.enc (aLayout_2 : List Int))), (2, (.ref (.bx 2) 0 [] (.agg [(.int .i64 aG_1.1), (Enc.enc (aG_1.2 : List (Int × Int)))]))), (4, (.bool false)), (6, (Enc.enc (r_6.1 : List Int))), (7, (.bool r_6.2)), (10, (encO (.at 10 [0]) (r_9.1 : NL Int))), (80, (.bool t80_19))] s) (h : w_FnExactProgramOfLayout_j2 F aLayout_2 aG_1 r_6 r_9  t80_19 = some r) : Run D σ (R8 r) (.nrm [.sq A8_9, .sq A8_10]) s := by
  unfold w_FnExactProgramOfLayout_j2 at h
  obtain ⟨h1, h2, h4, h6, h7, h10, h80⟩ := hs
  refine .nsq ?_
  refine run_cond (t := t80_19) h80 h (fun h => ?_) (fun h => ?_)
  · refine .seq ?_
    refine run_reg ?_
    refine e_end ?_
    refine g_v0 (.bool false) rfl rfl ?_
    refine g_end ?_
    refine e_end ?_
    refine renew [(1, (Enc.enc (aLayout_2 : List Int))), (2, (.ref (.bx 2) 0 [] (.agg [(.int .i64 aG_1.1), (Enc.enc (aG_1.2 : List (Int × Int)))]))), (4, (.bool false)), (6, (Enc.enc (r_6.1 : List Int))), (7, (.bool r_6.2)), (10, (encO (.at 10 [0]) (r_9.1 : NL Int)))] ⟨h1, h2, rfl, h6, h7, h10⟩ ?_
    rintro s ⟨h1, h2, h4, h6, h7, h10⟩
    refine .nsq ?_
    refine .ret ?_
    have hr := Option.some.inj h
    subst hr
    exact rrA (res_tmp h4) rfl
  · refine .skip ?_
    refine .nsq ?_
    refine .seq ?_
    refine run_reg ?_
    refine e_end ?_
    refine g_v0 (.int .i64 1) rfl rfl ?_
    refine g_end ?_
    refine e_end ?_
    refine renew [(1, (Enc.enc (aLayout_2 : List Int))), (2, (.ref (.bx 2) 0 [] (.agg [(.int .i64 aG_1.1), (Enc.enc (aG_1.2 : List (Int × Int)))]))), (4, (.bool false)), (6, (Enc.enc (r_6.1 : List Int))), (7, (.bool r_6.2)), (10, (encO (.at 10 [0]) (r_9.1 : NL Int))), (13, (.int .i64 1))] ⟨h1, h2, h4, h6, h7, h10, rfl⟩ ?_
    rintro s ⟨h1, h2, h4, h6, h7, h10, h13⟩
    refine .nsq ?_
    refine .seq ?_
    refine run_reg ?_
    refine e_end ?_
    refine g_v (encO (.at 10 [0]) (r_9.1 : NL Int)) (ev_mov h10 ok_encO) ?_
    refine g_v1 (t := 13) (u := (.int .i64 1)) (.int .i64 1) h13 rfl rfl ?_
    obtain ⟨r_20, E_r_20, h⟩ := bind_some h
    obtain ⟨m_21, E_m_21, h⟩ := bind_some h
    refine g_mark (v := (encO (.at 10 [0]) (r_9.1 : NL Int))) rfl (canon_own (o := (r_9.1 : NL Int)) rfl) (rdAll_cons (v := (.int .i64 1)) rfl rfl rdAll_nil) (H.c22 _ _ _ E_r_20) H.g22 rfl rfl (fun s_9 hm_9 => ?_)
    refine g_v1 (t := 83) (u := (.int .i64 r_20.1)) (.int .i64 r_20.1) rfl rfl rfl ?_
    refine g_end ?_
    refine e_end ?_
    refine renew [(1, (Enc.enc (aLayout_2 : List Int))), (2, (.ref (.bx 2) 0 [] (.agg [(.int .i64 aG_1.1), (Enc.enc (aG_1.2 : List (Int × Int)))]))), (4, (.bool false)), (6, (Enc.enc (r_6.1 : List Int))), (7, (.bool r_6.2)), (10, (encO (.at 10 [0]) (m_21 : NL Int))), (13, (.int .i64 r_20.1))] ⟨(show s_9 1 = (Enc.enc (aLayout_2 : List Int)) from hm_9 1 (Enc.enc (aLayout_2 : List Int)) (Enc.enc (aLayout_2 : List Int)) h1 (rem_enc (xs := (aLayout_2 : List Int)))), (show s_9 2 = (.ref (.bx 2) 0 [] (.agg [(.int .i64 aG_1.1), (Enc.enc (aG_1.2 : List (Int × Int)))])) from hm_9 2 (.ref (.bx 2) 0 [] (.agg [(.int .i64 aG_1.1), (Enc.enc (aG_1.2 : List (Int × Int)))])) (.ref (.bx 2) 0 [] (.agg [(.int .i64 aG_1.1), (Enc.enc (aG_1.2 : List (Int × Int)))])) h2 (rem_map rfl (map_bx (killO_ne rfl) (map_agg (maps_cons rfl (maps_cons (Enc.map_enc _ (aG_1.2 : List (Int × Int))) maps_nil)))))), (show s_9 4 = (.bool false) from hm_9 4 (.bool false) (.bool false) h4 (rem_map rfl rfl)), (show s_9 6 = (Enc.enc (r_6.1 : List Int)) from hm_9 6 (Enc.enc (r_6.1 : List Int)) (Enc.enc (r_6.1 : List Int)) h6 (rem_enc (xs := (r_6.1 : List Int)))), (show s_9 7 = (.bool r_6.2) from hm_9 7 (.bool r_6.2) (.bool r_6.2) h7 (rem_map rfl rfl)), (show s_9 10 = (encO (.at 10 [0]) (m_21 : NL Int)) from hm_9 10 (encO (.at 10 [0]) (r_9.1 : NL Int)) (encO (.at 10 [0]) (m_21 : NL Int)) h10 (marked_own (o := (r_9.1 : NL Int)) rfl E_m_21)), rfl⟩ ?_
    rintro s ⟨h1, h2, h4, h6, h7, h10, h13⟩
    refine .nsq ?_
    refine .seq ?_
    refine run_reg ?_
    refine e_end ?_
    refine g_v0 (.int .i64 1) rfl rfl ?_
    refine g_end ?_
    refine e_end ?_
    refine renew [(1, (Enc.enc (aLayout_2 : List Int))), (2, (.ref (.bx 2) 0 [] (.agg [(.int .i64 aG_1.1), (Enc.enc (aG_1.2 : List (Int × Int)))]))), (4, (.bool false)), (6, (Enc.enc (r_6.1 : List Int))), (7, (.bool r_6.2)), (10, (encO (.at 10 [0]) (m_21 : NL Int))), (13, (.int .i64 r_20.1)), (14, (.int .i64 1))] ⟨h1, h2, h4, h6, h7, h10, h13, rfl⟩ ?_
    rintro s ⟨h1, h2, h4, h6, h7, h10, h13, h14⟩
    refine .nsq ?_
    refine .seq ?_
    refine run_reg ?_
    refine e_end ?_
    refine g_v (encO (.at 10 [0]) (m_21 : NL Int)) (ev_mov h10 ok_encO) ?_
    refine g_v1 (t := 14) (u := (.int .i64 1)) (.int .i64 1) h14 rfl rfl ?_
    obtain ⟨r_22, E_r_22, h⟩ := bind_some h
    refine g_call (m := 0) (al := false) (r := (Enc.enc (r_22 : Int))) [Enc.enc (m_21.list : (List Int)), Enc.enc (1 : Int)] (ta_cons (v := (encO (.at 10 [0]) (m_21 : NL Int))) rfl ok_encP (erase_encO (o := m_21)) (ta_cons (v := (.int .i64 1)) rfl rfl rfl ta_nil)) (H.c23 _ _ _ E_r_22) H.g23 rfl rfl rfl rfl ?_
    refine g_v1 (t := 86) (u := (.int .i64 r_22)) (.int .i64 r_22) rfl rfl rfl ?_
    refine g_end ?_
    refine e_end ?_
    refine renew [(1, (Enc.enc (aLayout_2 : List Int))), (2, (.ref (.bx 2) 0 [] (.agg [(.int .i64 aG_1.1), (Enc.enc (aG_1.2 : List (Int × Int)))]))), (4, (.bool false)), (6, (Enc.enc (r_6.1 : List Int))), (7, (.bool r_6.2)), (10, (encO (.at 10 [0]) (m_21 : NL Int))), (13, (.int .i64 r_20.1)), (14, (.int .i64 r_22))] ⟨h1, h2, h4, h6, h7, h10, h13, rfl⟩ ?_
    rintro s ⟨h1, h2, h4, h6, h7, h10, h13, h14⟩
    refine .nsq ?_
    refine .seq ?_
    refine .seq ?_
    refine run_reg ?_
    refine e_end ?_
    refine g_v1 (t := 14) (u := (.int .i64 r_22)) (.int .i64 r_22) h14 rfl rfl ?_
    refine g_v1 (t := 87) (u := (.int .i64 r_22)) (.bool (decide (r_22 < 0))) rfl rfl rfl ?_
    refine g_end ?_
    refine e_end ?_
    refine renew [(1, (Enc.enc (aLayout_2 : List Int))), (2, (.ref (.bx 2) 0 [] (.agg [(.int .i64 aG_1.1), (Enc.enc (aG_1.2 : List (Int × Int)))]))), (4, (.bool false)), (6, (Enc.enc (r_6.1 : List Int))), (7, (.bool r_6.2)), (10, (encO (.at 10 [0]) (m_21 : NL Int))), (13, (.int .i64 r_20.1)), (14, (.int .i64 r_22)), (88, (.bool (decide (r_22 < 0))))] ⟨h1, h2, h4, h6, h7, h10, h13, h14, rfl⟩ ?_
    rintro s ⟨h1, h2, h4, h6, h7, h10, h13, h14, h88⟩
    refine .nsq ?_
    refine run_cond (t := decide (r_22 < 0)) h88 h (fun h => ?_) (fun h => ?_)
    · refine .seq ?_
      refine run_reg ?_
      refine e_end ?_
      refine g_v0 (.bool false) rfl rfl ?_
      refine g_end ?_
      refine e_end ?_
      refine renew [(1, (Enc.enc (aLayout_2 : List Int))), (2, (.ref (.bx 2) 0 [] (.agg [(.int .i64 aG_1.1), (Enc.enc (aG_1.2 : List (Int × Int)))]))), (4, (.bool false)), (6, (Enc.enc (r_6.1 : List Int))), (7, (.bool r_6.2)), (10, (encO (.at 10 [0]) (m_21 : NL Int))), (13, (.int .i64 r_20.1)), (14, (.int .i64 r_22))] ⟨h1, h2, rfl, h6, h7, h10, h13, h14⟩ ?_
      rintro s ⟨h1, h2, h4, h6, h7, h10, h13, h14⟩
      refine .nsq ?_
      refine .ret ?_
      have hr := Option.some.inj h
      subst hr
      exact rrA (res_tmp h4) rfl
    · refine .skip ?_
      refine .nsq ?_
      refine .seq ?_
      refine .seq ?_
      refine run_reg ?_
      refine e_end ?_
      refine g_v1 (t := 14) (u := (.int .i64 r_22)) (.int .i64 r_22) h14 rfl rfl ?_
      refine g_v1 (t := 13) (u := (.int .i64 r_20.1)) (.int .i64 r_20.1) h13 rfl rfl ?_
      refine g_v2 (t1 := 89) (t2 := 90) (u1 := (.int .i64 r_22)) (u2 := (.int .i64 r_20.1)) (.bool (r_22 != r_20.1)) rfl rfl rfl rfl ?_
      refine g_end ?_
      refine e_end ?_
      refine renew [(1, (Enc.enc (aLayout_2 : List Int))), (2, (.ref (.bx 2) 0 [] (.agg [(.int .i64 aG_1.1), (Enc.enc (aG_1.2 : List (Int × Int)))]))), (4, (.bool false)), (6, (Enc.enc (r_6.1 : List Int))), (7, (.bool r_6.2)), (10, (encO (.at 10 [0]) (m_21 : NL Int))), (13, (.int .i64 r_20.1)), (91, (.bool (r_22 != r_20.1)))] ⟨h1, h2, h4, h6, h7, h10, h13, rfl⟩ ?_
      rintro s ⟨h1, h2, h4, h6, h7, h10, h13, h91⟩
      refine .nsq ?_
      refine run_cond (t := (r_22 != r_20.1)) h91 h (fun h => ?_) (fun h => ?_)
      · refine .seq ?_
        refine run_reg ?_
        refine e_end ?_
        refine g_v0 (.bool false) rfl rfl ?_
        refine g_end ?_
        refine e_end ?_
        refine renew [(1, (Enc.enc (aLayout_2 : List Int))), (2, (.ref (.bx 2) 0 [] (.agg [(.int .i64 aG_1.1), (Enc.enc (aG_1.2 : List (Int × Int)))]))), (4, (.bool false)), (6, (Enc.enc (r_6.1 : List Int))), (7, (.bool r_6.2)), (10, (encO (.at 10 [0]) (m_21 : NL Int))), (13, (.int .i64 r_20.1))] ⟨h1, h2, rfl, h6, h7, h10, h13⟩ ?_
        rintro s ⟨h1, h2, h4, h6, h7, h10, h13⟩
        refine .nsq ?_
        refine .ret ?_
        have hr := Option.some.inj h
        subst hr
        exact rrA (res_tmp h4) rfl
      · refine .skip ?_
        refine .nsq ?_
        refine .seq ?_
        refine run_reg ?_
        refine e_clr ?_
        refine e_end ?_
        refine g_v1 (t := 2) (u := (.ref (.bx 2) 0 [] (.agg [(.int .i64 aG_1.1), (Enc.enc (aG_1.2 : List (Int × Int)))]))) (.agg [(.int .i64 aG_1.1), (Enc.enc (aG_1.2 : List (Int × Int)))]) (keep_clear (s := s) (pk := [97]) h2 rfl (map_bx rfl (map_agg (maps_cons rfl (maps_cons (Enc.map_enc _ (aG_1.2 : List (Int × Int))) maps_nil))))) rfl rfl ?_
        obtain ⟨r_23, E_r_23, h⟩ := bind_some h
        refine g_call (m := 0) (al := true) (r := (Enc.enc (r_23 : (Int × (List (Int × Int)))))) [Enc.enc (aG_1 : (Int × (List (Int × Int))))] (ta_cons (v := (.agg [(.int .i64 aG_1.1), (Enc.enc (aG_1.2 : List (Int × Int)))])) rfl rfl (Enc.erase_enc (aG_1 : (Int × (List (Int × Int))))) ta_nil) (H.c17 _ _ E_r_23) H.g17 (hal_of (ht_cons (v := (.agg [(.int .i64 aG_1.1), (Enc.enc (aG_1.2 : List (Int × Int)))])) rfl rfl rfl ht_nil)) rfl rfl rfl ?_
        refine g_v1 (t := 1) (u := (Enc.enc (aLayout_2 : List Int))) (Enc.enc (aLayout_2 : List Int)) (keep_clear (s := s) (pk := [97]) h1 rfl (Enc.map_enc _ (aLayout_2 : List Int))) rfl rfl ?_
        obtain ⟨r_24, E_r_24, h⟩ := bind_some h
        refine g_call (m := 0) (al := false) (r := (Enc.enc (r_24 : (List Int)))) [Enc.enc (aLayout_2 : (List Int))] (ta_cons (v := (Enc.enc (aLayout_2 : List Int))) rfl rfl (Enc.erase_enc (aLayout_2 : (List Int))) ta_nil) (H.c31 _ _ E_r_24) H.g31 rfl rfl rfl rfl ?_
        obtain ⟨r_25, E_r_25, h⟩ := bind_some h
        refine g_callO (m := 1) (al := false) (r := (.tup [(encO .sh (r_25.1 : NL Int)), (Enc.enc (r_25.2 : Bool))])) (v := (.tup [(encO (.at 97 [0]) (r_25.1 : NL Int)), (.bool r_25.2)])) (kk := 1000000034) [Enc.enc (r_23 : (Int × (List (Int × Int)))), Enc.enc (r_24 : (List Int))] (ta_cons (v := (.agg [(.int .i64 r_23.1), (Enc.enc (r_23.2 : List (Int × Int)))])) rfl rfl (Enc.erase_enc (r_23 : (Int × (List (Int × Int))))) (ta_cons (v := (Enc.enc (r_24 : List Int))) rfl rfl (Enc.erase_enc (r_24 : (List Int))) ta_nil)) (H.c34o _ _ _ E_r_25) H.g34o rfl (toks_tup (tokss_cons toks_encS (tokss_cons rfl tokss_nil))) (tag_tup (tags_cons tag_encO (tags_cons rfl tags_nil))) rfl (gone_clear (s := s) (pk := [97]) (t := 97) rfl) ?_
        refine g_v1 (t := 97) (u := (.tup [(encO (.at 97 [0]) (r_25.1 : NL Int)), (.bool r_25.2)])) (.tup [(encO (.at 97 [0]) (r_25.1 : NL Int)), (.bool r_25.2)]) rfl rfl rfl ?_
        refine g_v (encO (.at 97 [0]) (r_25.1 : NL Int)) (ev_extN (v := (encO (.at 97 [0]) (r_25.1 : NL Int))) rfl rfl ok_encP) ?_
        refine g_v1 (t := 92) (u := (.tup [(encO (.at 97 [0]) (r_25.1 : NL Int)), (.bool r_25.2)])) (.bool r_25.2) rfl rfl rfl ?_
        refine g_v (encO (.at 97 [0]) (r_25.1 : NL Int)) (ev_mov rfl ok_encO) ?_
        refine g_v1 (t := 99) (u := (.bool r_25.2)) (.bool r_25.2) rfl rfl rfl ?_
        refine g_end ?_
        refine e_home (r := 97) (x := 15) (v := (encO (.at 97 [0]) (r_25.1 : NL Int))) (by exact rfl) ok_encO (fun s_11 hg_11 => ?_)
        refine e_end ?_
        refine renew [(4, (.bool false)), (6, (Enc.enc (r_6.1 : List Int))), (7, (.bool r_6.2)), (10, (encO (.at 10 [0]) (m_21 : NL Int))), (13, (.int .i64 r_20.1)), (15, (encO (.at 15 [0]) (r_25.1 : NL Int))), (16, (.bool r_25.2))] ⟨(hg_11 4 (.bool false) (.bool false) (keep_clear (s := s) (pk := [97]) h4 rfl rfl) rfl), (hg_11 6 (Enc.enc (r_6.1 : List Int)) (Enc.enc (r_6.1 : List Int)) (keep_clear (s := s) (pk := [97]) h6 rfl (Enc.map_enc _ (r_6.1 : List Int))) (Enc.map_enc _ (r_6.1 : List Int))), (hg_11 7 (.bool r_6.2) (.bool r_6.2) (keep_clear (s := s) (pk := [97]) h7 rfl rfl) rfl), (hg_11 10 (encO (.at 10 [0]) (m_21 : NL Int)) (encO (.at 10 [0]) (m_21 : NL Int)) (keep_clear (s := s) (pk := [97]) h10 rfl (map_encO (r := 10) (p := [0]) rfl rfl)) (map_encO (r := 10) (p := [0]) rfl rfl)), (hg_11 13 (.int .i64 r_20.1) (.int .i64 r_20.1) (keep_clear (s := s) (pk := [97]) h13 rfl rfl) rfl), (hg_11 15 (encO (.at 97 [0]) (r_25.1 : NL Int)) (encO (.at 15 [0]) (r_25.1 : NL Int)) rfl (map_encO (r := 97) (p := [0]) rfl rfl)), (hg_11 16 (.bool r_25.2) (.bool r_25.2) rfl rfl)⟩ ?_
        rintro s ⟨h4, h6, h7, h10, h13, h15, h16⟩
        refine .nsq ?_
        refine .seq ?_
        refine .seq ?_
        refine run_reg ?_
        refine e_end ?_
        refine g_v (encO (.at 15 [0]) (r_25.1 : NL Int)) (ev_mov h15 ok_encO) ?_
        refine g_v1 (t := 6) (u := (Enc.enc (r_6.1 : List Int))) (Enc.enc (r_6.1 : List Int)) h6 rfl rfl ?_
        obtain ⟨r_29, E_r_29, h⟩ := bind_some h
        refine g_call (m := 0) (al := false) (r := (Enc.enc (r_29 : Bool))) [Enc.enc (r_25.1.list : (List Int)), Enc.enc (r_6.1 : (List Int))] (ta_cons (v := (encO (.at 15 [0]) (r_25.1 : NL Int))) rfl ok_encP (erase_encO (o := r_25.1)) (ta_cons (v := (Enc.enc (r_6.1 : List Int))) rfl rfl (Enc.erase_enc (r_6.1 : (List Int))) ta_nil)) (H.c19 _ _ _ E_r_29) H.g19 rfl rfl rfl rfl ?_
        refine g_v1 (t := 102) (u := (.bool r_29)) (.bool (!r_29)) rfl rfl rfl ?_
        refine g_v1 (t := 103) (u := (.bool (!r_29))) (.bool (!r_29)) rfl rfl rfl ?_
        refine split_on (c := (!r_29)) h (fun hg5 h => ?_) (fun hg5 h => ?_)
        · refine g_no (Eq.trans (b := .bool (!r_29)) rfl (congrArg V.bool hg5)) ?_
          refine g_no (Eq.trans (b := .bool (!r_29)) rfl (congrArg V.bool hg5)) ?_
          refine g_no (Eq.trans (b := .bool (!r_29)) rfl (congrArg V.bool hg5)) ?_
          refine g_v2 (t1 := 104) (t2 := 107) (u1 := (.bool true)) (u2 := (.tup [])) (.bool true) (Eq.trans (b := .bool (!r_29)) rfl (congrArg V.bool hg5)) rfl rfl rfl ?_
          refine g_end ?_
          refine e_end ?_
          refine renew [(4, (.bool false)), (10, (encO (.at 10 [0]) (m_21 : NL Int))), (13, (.int .i64 r_20.1)), (108, (.bool true))] ⟨h4, h10, h13, rfl⟩ ?_
          rintro s ⟨h4, h10, h13, h108⟩
          exact t_f8_j1 H m_21 r_20 true _ ⟨h4, h10, h13, h108⟩ h
        · refine g_yes (Eq.trans (b := .bool (!r_29)) rfl (congrArg V.bool hg5)) (g_v1 (t := 16) (u := (.bool r_25.2)) (.bool r_25.2) h16 rfl rfl ?_)
          refine g_yes (Eq.trans (b := .bool (!r_29)) rfl (congrArg V.bool hg5)) (g_v1 (t := 7) (u := (.bool r_6.2)) (.bool r_6.2) h7 rfl rfl ?_)
          refine g_yes (Eq.trans (b := .bool (!r_29)) rfl (congrArg V.bool hg5)) (g_v2 (t1 := 105) (t2 := 106) (u1 := (.bool r_25.2)) (u2 := (.bool r_6.2)) (.bool (r_25.2 != r_6.2)) rfl rfl rfl rfl ?_)
          refine g_v2 (t1 := 104) (t2 := 107) (u1 := (.bool false)) (u2 := (.bool (r_25.2 != r_6.2))) (.bool (r_25.2 != r_6.2)) (Eq.trans (b := .bool (!r_29)) rfl (congrArg V.bool hg5)) rfl rfl rfl ?_
          refine g_end ?_
          refine e_end ?_
          refine renew [(4, (.bool false)), (10, (encO (.at 10 [0]) (m_21 : NL Int))), (13, (.int .i64 r_20.1)), (108, (.bool (r_25.2 != r_6.2)))] ⟨h4, h10, h13, rfl⟩ ?_
          rintro s ⟨h4, h10, h13, h108⟩
          exact t_f8_j1 H m_21 r_20 (r_25.2 != r_6.2) _ ⟨h4, h10, h13, h108⟩ h
def w_FnExactProgramOfLayout_j3 (F : Nat) (aLayout_2 : (List Int)) (aG_1 : (Int × (List (Int × Int)))) (r_6 : ((List Int) × Bool)) (r_7 : (Int × (NL (Int × Int)))) (r_8 : (NL Int)) (r_9 : ((NL Int) × Bool))  (t51_11 : Bool) : Option Bool :=
  bif t51_11 then
    some false
  else
    (w_toGraph F aG_1).bind fun r_12 =>
    (w_eqGraph F (r_7.1, r_7.2.list) r_12).bind fun r_13 =>
    bif (!r_13) then
      some false
    else
      (w_toIntS F aLayout_2).bind fun r_14 =>
      (w_eqIntS F r_8.list r_14).bind fun r_15 =>
      bif (!r_15) then
        some false
      else
        (w_markGraph F (Og.mk r_7.1 r_7.2 : (Og (Int × Int))) 1).bind fun r_16 =>
        (w_markIntS F (On.mk r_8 : (On Int)) r_16).bind fun r_17 =>
        bif decide (r_17.1 < 0) then
          w_FnExactProgramOfLayout_j2 F aLayout_2 aG_1 r_6 r_9 true
        else
          (w_eqIntS F r_9.1.list r_6.1).bind fun r_30 =>
          bif (!r_30) then
            w_FnExactProgramOfLayout_j2 F aLayout_2 aG_1 r_6 r_9 true
          else
            w_FnExactProgramOfLayout_j2 F aLayout_2 aG_1 r_6 r_9 (r_9.2 != r_6.2)
theorem t_f8_j3 (H : H8 D σ F) (aLayout_2 : (List Int)) (aG_1 : (Int × (List (Int × Int)))) (r_6 : ((List Int) × Bool)) (r_7 : (Int × (NL (Int × Int)))) (r_8 : (NL Int)) (r_9 : ((NL Int) × Bool))  (t51_11 : Bool) (s : Nat → V) (hs : Facts [(1, (Enc.enc (aLayout_2 : List Int))), (2, (.ref (.bx 2) 0 [] (.agg [(.int .i64 aG_1.1), (Enc.enc (aG_1.2 : List (Int × Int)))]))), (4, (.bool false)), (6, (Enc.enc (r_6.1 : List Int))), (7, (.bool r_6.2)), (8, (.ref (.bx 8) 0 [] (.agg [(.int .i64 r_7.1), (encO (.at 34 [1]) (r_7.2 : NL (Int × Int)))]))), (9, (encO (.at 9 []) (r_8 : NL Int))), (10, (encO (.at 10 [0]) (r_9.1 : NL Int))), (11, (.bool r_9.2)), (51, (.bool t51_11))] s) (h : w_FnExactProgramOfLayout_j3 F aLayout_2 aG_1 r_6 r_7 r_8 r_9  t51_11 = some r) : Run D σ (R8 r) (.nrm [.sq A8_20, .sq A8_21]) s := by
  unfold w_FnExactProgramOfLayout_j3 at h
  obtain ⟨h1, h2, h4, h6, h7, h8, h9, h10, h11, h51⟩ := hs
  refine .nsq ?_
  refine run_cond (t := t51_11) h51 h (fun h => ?_) (fun h => ?_)
  · refine .seq ?_
    refine run_reg ?_
    refine e_end ?_
    refine g_v0 (.bool false) rfl rfl ?_
    refine g_end ?_
    refine e_end ?_
    refine renew [(1, (Enc.enc (aLayout_2 : List Int))), (2, (.ref (.bx 2) 0 [] (.agg [(.int .i64 aG_1.1), (Enc.enc (aG_1.2 : List (Int × Int)))]))), (4, (.bool false)), (6, (Enc.enc (r_6.1 : List Int))), (7, (.bool r_6.2)), (8, (.ref (.bx 8) 0 [] (.agg [(.int .i64 r_7.1), (encO (.at 34 [1]) (r_7.2 : NL (Int × Int)))]))), (9, (encO (.at 9 []) (r_8 : NL Int))), (10, (encO (.at 10 [0]) (r_9.1 : NL Int))), (11, (.bool r_9.2))] ⟨h1, h2, rfl, h6, h7, h8, h9, h10, h11⟩ ?_
    rintro s ⟨h1, h2, h4, h6, h7, h8, h9, h10, h11⟩
    refine .nsq ?_
    refine .ret ?_
    have hr := Option.some.inj h
    subst hr
    exact rrA (res_tmp h4) rfl
  · refine .skip ?_
    refine .nsq ?_
    refine .seq ?_
    refine .seq ?_
    refine run_reg ?_
    refine e_end ?_
    refine g_v (.agg [(.int .i64 r_7.1), (encO (.at 34 [1]) (r_7.2 : NL (Int × Int)))]) (ev_loadN (c := (.agg [(.int .i64 r_7.1), (encO (.at 34 [1]) (r_7.2 : NL (Int × Int)))])) h8 (by simp [V.shape, V.shapes, shape_encP, Sh.beq, Sh.beqs])) ?_
    refine g_v1 (t := 2) (u := (.ref (.bx 2) 0 [] (.agg [(.int .i64 aG_1.1), (Enc.enc (aG_1.2 : List (Int × Int)))]))) (.agg [(.int .i64 aG_1.1), (Enc.enc (aG_1.2 : List (Int × Int)))]) h2 rfl rfl ?_
    obtain ⟨r_12, E_r_12, h⟩ := bind_some h
    refine g_call (m := 0) (al := true) (r := (Enc.enc (r_12 : (Int × (List (Int × Int)))))) [Enc.enc (aG_1 : (Int × (List (Int × Int))))] (ta_cons (v := (.agg [(.int .i64 aG_1.1), (Enc.enc (aG_1.2 : List (Int × Int)))])) rfl rfl (Enc.erase_enc (aG_1 : (Int × (List (Int × Int))))) ta_nil) (H.c17 _ _ E_r_12) H.g17 (hal_of (ht_cons (v := (.agg [(.int .i64 aG_1.1), (Enc.enc (aG_1.2 : List (Int × Int)))])) rfl rfl rfl ht_nil)) rfl rfl rfl ?_
    obtain ⟨r_13, E_r_13, h⟩ := bind_some h
    refine g_call (m := 0) (al := false) (r := (Enc.enc (r_13 : Bool))) [Enc.enc ((r_7.1, r_7.2.list) : (Int × (List (Int × Int)))), Enc.enc (r_12 : (Int × (List (Int × Int))))] (ta_cons (v := (.agg [(.int .i64 r_7.1), (encO (.at 34 [1]) (r_7.2 : NL (Int × Int)))])) rfl rfl (erase_agg (erases_cons rfl (erases_cons (erase_encO (o := r_7.2)) erases_nil))) (ta_cons (v := (.agg [(.int .i64 r_12.1), (Enc.enc (r_12.2 : List (Int × Int)))])) rfl rfl (Enc.erase_enc (r_12 : (Int × (List (Int × Int))))) ta_nil)) (H.c20 _ _ _ E_r_13) H.g20 rfl rfl rfl rfl ?_
    refine g_v1 (t := 55) (u := (.bool r_13)) (.bool (!r_13)) rfl rfl rfl ?_
    refine g_end ?_
    refine e_end ?_
    refine renew [(1, (Enc.enc (aLayout_2 : List Int))), (2, (.ref (.bx 2) 0 [] (.agg [(.int .i64 aG_1.1), (Enc.enc (aG_1.2 : List (Int × Int)))]))), (4, (.bool false)), (6, (Enc.enc (r_6.1 : List Int))), (7, (.bool r_6.2)), (8, (.ref (.bx 8) 0 [] (.agg [(.int .i64 r_7.1), (encO (.at 34 [1]) (r_7.2 : NL (Int × Int)))]))), (9, (encO (.at 9 []) (r_8 : NL Int))), (10, (encO (.at 10 [0]) (r_9.1 : NL Int))), (11, (.bool r_9.2)), (56, (.bool (!r_13)))] ⟨h1, h2, h4, h6, h7, h8, h9, h10, h11, rfl⟩ ?_
    rintro s ⟨h1, h2, h4, h6, h7, h8, h9, h10, h11, h56⟩
    refine .nsq ?_
    refine run_cond (t := (!r_13)) h56 h (fun h => ?_) (fun h => ?_)
    · refine .seq ?_
      refine run_reg ?_
      refine e_end ?_
      refine g_v0 (.bool false) rfl rfl ?_
      refine g_end ?_
      refine e_end ?_
      refine renew [(1, (Enc.enc (aLayout_2 : List Int))), (2, (.ref (.bx 2) 0 [] (.agg [(.int .i64 aG_1.1), (Enc.enc (aG_1.2 : List (Int × Int)))]))), (4, (.bool false)), (6, (Enc.enc (r_6.1 : List Int))), (7, (.bool r_6.2)), (8, (.ref (.bx 8) 0 [] (.agg [(.int .i64 r_7.1), (encO (.at 34 [1]) (r_7.2 : NL (Int × Int)))]))), (9, (encO (.at 9 []) (r_8 : NL Int))), (10, (encO (.at 10 [0]) (r_9.1 : NL Int))), (11, (.bool r_9.2))] ⟨h1, h2, rfl, h6, h7, h8, h9, h10, h11⟩ ?_
      rintro s ⟨h1, h2, h4, h6, h7, h8, h9, h10, h11⟩
      refine .nsq ?_
      refine .ret ?_
      have hr := Option.some.inj h
      subst hr
      exact rrA (res_tmp h4) rfl
    · refine .skip ?_
      refine .nsq ?_
      refine .seq ?_
      refine .seq ?_
      refine run_reg ?_
      refine e_end ?_
      refine g_v (encO (.at 9 []) (r_8 : NL Int)) (ev_mov h9 ok_encO) ?_
      refine g_v1 (t := 1) (u := (Enc.enc (aLayout_2 : List Int))) (Enc.enc (aLayout_2 : List Int)) h1 rfl rfl ?_
      obtain ⟨r_14, E_r_14, h⟩ := bind_some h
      refine g_call (m := 0) (al := false) (r := (Enc.enc (r_14 : (List Int)))) [Enc.enc (aLayout_2 : (List Int))] (ta_cons (v := (Enc.enc (aLayout_2 : List Int))) rfl rfl (Enc.erase_enc (aLayout_2 : (List Int))) ta_nil) (H.c31 _ _ E_r_14) H.g31 rfl rfl rfl rfl ?_
      obtain ⟨r_15, E_r_15, h⟩ := bind_some h
      refine g_call (m := 0) (al := false) (r := (Enc.enc (r_15 : Bool))) [Enc.enc (r_8.list : (List Int)), Enc.enc (r_14 : (List Int))] (ta_cons (v := (encO (.at 9 []) (r_8 : NL Int))) rfl ok_encP (erase_encO (o := r_8)) (ta_cons (v := (Enc.enc (r_14 : List Int))) rfl rfl (Enc.erase_enc (r_14 : (List Int))) ta_nil)) (H.c19 _ _ _ E_r_15) H.g19 rfl rfl rfl rfl ?_
      refine g_v1 (t := 60) (u := (.bool r_15)) (.bool (!r_15)) rfl rfl rfl ?_
      refine g_end ?_
      refine e_end ?_
      refine renew [(1, (Enc.enc (aLayout_2 : List Int))), (2, (.ref (.bx 2) 0 [] (.agg [(.int .i64 aG_1.1), (Enc.enc (aG_1.2 : List (Int × Int)))]))), (4, (.bool false)), (6, (Enc.enc (r_6.1 : List Int))), (7, (.bool r_6.2)), (8, (.ref (.bx 8) 0 [] (.agg [(.int .i64 r_7.1), (encO (.at 34 [1]) (r_7.2 : NL (Int × Int)))]))), (9, (encO (.at 9 []) (r_8 : NL Int))), (10, (encO (.at 10 [0]) (r_9.1 : NL Int))), (11, (.bool r_9.2)), (61, (.bool (!r_15)))] ⟨h1, h2, h4, h6, h7, h8, h9, h10, h11, rfl⟩ ?_
      rintro s ⟨h1, h2, h4, h6, h7, h8, h9, h10, h11, h61⟩
      refine .nsq ?_
      refine run_cond (t := (!r_15)) h61 h (fun h => ?_) (fun h => ?_)
      · refine .seq ?_
        refine run_reg ?_
        refine e_end ?_
        refine g_v0 (.bool false) rfl rfl ?_
        refine g_end ?_
        refine e_end ?_
        refine renew [(1, (Enc.enc (aLayout_2 : List Int))), (2, (.ref (.bx 2) 0 [] (.agg [(.int .i64 aG_1.1), (Enc.enc (aG_1.2 : List (Int × Int)))]))), (4, (.bool false)), (6, (Enc.enc (r_6.1 : List Int))), (7, (.bool r_6.2)), (8, (.ref (.bx 8) 0 [] (.agg [(.int .i64 r_7.1), (encO (.at 34 [1]) (r_7.2 : NL (Int × Int)))]))), (9, (encO (.at 9 []) (r_8 : NL Int))), (10, (encO (.at 10 [0]) (r_9.1 : NL Int))), (11, (.bool r_9.2))] ⟨h1, h2, rfl, h6, h7, h8, h9, h10, h11⟩ ?_
        rintro s ⟨h1, h2, h4, h6, h7, h8, h9, h10, h11⟩
        refine .nsq ?_
        refine .ret ?_
        have hr := Option.some.inj h
        subst hr
        exact rrA (res_tmp h4) rfl
      · refine .skip ?_
        refine .nsq ?_
        refine .seq ?_
        refine run_reg ?_
        refine e_end ?_
        refine g_v0 (.int .i64 1) rfl rfl ?_
        refine g_end ?_
        refine e_end ?_
        refine renew [(1, (Enc.enc (aLayout_2 : List Int))), (2, (.ref (.bx 2) 0 [] (.agg [(.int .i64 aG_1.1), (Enc.enc (aG_1.2 : List (Int × Int)))]))), (4, (.bool false)), (6, (Enc.enc (r_6.1 : List Int))), (7, (.bool r_6.2)), (8, (.ref (.bx 8) 0 [] (.agg [(.int .i64 r_7.1), (encO (.at 34 [1]) (r_7.2 : NL (Int × Int)))]))), (9, (encO (.at 9 []) (r_8 : NL Int))), (10, (encO (.at 10 [0]) (r_9.1 : NL Int))), (11, (.bool r_9.2)), (12, (.int .i64 1))] ⟨h1, h2, h4, h6, h7, h8, h9, h10, h11, rfl⟩ ?_
        rintro s ⟨h1, h2, h4, h6, h7, h8, h9, h10, h11, h12⟩
        refine .nsq ?_
        refine .seq ?_
        refine run_reg ?_
        refine e_end ?_
        refine g_v (.agg [(.int .i64 r_7.1), (encO (.at 34 [1]) (r_7.2 : NL (Int × Int)))]) (ev_loadN (c := (.agg [(.int .i64 r_7.1), (encO (.at 34 [1]) (r_7.2 : NL (Int × Int)))])) h8 (by simp [V.shape, V.shapes, shape_encP, Sh.beq, Sh.beqs])) ?_
        refine g_v1 (t := 12) (u := (.int .i64 1)) (.int .i64 1) h12 rfl rfl ?_
        obtain ⟨r_16, E_r_16, h⟩ := bind_some h
        refine g_mark (v := (.agg [(.int .i64 r_7.1), (encO (.at 34 [1]) (r_7.2 : NL (Int × Int)))])) rfl (canon_agg (a := r_7.1) (o := (r_7.2 : NL (Int × Int))) rfl) (rdAll_cons (v := (.int .i64 1)) rfl rfl rdAll_nil) (H.c21 _ _ _ E_r_16) H.g21 rfl rfl (fun s_7 hm_7 => ?_)
        refine g_v1 (t := 64) (u := (.int .i64 r_16)) (.int .i64 r_16) rfl rfl rfl ?_
        refine g_end ?_
        refine e_end ?_
        refine renew [(1, (Enc.enc (aLayout_2 : List Int))), (2, (.ref (.bx 2) 0 [] (.agg [(.int .i64 aG_1.1), (Enc.enc (aG_1.2 : List (Int × Int)))]))), (4, (.bool false)), (6, (Enc.enc (r_6.1 : List Int))), (7, (.bool r_6.2)), (9, (encO (.at 9 []) (r_8 : NL Int))), (10, (encO (.at 10 [0]) (r_9.1 : NL Int))), (11, (.bool r_9.2)), (12, (.int .i64 r_16))] ⟨(show s_7 1 = (Enc.enc (aLayout_2 : List Int)) from hm_7 1 (Enc.enc (aLayout_2 : List Int)) (Enc.enc (aLayout_2 : List Int)) h1 (rem_enc (xs := (aLayout_2 : List Int)))), (show s_7 2 = (.ref (.bx 2) 0 [] (.agg [(.int .i64 aG_1.1), (Enc.enc (aG_1.2 : List (Int × Int)))])) from hm_7 2 (.ref (.bx 2) 0 [] (.agg [(.int .i64 aG_1.1), (Enc.enc (aG_1.2 : List (Int × Int)))])) (.ref (.bx 2) 0 [] (.agg [(.int .i64 aG_1.1), (Enc.enc (aG_1.2 : List (Int × Int)))])) h2 (rem_map rfl (map_bx (killO_ne rfl) (map_agg (maps_cons rfl (maps_cons (Enc.map_enc _ (aG_1.2 : List (Int × Int))) maps_nil)))))), (show s_7 4 = (.bool false) from hm_7 4 (.bool false) (.bool false) h4 (rem_map rfl rfl)), (show s_7 6 = (Enc.enc (r_6.1 : List Int)) from hm_7 6 (Enc.enc (r_6.1 : List Int)) (Enc.enc (r_6.1 : List Int)) h6 (rem_enc (xs := (r_6.1 : List Int)))), (show s_7 7 = (.bool r_6.2) from hm_7 7 (.bool r_6.2) (.bool r_6.2) h7 (rem_map rfl rfl)), (show s_7 9 = (encO (.at 9 []) (r_8 : NL Int)) from hm_7 9 (encO (.at 9 []) (r_8 : NL Int)) (encO (.at 9 []) (r_8 : NL Int)) h9 (rem_own (r := 9) (p := []) (o := (r_8 : NL Int)) rfl rfl)), (show s_7 10 = (encO (.at 10 [0]) (r_9.1 : NL Int)) from hm_7 10 (encO (.at 10 [0]) (r_9.1 : NL Int)) (encO (.at 10 [0]) (r_9.1 : NL Int)) h10 (rem_own (r := 10) (p := [0]) (o := (r_9.1 : NL Int)) rfl rfl)), (show s_7 11 = (.bool r_9.2) from hm_7 11 (.bool r_9.2) (.bool r_9.2) h11 (rem_map rfl rfl)), rfl⟩ ?_
        rintro s ⟨h1, h2, h4, h6, h7, h9, h10, h11, h12⟩
        refine .nsq ?_
        refine .seq ?_
        refine run_reg ?_
        refine e_end ?_
        refine g_v (encO (.at 9 []) (r_8 : NL Int)) (ev_mov h9 ok_encO) ?_
        refine g_v1 (t := 12) (u := (.int .i64 r_16)) (.int .i64 r_16) h12 rfl rfl ?_
        obtain ⟨r_17, E_r_17, h⟩ := bind_some h
        refine g_mark (v := (encO (.at 9 []) (r_8 : NL Int))) rfl (canon_own (o := (r_8 : NL Int)) rfl) (rdAll_cons (v := (.int .i64 r_16)) rfl rfl rdAll_nil) (H.c22 _ _ _ E_r_17) H.g22 rfl rfl (fun s_8 hm_8 => ?_)
        refine g_v1 (t := 67) (u := (.int .i64 r_17.1)) (.int .i64 r_17.1) rfl rfl rfl ?_
        refine g_end ?_
        refine e_end ?_
        refine renew [(1, (Enc.enc (aLayout_2 : List Int))), (2, (.ref (.bx 2) 0 [] (.agg [(.int .i64 aG_1.1), (Enc.enc (aG_1.2 : List (Int × Int)))]))), (4, (.bool false)), (6, (Enc.enc (r_6.1 : List Int))), (7, (.bool r_6.2)), (10, (encO (.at 10 [0]) (r_9.1 : NL Int))), (11, (.bool r_9.2)), (12, (.int .i64 r_17.1))] ⟨(show s_8 1 = (Enc.enc (aLayout_2 : List Int)) from hm_8 1 (Enc.enc (aLayout_2 : List Int)) (Enc.enc (aLayout_2 : List Int)) h1 (rem_enc (xs := (aLayout_2 : List Int)))), (show s_8 2 = (.ref (.bx 2) 0 [] (.agg [(.int .i64 aG_1.1), (Enc.enc (aG_1.2 : List (Int × Int)))])) from hm_8 2 (.ref (.bx 2) 0 [] (.agg [(.int .i64 aG_1.1), (Enc.enc (aG_1.2 : List (Int × Int)))])) (.ref (.bx 2) 0 [] (.agg [(.int .i64 aG_1.1), (Enc.enc (aG_1.2 : List (Int × Int)))])) h2 (rem_map rfl (map_bx (killO_ne rfl) (map_agg (maps_cons rfl (maps_cons (Enc.map_enc _ (aG_1.2 : List (Int × Int))) maps_nil)))))), (show s_8 4 = (.bool false) from hm_8 4 (.bool false) (.bool false) h4 (rem_map rfl rfl)), (show s_8 6 = (Enc.enc (r_6.1 : List Int)) from hm_8 6 (Enc.enc (r_6.1 : List Int)) (Enc.enc (r_6.1 : List Int)) h6 (rem_enc (xs := (r_6.1 : List Int)))), (show s_8 7 = (.bool r_6.2) from hm_8 7 (.bool r_6.2) (.bool r_6.2) h7 (rem_map rfl rfl)), (show s_8 10 = (encO (.at 10 [0]) (r_9.1 : NL Int)) from hm_8 10 (encO (.at 10 [0]) (r_9.1 : NL Int)) (encO (.at 10 [0]) (r_9.1 : NL Int)) h10 (rem_own (r := 10) (p := [0]) (o := (r_9.1 : NL Int)) rfl rfl)), (show s_8 11 = (.bool r_9.2) from hm_8 11 (.bool r_9.2) (.bool r_9.2) h11 (rem_map rfl rfl)), rfl⟩ ?_
        rintro s ⟨h1, h2, h4, h6, h7, h10, h11, h12⟩
        refine .nsq ?_
        refine .seq ?_
        refine .seq ?_
        refine run_reg ?_
        refine e_end ?_
        refine g_v1 (t := 12) (u := (.int .i64 r_17.1)) (.int .i64 r_17.1) h12 rfl rfl ?_
        refine g_v1 (t := 68) (u := (.int .i64 r_17.1)) (.bool (decide (r_17.1 < 0))) rfl rfl rfl ?_
        refine g_v1 (t := 69) (u := (.bool (decide (r_17.1 < 0)))) (.bool (decide (r_17.1 < 0))) rfl rfl rfl ?_
        refine split_on (c := decide (r_17.1 < 0)) h (fun hg3 h => ?_) (fun hg3 h => ?_)
        · refine g_no (Eq.trans (b := .bool (decide (r_17.1 < 0))) rfl (congrArg V.bool hg3)) ?_
          refine g_no (Eq.trans (b := .bool (decide (r_17.1 < 0))) rfl (congrArg V.bool hg3)) ?_
          refine g_no (Eq.trans (b := .bool (decide (r_17.1 < 0))) rfl (congrArg V.bool hg3)) ?_
          refine g_no (Eq.trans (b := .bool (decide (r_17.1 < 0))) rfl (congrArg V.bool hg3)) ?_
          refine g_v2 (t1 := 70) (t2 := 74) (u1 := (.bool true)) (u2 := (.tup [])) (.bool true) (Eq.trans (b := .bool (decide (r_17.1 < 0))) rfl (congrArg V.bool hg3)) rfl rfl rfl ?_
          refine g_v1 (t := 75) (u := (.bool true)) (.bool true) rfl rfl rfl ?_
          refine g_no rfl ?_
          refine g_no rfl ?_
          refine g_no rfl ?_
          refine g_v2 (t1 := 76) (t2 := 79) (u1 := (.bool true)) (u2 := (.tup [])) (.bool true) rfl rfl rfl rfl ?_
          refine g_end ?_
          refine e_end ?_
          refine renew [(1, (Enc.enc (aLayout_2 : List Int))), (2, (.ref (.bx 2) 0 [] (.agg [(.int .i64 aG_1.1), (Enc.enc (aG_1.2 : List (Int × Int)))]))), (4, (.bool false)), (6, (Enc.enc (r_6.1 : List Int))), (7, (.bool r_6.2)), (10, (encO (.at 10 [0]) (r_9.1 : NL Int))), (80, (.bool true))] ⟨h1, h2, h4, h6, h7, h10, rfl⟩ ?_
          rintro s ⟨h1, h2, h4, h6, h7, h10, h80⟩
          exact t_f8_j2 H aLayout_2 aG_1 r_6 r_9 true _ ⟨h1, h2, h4, h6, h7, h10, h80⟩ h
        · refine g_yes (Eq.trans (b := .bool (decide (r_17.1 < 0))) rfl (congrArg V.bool hg3)) (g_v (encO (.at 10 [0]) (r_9.1 : NL Int)) (ev_mov h10 ok_encO) ?_)
          refine g_yes (Eq.trans (b := .bool (decide (r_17.1 < 0))) rfl (congrArg V.bool hg3)) (g_v1 (t := 6) (u := (Enc.enc (r_6.1 : List Int))) (Enc.enc (r_6.1 : List Int)) h6 rfl rfl ?_)
          obtain ⟨r_30, E_r_30, h⟩ := bind_some h
          refine g_yes (Eq.trans (b := .bool (decide (r_17.1 < 0))) rfl (congrArg V.bool hg3)) (g_call (m := 0) (al := false) (r := (Enc.enc (r_30 : Bool))) [Enc.enc (r_9.1.list : (List Int)), Enc.enc (r_6.1 : (List Int))] (ta_cons (v := (encO (.at 10 [0]) (r_9.1 : NL Int))) rfl ok_encP (erase_encO (o := r_9.1)) (ta_cons (v := (Enc.enc (r_6.1 : List Int))) rfl rfl (Enc.erase_enc (r_6.1 : (List Int))) ta_nil)) (H.c19 _ _ _ E_r_30) H.g19 rfl rfl rfl rfl ?_)
          refine g_yes (Eq.trans (b := .bool (decide (r_17.1 < 0))) rfl (congrArg V.bool hg3)) (g_v1 (t := 73) (u := (.bool r_30)) (.bool (!r_30)) rfl rfl rfl ?_)
          refine g_v2 (t1 := 70) (t2 := 74) (u1 := (.bool false)) (u2 := (.bool (!r_30))) (.bool (!r_30)) (Eq.trans (b := .bool (decide (r_17.1 < 0))) rfl (congrArg V.bool hg3)) rfl rfl rfl ?_
          refine g_v1 (t := 75) (u := (.bool (!r_30))) (.bool (!r_30)) rfl rfl rfl ?_
          refine split_on (c := (!r_30)) h (fun hg9 h => ?_) (fun hg9 h => ?_)
          · refine g_no (Eq.trans (b := .bool (!r_30)) rfl (congrArg V.bool hg9)) ?_
            refine g_no (Eq.trans (b := .bool (!r_30)) rfl (congrArg V.bool hg9)) ?_
            refine g_no (Eq.trans (b := .bool (!r_30)) rfl (congrArg V.bool hg9)) ?_
            refine g_v2 (t1 := 76) (t2 := 79) (u1 := (.bool true)) (u2 := (.tup [])) (.bool true) (Eq.trans (b := .bool (!r_30)) rfl (congrArg V.bool hg9)) rfl rfl rfl ?_
            refine g_end ?_
            refine e_end ?_
            refine renew [(1, (Enc.enc (aLayout_2 : List Int))), (2, (.ref (.bx 2) 0 [] (.agg [(.int .i64 aG_1.1), (Enc.enc (aG_1.2 : List (Int × Int)))]))), (4, (.bool false)), (6, (Enc.enc (r_6.1 : List Int))), (7, (.bool r_6.2)), (10, (encO (.at 10 [0]) (r_9.1 : NL Int))), (80, (.bool true))] ⟨h1, h2, h4, h6, h7, h10, rfl⟩ ?_
            rintro s ⟨h1, h2, h4, h6, h7, h10, h80⟩
            exact t_f8_j2 H aLayout_2 aG_1 r_6 r_9 true _ ⟨h1, h2, h4, h6, h7, h10, h80⟩ h
          · refine g_yes (Eq.trans (b := .bool (!r_30)) rfl (congrArg V.bool hg9)) (g_v1 (t := 11) (u := (.bool r_9.2)) (.bool r_9.2) h11 rfl rfl ?_)
            refine g_yes (Eq.trans (b := .bool (!r_30)) rfl (congrArg V.bool hg9)) (g_v1 (t := 7) (u := (.bool r_6.2)) (.bool r_6.2) h7 rfl rfl ?_)
            refine g_yes (Eq.trans (b := .bool (!r_30)) rfl (congrArg V.bool hg9)) (g_v2 (t1 := 77) (t2 := 78) (u1 := (.bool r_9.2)) (u2 := (.bool r_6.2)) (.bool (r_9.2 != r_6.2)) rfl rfl rfl rfl ?_)
            refine g_v2 (t1 := 76) (t2 := 79) (u1 := (.bool false)) (u2 := (.bool (r_9.2 != r_6.2))) (.bool (r_9.2 != r_6.2)) (Eq.trans (b := .bool (!r_30)) rfl (congrArg V.bool hg9)) rfl rfl rfl ?_
            refine g_end ?_
            refine e_end ?_
            refine renew [(1, (Enc.enc (aLayout_2 : List Int))), (2, (.ref (.bx 2) 0 [] (.agg [(.int .i64 aG_1.1), (Enc.enc (aG_1.2 : List (Int × Int)))]))), (4, (.bool false)), (6, (Enc.enc (r_6.1 : List Int))), (7, (.bool r_6.2)), (10, (encO (.at 10 [0]) (r_9.1 : NL Int))), (80, (.bool (r_9.2 != r_6.2)))] ⟨h1, h2, h4, h6, h7, h10, rfl⟩ ?_
            rintro s ⟨h1, h2, h4, h6, h7, h10, h80⟩
            exact t_f8_j2 H aLayout_2 aG_1 r_6 r_9 (r_9.2 != r_6.2) _ ⟨h1, h2, h4, h6, h7, h10, h80⟩ h
def w_FnExactProgramOfLayout (F : Nat) (aG_1 : (Int × (List (Int × Int)))) (aLayout_2 : (List Int)) : Option Bool :=
  bif decide ((aLayout_2.length : Int) > 1048576) then
    some true
  else
    (w_szGraph F aG_1 1048576).bind fun r_3 =>
    bif decide (r_3 < 0) then
      some true
    else
      (w_toGraph F aG_1).bind fun r_4 =>
      (w_toIntS F aLayout_2).bind fun r_5 =>
      (s_ProgramOfLayout F r_4 r_5).bind fun r_6 =>
      (w_toGraph_o F aG_1).bind fun r_7 =>
      (w_toIntS_o F aLayout_2).bind fun r_8 =>
      (i_ProgramOfLayout_o F (r_7.1, r_7.2.list) r_8.list).bind fun r_9 =>
      (w_eqIntS F r_9.1.list r_6.1).bind fun r_31 =>
      bif (!r_31) then
        w_FnExactProgramOfLayout_j3 F aLayout_2 aG_1 r_6 r_7 r_8 r_9 true
      else
        w_FnExactProgramOfLayout_j3 F aLayout_2 aG_1 r_6 r_7 r_8 r_9 (r_9.2 != r_6.2)
theorem t8 (H : H8 D σ F) (aG_1 : (Int × (List (Int × Int)))) (aLayout_2 : (List Int)) (s : Nat → V) (hs : Facts [(0, (.agg [(.int .i64 aG_1.1), (Enc.enc (aG_1.2 : List (Int × Int)))])), (1, (Enc.enc (aLayout_2 : List Int)))] s) (h : w_FnExactProgramOfLayout F aG_1 aLayout_2 = some r) : Run D σ (R8 r) (.run A8 []) s := by
  unfold w_FnExactProgramOfLayout at h
  obtain ⟨h0, h1⟩ := hs
  refine .seq ?_
  refine run_reg ?_
  refine e_clr ?_
  refine e_end ?_
  refine g_box (.agg [(.int .i64 aG_1.1), (Enc.enc (aG_1.2 : List (Int × Int)))]) (rd_of (keep_clear (s := s) (pk := [2]) h0 rfl (map_agg (maps_cons rfl (maps_cons (Enc.map_enc _ (aG_1.2 : List (Int × Int))) maps_nil)))) rfl) (gone_clear (s := s) (pk := [2]) (t := 2) rfl) rfl ?_
  refine g_v0 (.bool false) rfl rfl ?_
  refine g_end ?_
  refine e_end ?_
  refine renew [(1, (Enc.enc (aLayout_2 : List Int))), (2, (.ref (.bx 2) 0 [] (.agg [(.int .i64 aG_1.1), (Enc.enc (aG_1.2 : List (Int × Int)))]))), (4, (.bool false))] ⟨(keep_clear (s := s) (pk := [2]) h1 rfl (Enc.map_enc _ (aLayout_2 : List Int))), rfl, rfl⟩ ?_
  rintro s ⟨h1, h2, h4⟩
  refine .nsq ?_
  refine .seq ?_
  refine .seq ?_
  refine run_reg ?_
  refine e_end ?_
  refine g_v1 (t := 1) (u := (Enc.enc (aLayout_2 : List Int))) (Enc.enc (aLayout_2 : List Int)) h1 rfl rfl ?_
  refine g_v (.int .i64 (aLayout_2.length : Int)) (ev_len (xs := aLayout_2) rfl) ?_
  refine g_v1 (t := 18) (u := (.int .i64 (aLayout_2.length : Int))) (.bool (decide ((aLayout_2.length : Int) > 1048576))) rfl rfl rfl ?_
  refine g_end ?_
  refine e_end ?_
  refine renew [(1, (Enc.enc (aLayout_2 : List Int))), (2, (.ref (.bx 2) 0 [] (.agg [(.int .i64 aG_1.1), (Enc.enc (aG_1.2 : List (Int × Int)))]))), (4, (.bool false)), (19, (.bool (decide ((aLayout_2.length : Int) > 1048576))))] ⟨h1, h2, h4, rfl⟩ ?_
  rintro s ⟨h1, h2, h4, h19⟩
  refine .nsq ?_
  refine run_cond (t := decide ((aLayout_2.length : Int) > 1048576)) h19 h (fun h => ?_) (fun h => ?_)
  · refine .seq ?_
    refine run_reg ?_
    refine e_end ?_
    refine g_v0 (.bool true) rfl rfl ?_
    refine g_end ?_
    refine e_end ?_
    refine renew [(1, (Enc.enc (aLayout_2 : List Int))), (2, (.ref (.bx 2) 0 [] (.agg [(.int .i64 aG_1.1), (Enc.enc (aG_1.2 : List (Int × Int)))]))), (4, (.bool true))] ⟨h1, h2, rfl⟩ ?_
    rintro s ⟨h1, h2, h4⟩
    refine .nsq ?_
    refine .ret ?_
    have hr := Option.some.inj h
    subst hr
    exact rrA (res_tmp h4) rfl
  · refine .skip ?_
    refine .nsq ?_
    refine .seq ?_
    refine run_reg ?_
    refine e_end ?_
    refine g_v0 (.int .i64 1048576) rfl rfl ?_
    refine g_end ?_
    refine e_end ?_
    refine renew [(1, (Enc.enc (aLayout_2 : List Int))), (2, (.ref (.bx 2) 0 [] (.agg [(.int .i64 aG_1.1), (Enc.enc (aG_1.2 : List (Int × Int)))]))), (4, (.bool false)), (5, (.int .i64 1048576))] ⟨h1, h2, h4, rfl⟩ ?_
    rintro s ⟨h1, h2, h4, h5⟩
    refine .nsq ?_
    refine .seq ?_
    refine run_reg ?_
    refine e_end ?_
    refine g_v1 (t := 2) (u := (.ref (.bx 2) 0 [] (.agg [(.int .i64 aG_1.1), (Enc.enc (aG_1.2 : List (Int × Int)))]))) (.agg [(.int .i64 aG_1.1), (Enc.enc (aG_1.2 : List (Int × Int)))]) h2 rfl rfl ?_
    refine g_v1 (t := 5) (u := (.int .i64 1048576)) (.int .i64 1048576) h5 rfl rfl ?_
    obtain ⟨r_3, E_r_3, h⟩ := bind_some h
    refine g_call (m := 0) (al := false) (r := (Enc.enc (r_3 : Int))) [Enc.enc (aG_1 : (Int × (List (Int × Int)))), Enc.enc (1048576 : Int)] (ta_cons (v := (.agg [(.int .i64 aG_1.1), (Enc.enc (aG_1.2 : List (Int × Int)))])) rfl rfl (Enc.erase_enc (aG_1 : (Int × (List (Int × Int))))) (ta_cons (v := (.int .i64 1048576)) rfl rfl rfl ta_nil)) (H.c15 _ _ _ E_r_3) H.g15 rfl rfl rfl rfl ?_
    refine g_v1 (t := 22) (u := (.int .i64 r_3)) (.int .i64 r_3) rfl rfl rfl ?_
    refine g_end ?_
    refine e_end ?_
    refine renew [(1, (Enc.enc (aLayout_2 : List Int))), (2, (.ref (.bx 2) 0 [] (.agg [(.int .i64 aG_1.1), (Enc.enc (aG_1.2 : List (Int × Int)))]))), (4, (.bool false)), (5, (.int .i64 r_3))] ⟨h1, h2, h4, rfl⟩ ?_
    rintro s ⟨h1, h2, h4, h5⟩
    refine .nsq ?_
    refine .seq ?_
    refine .seq ?_
    refine run_reg ?_
    refine e_end ?_
    refine g_v1 (t := 5) (u := (.int .i64 r_3)) (.int .i64 r_3) h5 rfl rfl ?_
    refine g_v1 (t := 23) (u := (.int .i64 r_3)) (.bool (decide (r_3 < 0))) rfl rfl rfl ?_
    refine g_end ?_
    refine e_end ?_
    refine renew [(1, (Enc.enc (aLayout_2 : List Int))), (2, (.ref (.bx 2) 0 [] (.agg [(.int .i64 aG_1.1), (Enc.enc (aG_1.2 : List (Int × Int)))]))), (4, (.bool false)), (24, (.bool (decide (r_3 < 0))))] ⟨h1, h2, h4, rfl⟩ ?_
    rintro s ⟨h1, h2, h4, h24⟩
    refine .nsq ?_
    refine run_cond (t := decide (r_3 < 0)) h24 h (fun h => ?_) (fun h => ?_)
    · refine .seq ?_
      refine run_reg ?_
      refine e_end ?_
      refine g_v0 (.bool true) rfl rfl ?_
      refine g_end ?_
      refine e_end ?_
      refine renew [(1, (Enc.enc (aLayout_2 : List Int))), (2, (.ref (.bx 2) 0 [] (.agg [(.int .i64 aG_1.1), (Enc.enc (aG_1.2 : List (Int × Int)))]))), (4, (.bool true))] ⟨h1, h2, rfl⟩ ?_
      rintro s ⟨h1, h2, h4⟩
      refine .nsq ?_
      refine .ret ?_
      have hr := Option.some.inj h
      subst hr
      exact rrA (res_tmp h4) rfl
    · refine .skip ?_
      refine .nsq ?_
      refine .seq ?_
      refine run_reg ?_
      refine e_end ?_
      refine g_v1 (t := 2) (u := (.ref (.bx 2) 0 [] (.agg [(.int .i64 aG_1.1), (Enc.enc (aG_1.2 : List (Int × Int)))]))) (.agg [(.int .i64 aG_1.1), (Enc.enc (aG_1.2 : List (Int × Int)))]) h2 rfl rfl ?_
      obtain ⟨r_4, E_r_4, h⟩ := bind_some h
      refine g_call (m := 0) (al := true) (r := (Enc.enc (r_4 : (Int × (List (Int × Int)))))) [Enc.enc (aG_1 : (Int × (List (Int × Int))))] (ta_cons (v := (.agg [(.int .i64 aG_1.1), (Enc.enc (aG_1.2 : List (Int × Int)))])) rfl rfl (Enc.erase_enc (aG_1 : (Int × (List (Int × Int))))) ta_nil) (H.c17 _ _ E_r_4) H.g17 (hal_of (ht_cons (v := (.agg [(.int .i64 aG_1.1), (Enc.enc (aG_1.2 : List (Int × Int)))])) rfl rfl rfl ht_nil)) rfl rfl rfl ?_
      refine g_v1 (t := 1) (u := (Enc.enc (aLayout_2 : List Int))) (Enc.enc (aLayout_2 : List Int)) h1 rfl rfl ?_
      obtain ⟨r_5, E_r_5, h⟩ := bind_some h
      refine g_call (m := 0) (al := false) (r := (Enc.enc (r_5 : (List Int)))) [Enc.enc (aLayout_2 : (List Int))] (ta_cons (v := (Enc.enc (aLayout_2 : List Int))) rfl rfl (Enc.erase_enc (aLayout_2 : (List Int))) ta_nil) (H.c31 _ _ E_r_5) H.g31 rfl rfl rfl rfl ?_
      obtain ⟨r_6, E_r_6, h⟩ := bind_some h
      refine g_call (m := 0) (al := false) (r := (.tup [Enc.enc (r_6.1 : (List Int)), Enc.enc (r_6.2 : Bool)])) [Enc.enc (r_4 : (Int × (List (Int × Int)))), Enc.enc (r_5 : (List Int))] (ta_cons (v := (.agg [(.int .i64 r_4.1), (Enc.enc (r_4.2 : List (Int × Int)))])) rfl rfl (Enc.erase_enc (r_4 : (Int × (List (Int × Int))))) (ta_cons (v := (Enc.enc (r_5 : List Int))) rfl rfl (Enc.erase_enc (r_5 : (List Int))) ta_nil)) (H.c33 _ _ _ E_r_6) H.g33 rfl rfl rfl rfl ?_
      refine g_v1 (t := 30) (u := (.tup [(Enc.enc (r_6.1 : List Int)), (.bool r_6.2)])) (.tup [(Enc.enc (r_6.1 : List Int)), (.bool r_6.2)]) rfl rfl rfl ?_
      refine g_v1 (t := 25) (u := (.tup [(Enc.enc (r_6.1 : List Int)), (.bool r_6.2)])) (Enc.enc (r_6.1 : List Int)) rfl rfl rfl ?_
      refine g_v1 (t := 25) (u := (.tup [(Enc.enc (r_6.1 : List Int)), (.bool r_6.2)])) (.bool r_6.2) rfl rfl rfl ?_
      refine g_v1 (t := 31) (u := (Enc.enc (r_6.1 : List Int))) (Enc.enc (r_6.1 : List Int)) rfl rfl rfl ?_
      refine g_v1 (t := 32) (u := (.bool r_6.2)) (.bool r_6.2) rfl rfl rfl ?_
      refine g_end ?_
      refine e_end ?_
      refine renew [(1, (Enc.enc (aLayout_2 : List Int))), (2, (.ref (.bx 2) 0 [] (.agg [(.int .i64 aG_1.1), (Enc.enc (aG_1.2 : List (Int × Int)))]))), (4, (.bool false)), (6, (Enc.enc (r_6.1 : List Int))), (7, (.bool r_6.2))] ⟨h1, h2, h4, rfl, rfl⟩ ?_
      rintro s ⟨h1, h2, h4, h6, h7⟩
      refine .nsq ?_
      refine .seq ?_
      refine run_reg ?_
      refine e_clr ?_
      refine e_end ?_
      refine g_v1 (t := 2) (u := (.ref (.bx 2) 0 [] (.agg [(.int .i64 aG_1.1), (Enc.enc (aG_1.2 : List (Int × Int)))]))) (.agg [(.int .i64 aG_1.1), (Enc.enc (aG_1.2 : List (Int × Int)))]) (keep_clear (s := s) (pk := [34, 8]) h2 rfl (map_bx rfl (map_agg (maps_cons rfl (maps_cons (Enc.map_enc _ (aG_1.2 : List (Int × Int))) maps_nil))))) rfl rfl ?_
      obtain ⟨r_7, E_r_7, h⟩ := bind_some h
      refine g_callO (m := 1) (al := false) (r := (.agg [(Enc.enc (r_7.1 : Int)), (encO .sh (r_7.2 : NL (Int × Int)))])) (v := (.agg [(.int .i64 r_7.1), (encO (.at 34 [1]) (r_7.2 : NL (Int × Int)))])) (kk := 1000000017) [Enc.enc (aG_1 : (Int × (List (Int × Int))))] (ta_cons (v := (.agg [(.int .i64 aG_1.1), (Enc.enc (aG_1.2 : List (Int × Int)))])) rfl rfl (Enc.erase_enc (aG_1 : (Int × (List (Int × Int))))) ta_nil) (H.c17o _ _ E_r_7) H.g17o rfl (toks_agg (tokss_cons rfl (tokss_cons toks_encS tokss_nil))) (tag_agg (tags_cons rfl (tags_cons tag_encO tags_nil))) rfl (gone_clear (s := s) (pk := [34, 8]) (t := 34) rfl) ?_
      refine g_alloc (gone_clear (s := s) (pk := [34, 8]) (t := 8) rfl) ?_
      refine g_store (.agg [(.int .i64 r_7.1), (encO (.at 34 [1]) (r_7.2 : NL (Int × Int)))]) (rd_of rfl rfl) (rd_of rfl rfl) ⟨by decide, by decide, rfl, (by simp [V.shape, V.shapes, shape_encP, Sh.beq, Sh.beqs]), (by simp [V.shape, V.shapes, shape_encP, Sh.beq, Sh.beqs]), (by simp [V.toks, V.tokss, tok_memP])⟩ ?_
      refine g_end ?_
      refine e_end ?_
      refine renew [(1, (Enc.enc (aLayout_2 : List Int))), (2, (.ref (.bx 2) 0 [] (.agg [(.int .i64 aG_1.1), (Enc.enc (aG_1.2 : List (Int × Int)))]))), (4, (.bool false)), (6, (Enc.enc (r_6.1 : List Int))), (7, (.bool r_6.2)), (8, (.ref (.bx 8) 0 [] (.agg [(.int .i64 r_7.1), (encO (.at 34 [1]) (r_7.2 : NL (Int × Int)))])))] ⟨(keep_mut (keep_clear (s := s) (pk := [34, 8]) h1 rfl (Enc.map_enc _ (aLayout_2 : List Int))) (Enc.mut_enc _ _ _ _ (aLayout_2 : List Int))), (keep_mut (keep_clear (s := s) (pk := [34, 8]) h2 rfl (map_bx rfl (map_agg (maps_cons rfl (maps_cons (Enc.map_enc _ (aG_1.2 : List (Int × Int))) maps_nil))))) (mut_ref_ne rfl rfl (mut_agg (muts_cons rfl (muts_cons (Enc.mut_enc _ _ _ _ (aG_1.2 : List (Int × Int))) rfl))))), (keep_mut (keep_clear (s := s) (pk := [34, 8]) h4 rfl rfl) rfl), (keep_mut (keep_clear (s := s) (pk := [34, 8]) h6 rfl (Enc.map_enc _ (r_6.1 : List Int))) (Enc.mut_enc _ _ _ _ (r_6.1 : List Int))), (keep_mut (keep_clear (s := s) (pk := [34, 8]) h7 rfl rfl) rfl), (keep_mut rfl rfl)⟩ ?_
      rintro s ⟨h1, h2, h4, h6, h7, h8⟩
      refine .nsq ?_
      refine .seq ?_
      refine run_reg ?_
      refine e_clr ?_
      refine e_end ?_
      refine g_v1 (t := 1) (u := (Enc.enc (aLayout_2 : List Int))) (Enc.enc (aLayout_2 : List Int)) (keep_clear (s := s) (pk := [36]) h1 rfl (Enc.map_enc _ (aLayout_2 : List Int))) rfl rfl ?_
      obtain ⟨r_8, E_r_8, h⟩ := bind_some h
      refine g_callO (m := 1) (al := false) (r := (encO .sh (r_8 : NL Int))) (v := (encO (.at 36 []) (r_8 : NL Int))) (kk := 1000000031) [Enc.enc (aLayout_2 : (List Int))] (ta_cons (v := (Enc.enc (aLayout_2 : List Int))) rfl rfl (Enc.erase_enc (aLayout_2 : (List Int))) ta_nil) (H.c31o _ _ E_r_8) H.g31o rfl toks_encS tag_encO ok_encP (gone_clear (s := s) (pk := [36]) (t := 36) rfl) ?_
      refine g_v (encO (.at 36 []) (r_8 : NL Int)) (ev_mov rfl ok_encO) ?_
      refine g_end ?_
      refine e_home (r := 36) (x := 9) (v := (encO (.at 36 []) (r_8 : NL Int))) (by exact rfl) ok_encO (fun s_4 hg_4 => ?_)
      refine e_end ?_
      refine renew [(1, (Enc.enc (aLayout_2 : List Int))), (2, (.ref (.bx 2) 0 [] (.agg [(.int .i64 aG_1.1), (Enc.enc (aG_1.2 : List (Int × Int)))]))), (4, (.bool false)), (6, (Enc.enc (r_6.1 : List Int))), (7, (.bool r_6.2)), (8, (.ref (.bx 8) 0 [] (.agg [(.int .i64 r_7.1), (encO (.at 34 [1]) (r_7.2 : NL (Int × Int)))]))), (9, (encO (.at 9 []) (r_8 : NL Int)))] ⟨(hg_4 1 (Enc.enc (aLayout_2 : List Int)) (Enc.enc (aLayout_2 : List Int)) (keep_clear (s := s) (pk := [36]) h1 rfl (Enc.map_enc _ (aLayout_2 : List Int))) (Enc.map_enc _ (aLayout_2 : List Int))), (hg_4 2 (.ref (.bx 2) 0 [] (.agg [(.int .i64 aG_1.1), (Enc.enc (aG_1.2 : List (Int × Int)))])) (.ref (.bx 2) 0 [] (.agg [(.int .i64 aG_1.1), (Enc.enc (aG_1.2 : List (Int × Int)))])) (keep_clear (s := s) (pk := [36]) h2 rfl (map_bx rfl (map_agg (maps_cons rfl (maps_cons (Enc.map_enc _ (aG_1.2 : List (Int × Int))) maps_nil))))) (map_bx rfl (map_agg (maps_cons rfl (maps_cons (Enc.map_enc _ (aG_1.2 : List (Int × Int))) maps_nil))))), (hg_4 4 (.bool false) (.bool false) (keep_clear (s := s) (pk := [36]) h4 rfl rfl) rfl), (hg_4 6 (Enc.enc (r_6.1 : List Int)) (Enc.enc (r_6.1 : List Int)) (keep_clear (s := s) (pk := [36]) h6 rfl (Enc.map_enc _ (r_6.1 : List Int))) (Enc.map_enc _ (r_6.1 : List Int))), (hg_4 7 (.bool r_6.2) (.bool r_6.2) (keep_clear (s := s) (pk := [36]) h7 rfl rfl) rfl), (hg_4 8 (.ref (.bx 8) 0 [] (.agg [(.int .i64 r_7.1), (encO (.at 34 [1]) (r_7.2 : NL (Int × Int)))])) (.ref (.bx 8) 0 [] (.agg [(.int .i64 r_7.1), (encO (.at 34 [1]) (r_7.2 : NL (Int × Int)))])) (keep_clear (s := s) (pk := [36]) h8 rfl (map_bx rfl (map_agg (maps_cons rfl (maps_cons (map_encO (r := 34) (p := [1]) rfl rfl) maps_nil))))) (map_bx rfl (map_agg (maps_cons rfl (maps_cons (map_encO (r := 34) (p := [1]) rfl rfl) maps_nil))))), (hg_4 9 (encO (.at 36 []) (r_8 : NL Int)) (encO (.at 9 []) (r_8 : NL Int)) rfl (map_encO (r := 36) (p := []) rfl rfl))⟩ ?_
      rintro s ⟨h1, h2, h4, h6, h7, h8, h9⟩
      refine .nsq ?_
      refine .seq ?_
      refine run_reg ?_
      refine e_clr ?_
      refine e_end ?_
      refine g_v (.agg [(.int .i64 r_7.1), (encO (.at 34 [1]) (r_7.2 : NL (Int × Int)))]) (ev_loadN (c := (.agg [(.int .i64 r_7.1), (encO (.at 34 [1]) (r_7.2 : NL (Int × Int)))])) (keep_clear (s := s) (pk := [40]) h8 rfl (map_bx rfl (map_agg (maps_cons rfl (maps_cons (map_encO (r := 34) (p := [1]) rfl rfl) maps_nil))))) (by simp [V.shape, V.shapes, shape_encP, Sh.beq, Sh.beqs])) ?_
      refine g_v (encO (.at 9 []) (r_8 : NL Int)) (ev_mov (keep_clear (s := s) (pk := [40]) h9 rfl (map_encO (r := 9) (p := []) rfl rfl)) ok_encO) ?_
      obtain ⟨r_9, E_r_9, h⟩ := bind_some h
      refine g_callO (m := 1) (al := false) (r := (.tup [(encO .sh (r_9.1 : NL Int)), (Enc.enc (r_9.2 : Bool))])) (v := (.tup [(encO (.at 40 [0]) (r_9.1 : NL Int)), (.bool r_9.2)])) (kk := 1000000034) [Enc.enc ((r_7.1, r_7.2.list) : (Int × (List (Int × Int)))), Enc.enc (r_8.list : (List Int))] (ta_cons (v := (.agg [(.int .i64 r_7.1), (encO (.at 34 [1]) (r_7.2 : NL (Int × Int)))])) rfl rfl (erase_agg (erases_cons rfl (erases_cons (erase_encO (o := r_7.2)) erases_nil))) (ta_cons (v := (encO (.at 9 []) (r_8 : NL Int))) rfl ok_encP (erase_encO (o := r_8)) ta_nil)) (H.c34o _ _ _ E_r_9) H.g34o rfl (toks_tup (tokss_cons toks_encS (tokss_cons rfl tokss_nil))) (tag_tup (tags_cons tag_encO (tags_cons rfl tags_nil))) rfl (gone_clear (s := s) (pk := [40]) (t := 40) rfl) ?_
      refine g_v1 (t := 40) (u := (.tup [(encO (.at 40 [0]) (r_9.1 : NL Int)), (.bool r_9.2)])) (.tup [(encO (.at 40 [0]) (r_9.1 : NL Int)), (.bool r_9.2)]) rfl rfl rfl ?_
      refine g_v (encO (.at 40 [0]) (r_9.1 : NL Int)) (ev_extN (v := (encO (.at 40 [0]) (r_9.1 : NL Int))) rfl rfl ok_encP) ?_
      refine g_v1 (t := 37) (u := (.tup [(encO (.at 40 [0]) (r_9.1 : NL Int)), (.bool r_9.2)])) (.bool r_9.2) rfl rfl rfl ?_
      refine g_v (encO (.at 40 [0]) (r_9.1 : NL Int)) (ev_mov rfl ok_encO) ?_
      refine g_v1 (t := 42) (u := (.bool r_9.2)) (.bool r_9.2) rfl rfl rfl ?_
      refine g_end ?_
      refine e_home (r := 40) (x := 10) (v := (encO (.at 40 [0]) (r_9.1 : NL Int))) (by exact rfl) ok_encO (fun s_6 hg_6 => ?_)
      refine e_end ?_
      refine renew [(1, (Enc.enc (aLayout_2 : List Int))), (2, (.ref (.bx 2) 0 [] (.agg [(.int .i64 aG_1.1), (Enc.enc (aG_1.2 : List (Int × Int)))]))), (4, (.bool false)), (6, (Enc.enc (r_6.1 : List Int))), (7, (.bool r_6.2)), (8, (.ref (.bx 8) 0 [] (.agg [(.int .i64 r_7.1), (encO (.at 34 [1]) (r_7.2 : NL (Int × Int)))]))), (9, (encO (.at 9 []) (r_8 : NL Int))), (10, (encO (.at 10 [0]) (r_9.1 : NL Int))), (11, (.bool r_9.2))] ⟨(hg_6 1 (Enc.enc (aLayout_2 : List Int)) (Enc.enc (aLayout_2 : List Int)) (keep_clear (s := s) (pk := [40]) h1 rfl (Enc.map_enc _ (aLayout_2 : List Int))) (Enc.map_enc _ (aLayout_2 : List Int))), (hg_6 2 (.ref (.bx 2) 0 [] (.agg [(.int .i64 aG_1.1), (Enc.enc (aG_1.2 : List (Int × Int)))])) (.ref (.bx 2) 0 [] (.agg [(.int .i64 aG_1.1), (Enc.enc (aG_1.2 : List (Int × Int)))])) (keep_clear (s := s) (pk := [40]) h2 rfl (map_bx rfl (map_agg (maps_cons rfl (maps_cons (Enc.map_enc _ (aG_1.2 : List (Int × Int))) maps_nil))))) (map_bx rfl (map_agg (maps_cons rfl (maps_cons (Enc.map_enc _ (aG_1.2 : List (Int × Int))) maps_nil))))), (hg_6 4 (.bool false) (.bool false) (keep_clear (s := s) (pk := [40]) h4 rfl rfl) rfl), (hg_6 6 (Enc.enc (r_6.1 : List Int)) (Enc.enc (r_6.1 : List Int)) (keep_clear (s := s) (pk := [40]) h6 rfl (Enc.map_enc _ (r_6.1 : List Int))) (Enc.map_enc _ (r_6.1 : List Int))), (hg_6 7 (.bool r_6.2) (.bool r_6.2) (keep_clear (s := s) (pk := [40]) h7 rfl rfl) rfl), (hg_6 8 (.ref (.bx 8) 0 [] (.agg [(.int .i64 r_7.1), (encO (.at 34 [1]) (r_7.2 : NL (Int × Int)))])) (.ref (.bx 8) 0 [] (.agg [(.int .i64 r_7.1), (encO (.at 34 [1]) (r_7.2 : NL (Int × Int)))])) (keep_clear (s := s) (pk := [40]) h8 rfl (map_bx rfl (map_agg (maps_cons rfl (maps_cons (map_encO (r := 34) (p := [1]) rfl rfl) maps_nil))))) (map_bx rfl (map_agg (maps_cons rfl (maps_cons (map_encO (r := 34) (p := [1]) rfl rfl) maps_nil))))), (hg_6 9 (encO (.at 9 []) (r_8 : NL Int)) (encO (.at 9 []) (r_8 : NL Int)) (keep_clear (s := s) (pk := [40]) h9 rfl (map_encO (r := 9) (p := []) rfl rfl)) (map_encO (r := 9) (p := []) rfl rfl)), (hg_6 10 (encO (.at 40 [0]) (r_9.1 : NL Int)) (encO (.at 10 [0]) (r_9.1 : NL Int)) rfl (map_encO (r := 40) (p := [0]) rfl rfl)), (hg_6 11 (.bool r_9.2) (.bool r_9.2) rfl rfl)⟩ ?_
      rintro s ⟨h1, h2, h4, h6, h7, h8, h9, h10, h11⟩
      refine .nsq ?_
      refine .seq ?_
      refine .seq ?_
      refine run_reg ?_
      refine e_end ?_
      refine g_v (encO (.at 10 [0]) (r_9.1 : NL Int)) (ev_mov h10 ok_encO) ?_
      refine g_v1 (t := 6) (u := (Enc.enc (r_6.1 : List Int))) (Enc.enc (r_6.1 : List Int)) h6 rfl rfl ?_
      obtain ⟨r_31, E_r_31, h⟩ := bind_some h
      refine g_call (m := 0) (al := false) (r := (Enc.enc (r_31 : Bool))) [Enc.enc (r_9.1.list : (List Int)), Enc.enc (r_6.1 : (List Int))] (ta_cons (v := (encO (.at 10 [0]) (r_9.1 : NL Int))) rfl ok_encP (erase_encO (o := r_9.1)) (ta_cons (v := (Enc.enc (r_6.1 : List Int))) rfl rfl (Enc.erase_enc (r_6.1 : (List Int))) ta_nil)) (H.c19 _ _ _ E_r_31) H.g19 rfl rfl rfl rfl ?_
      refine g_v1 (t := 45) (u := (.bool r_31)) (.bool (!r_31)) rfl rfl rfl ?_
      refine g_v1 (t := 46) (u := (.bool (!r_31))) (.bool (!r_31)) rfl rfl rfl ?_
      refine split_on (c := (!r_31)) h (fun hg5 h => ?_) (fun hg5 h => ?_)
      · refine g_no (Eq.trans (b := .bool (!r_31)) rfl (congrArg V.bool hg5)) ?_
        refine g_no (Eq.trans (b := .bool (!r_31)) rfl (congrArg V.bool hg5)) ?_
        refine g_no (Eq.trans (b := .bool (!r_31)) rfl (congrArg V.bool hg5)) ?_
        refine g_v2 (t1 := 47) (t2 := 50) (u1 := (.bool true)) (u2 := (.tup [])) (.bool true) (Eq.trans (b := .bool (!r_31)) rfl (congrArg V.bool hg5)) rfl rfl rfl ?_
        refine g_end ?_
        refine e_end ?_
        refine renew [(1, (Enc.enc (aLayout_2 : List Int))), (2, (.ref (.bx 2) 0 [] (.agg [(.int .i64 aG_1.1), (Enc.enc (aG_1.2 : List (Int × Int)))]))), (4, (.bool false)), (6, (Enc.enc (r_6.1 : List Int))), (7, (.bool r_6.2)), (8, (.ref (.bx 8) 0 [] (.agg [(.int .i64 r_7.1), (encO (.at 34 [1]) (r_7.2 : NL (Int × Int)))]))), (9, (encO (.at 9 []) (r_8 : NL Int))), (10, (encO (.at 10 [0]) (r_9.1 : NL Int))), (11, (.bool r_9.2)), (51, (.bool true))] ⟨h1, h2, h4, h6, h7, h8, h9, h10, h11, rfl⟩ ?_
        rintro s ⟨h1, h2, h4, h6, h7, h8, h9, h10, h11, h51⟩
        exact t_f8_j3 H aLayout_2 aG_1 r_6 r_7 r_8 r_9 true _ ⟨h1, h2, h4, h6, h7, h8, h9, h10, h11, h51⟩ h
      · refine g_yes (Eq.trans (b := .bool (!r_31)) rfl (congrArg V.bool hg5)) (g_v1 (t := 11) (u := (.bool r_9.2)) (.bool r_9.2) h11 rfl rfl ?_)
        refine g_yes (Eq.trans (b := .bool (!r_31)) rfl (congrArg V.bool hg5)) (g_v1 (t := 7) (u := (.bool r_6.2)) (.bool r_6.2) h7 rfl rfl ?_)
        refine g_yes (Eq.trans (b := .bool (!r_31)) rfl (congrArg V.bool hg5)) (g_v2 (t1 := 48) (t2 := 49) (u1 := (.bool r_9.2)) (u2 := (.bool r_6.2)) (.bool (r_9.2 != r_6.2)) rfl rfl rfl rfl ?_)
        refine g_v2 (t1 := 47) (t2 := 50) (u1 := (.bool false)) (u2 := (.bool (r_9.2 != r_6.2))) (.bool (r_9.2 != r_6.2)) (Eq.trans (b := .bool (!r_31)) rfl (congrArg V.bool hg5)) rfl rfl rfl ?_
        refine g_end ?_
        refine e_end ?_
        refine renew [(1, (Enc.enc (aLayout_2 : List Int))), (2, (.ref (.bx 2) 0 [] (.agg [(.int .i64 aG_1.1), (Enc.enc (aG_1.2 : List (Int × Int)))]))), (4, (.bool false)), (6, (Enc.enc (r_6.1 : List Int))), (7, (.bool r_6.2)), (8, (.ref (.bx 8) 0 [] (.agg [(.int .i64 r_7.1), (encO (.at 34 [1]) (r_7.2 : NL (Int × Int)))]))), (9, (encO (.at 9 []) (r_8 : NL Int))), (10, (encO (.at 10 [0]) (r_9.1 : NL Int))), (11, (.bool r_9.2)), (51, (.bool (r_9.2 != r_6.2)))] ⟨h1, h2, h4, h6, h7, h8, h9, h10, h11, rfl⟩ ?_
        rintro s ⟨h1, h2, h4, h6, h7, h8, h9, h10, h11, h51⟩
        exact t_f8_j3 H aLayout_2 aG_1 r_6 r_7 r_8 r_9 (r_9.2 != r_6.2) _ ⟨h1, h2, h4, h6, h7, h8, h9, h10, h11, h51⟩ h
end
def e8 (F : Nat) : Ent := ⟨8, da (fun (x : ((Int × (List (Int × Int))) × (List Int) × Unit)) => w_FnExactProgramOfLayout F x.1 x.2.1) (fun (r : Bool) => (Enc.enc (r : Bool))), 0, false, selF []⟩
theorem p8 {F : Nat} {x0 : (Int × (List (Int × Int)))} {x1 : (List Int)} {r : Bool} (h : w_FnExactProgramOfLayout F x0 x1 = some r) : (e8 F).den [Enc.enc x0, Enc.enc x1] = some (Enc.enc (r : Bool)) := da_put (f := fun (x : ((Int × (List (Int × Int))) × (List Int) × Unit)) => w_FnExactProgramOfLayout F x.1 x.2.1) (t := fun (r : Bool) => (Enc.enc (r : Bool))) (x0, x1, ()) h
theorem o8 {D : Den} {σ : Sig} {F : Nat} (hF : Fits2 Try.prog D σ) (H : H8 D σ F) : (e8 F).Ok Try.prog := by
  refine ok_of (f := 8) (show unk 8 = 8 from rfl) (fun args r h => ?_) ⟨Try.f8, Try.func8, rfl, rfl⟩
  obtain ⟨⟨x0, x1, _⟩, y, rfl, hy, rfl⟩ := da_open h
  exact contract_run hF (by kernel_rfl) Try.func8 rfl c8 (show 2 ≤ Try.f8.ntmps by decide) (t8 H x0 x1 _ ⟨rfl, rfl⟩ hy)
end Go.Zq
