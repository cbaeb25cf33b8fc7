/- The table of the functions' contracts. No further condition. -/
import Derived.Test.YtikifjdbaggajaaK2
import Derived.Test.YtikifjdbaggajaaProg
import Derived.Test.YtikifjdbaggajaaChecked
import Derived.KernelRfl
import Derived.Test.YtikifjdbaggajaaG2
set_option linter.unusedVariables false
set_option linter.unusedSimpArgs false
/- Functions of the program, as typed functions, and that the machine runs as they say. -/
namespace Go.Zq
open Go.Proofs
def TGd_0 (F : Nat) : List Ent := [e29 F]
theorem FGd_0 (F : Nat) : Fits2 Try.prog (tD (TGd_0 F)) (tS (TGd_0 F)) := fits_cons (o29 fits_nil ⟨⟩) fits_nil
def TGd_1 (F : Nat) : List Ent := e9 F :: TGd_0 F
theorem FGd_1 (F : Nat) : Fits2 Try.prog (tD (TGd_1 F)) (tS (TGd_1 F)) := fits_cons (o9 (FGd_0 F) ⟨fun _ _ r h => dn2_put h, rfl⟩) (FGd_0 F)
def TGd_2 (F : Nat) : List Ent := e59 F :: TGd_1 F
theorem FGd_2 (F : Nat) : Fits2 Try.prog (tD (TGd_2 F)) (tS (TGd_2 F)) := fits_cons (o59 (FGd_1 F) ⟨⟩) (FGd_1 F)
def TGd_3 (F : Nat) : List Ent := e32 F :: TGd_2 F
theorem FGd_3 (F : Nat) : Fits2 Try.prog (tD (TGd_3 F)) (tS (TGd_3 F)) := fits_cons (o32 (FGd_2 F) ⟨fun _ r h => dn1_put h, rfl⟩) (FGd_2 F)
def TGd_4 (F : Nat) : List Ent := e11 F :: TGd_3 F
theorem FGd_4 (F : Nat) : Fits2 Try.prog (tD (TGd_4 F)) (tS (TGd_4 F)) := fits_cons (o11 (FGd_3 F) ⟨fun _ r h => dn1_put h, rfl⟩) (FGd_3 F)
def TGd_5 (F : Nat) : List Ent := e12 F :: TGd_4 F
theorem FGd_5 (F : Nat) : Fits2 Try.prog (tD (TGd_5 F)) (tS (TGd_5 F)) := fits_cons (o12 (FGd_4 F) ⟨⟩) (FGd_4 F)
def TGd_6 (F : Nat) : List Ent := e56 F :: TGd_5 F
theorem FGd_6 (F : Nat) : Fits2 Try.prog (tD (TGd_6 F)) (tS (TGd_6 F)) := fits_cons (o56 (FGd_5 F) ⟨⟩) (FGd_5 F)
def TGd_7 (F : Nat) : List Ent := e57 F :: TGd_6 F
theorem FGd_7 (F : Nat) : Fits2 Try.prog (tD (TGd_7 F)) (tS (TGd_7 F)) := fits_cons (o57 (FGd_6 F) ⟨⟩) (FGd_6 F)
def TGd_8 (F : Nat) : List Ent := e30 F :: TGd_7 F
theorem FGd_8 (F : Nat) : Fits2 Try.prog (tD (TGd_8 F)) (tS (TGd_8 F)) := fits_cons (o30 (FGd_7 F) ⟨fun _ _ _ r h => dn3_put h, rfl, fun _ _ r h => dn2_put h, rfl⟩) (FGd_7 F)
def TGd_9 (F : Nat) : List Ent := e66 F :: TGd_8 F
theorem FGd_9 (F : Nat) : Fits2 Try.prog (tD (TGd_9 F)) (tS (TGd_9 F)) := fits_cons (o66 (FGd_8 F) ⟨⟩) (FGd_8 F)
def TGd_10 (F : Nat) : List Ent := e58 F :: TGd_9 F
theorem FGd_10 (F : Nat) : Fits2 Try.prog (tD (TGd_10 F)) (tS (TGd_10 F)) := fits_cons (o58 (FGd_9 F) ⟨fun _ _ r h => dn2_put h, rfl⟩) (FGd_9 F)
def TGd_11 (F : Nat) : List Ent := e38 F :: TGd_10 F
theorem FGd_11 (F : Nat) : Fits2 Try.prog (tD (TGd_11 F)) (tS (TGd_11 F)) := fits_cons (o38 (FGd_10 F) ⟨fun _ r h => dn1_put h, rfl, fun _ _ r h => dn2_put h, rfl⟩) (FGd_10 F)
def TGd_12 (F : Nat) : List Ent := e67 F :: TGd_11 F
theorem FGd_12 (F : Nat) : Fits2 Try.prog (tD (TGd_12 F)) (tS (TGd_12 F)) := fits_cons (o67 (FGd_11 F) ⟨⟩) (FGd_11 F)
def TGd_13 (F : Nat) : List Ent := e45 F :: TGd_12 F
theorem FGd_13 (F : Nat) : Fits2 Try.prog (tD (TGd_13 F)) (tS (TGd_13 F)) := fits_cons (o45 (FGd_12 F) ⟨⟩) (FGd_12 F)
def TGd_14 (F : Nat) : List Ent := e39 F :: TGd_13 F
theorem FGd_14 (F : Nat) : Fits2 Try.prog (tD (TGd_14 F)) (tS (TGd_14 F)) := fits_cons (o39 (FGd_13 F) ⟨fun _ _ r h => dn2_put h, rfl, fun _ _ r h => dn2_put h, rfl⟩) (FGd_13 F)
def TGd_15 (F : Nat) : List Ent := e18 F :: TGd_14 F
theorem FGd_15 (F : Nat) : Fits2 Try.prog (tD (TGd_15 F)) (tS (TGd_15 F)) := fits_cons (o18 (FGd_14 F) ⟨fun _ _ r h => dn2_put h, rfl, fun _ _ r h => dn2_put h, rfl⟩) (FGd_14 F)
def TGd_16 (F : Nat) : List Ent := e60 F :: TGd_15 F
theorem FGd_16 (F : Nat) : Fits2 Try.prog (tD (TGd_16 F)) (tS (TGd_16 F)) := fits_cons (o60 (FGd_15 F) ⟨⟩) (FGd_15 F)
def TGd_17 (F : Nat) : List Ent := e80 F :: TGd_16 F
theorem FGd_17 (F : Nat) : Fits2 Try.prog (tD (TGd_17 F)) (tS (TGd_17 F)) := fits_cons (o80 (FGd_16 F) ⟨⟩) (FGd_16 F)
def TGd_18 (F : Nat) : List Ent := e78 F :: TGd_17 F
theorem FGd_18 (F : Nat) : Fits2 Try.prog (tD (TGd_18 F)) (tS (TGd_18 F)) := fits_cons (o78 (FGd_17 F) ⟨fun _ r h => dn1_put h, rfl⟩) (FGd_17 F)
def TGd_19 (F : Nat) : List Ent := e61 F :: TGd_18 F
theorem FGd_19 (F : Nat) : Fits2 Try.prog (tD (TGd_19 F)) (tS (TGd_19 F)) := fits_cons (o61 (FGd_18 F) ⟨fun _ _ r h => dn2_put h, rfl⟩) (FGd_18 F)
def TGd_20 (F : Nat) : List Ent := e33 F :: TGd_19 F
theorem FGd_20 (F : Nat) : Fits2 Try.prog (tD (TGd_20 F)) (tS (TGd_20 F)) := fits_cons (o33 (FGd_19 F) ⟨fun _ _ _ r h => dn3_put h, rfl, fun _ _ r h => dn2_put h, rfl⟩) (FGd_19 F)
def TGd_21 (F : Nat) : List Ent := e62 F :: TGd_20 F
theorem FGd_21 (F : Nat) : Fits2 Try.prog (tD (TGd_21 F)) (tS (TGd_21 F)) := fits_cons (o62 (FGd_20 F) ⟨fun _ _ _ r h => dn3_put h, rfl⟩) (FGd_20 F)
def TGd_22 (F : Nat) : List Ent := e63 F :: TGd_21 F
theorem FGd_22 (F : Nat) : Fits2 Try.prog (tD (TGd_22 F)) (tS (TGd_22 F)) := fits_cons (o63 (FGd_21 F) ⟨⟩) (FGd_21 F)
def TGd_23 (F : Nat) : List Ent := e34 F :: TGd_22 F
theorem FGd_23 (F : Nat) : Fits2 Try.prog (tD (TGd_23 F)) (tS (TGd_23 F)) := fits_cons (o34 (FGd_22 F) ⟨fun _ _ _ r h => dn3_put h, rfl, fun _ r h => dn1_put h, rfl⟩) (FGd_22 F)
def TGd_24 (F : Nat) : List Ent := e40 F :: TGd_23 F
theorem FGd_24 (F : Nat) : Fits2 Try.prog (tD (TGd_24 F)) (tS (TGd_24 F)) := fits_cons (o40 (FGd_23 F) ⟨⟩) (FGd_23 F)
def TGd_25 (F : Nat) : List Ent := e19 F :: TGd_24 F
theorem FGd_25 (F : Nat) : Fits2 Try.prog (tD (TGd_25 F)) (tS (TGd_25 F)) := fits_cons (o19 (FGd_24 F) ⟨fun _ r h => dn1_put h, rfl, fun _ _ r h => dn2_put h, rfl, fun _ _ r h => dn2_put h, rfl⟩) (FGd_24 F)
def TGd_26 (F : Nat) : List Ent := e64 F :: TGd_25 F
theorem FGd_26 (F : Nat) : Fits2 Try.prog (tD (TGd_26 F)) (tS (TGd_26 F)) := fits_cons (o64 (FGd_25 F) ⟨⟩) (FGd_25 F)
def TGd_27 (F : Nat) : List Ent := e35 F :: TGd_26 F
theorem FGd_27 (F : Nat) : Fits2 Try.prog (tD (TGd_27 F)) (tS (TGd_27 F)) := fits_cons (o35 (FGd_26 F) ⟨fun _ _ r h => dn2_put h, rfl⟩) (FGd_26 F)
def TGd_28 (F : Nat) : List Ent := e14 F :: TGd_27 F
theorem FGd_28 (F : Nat) : Fits2 Try.prog (tD (TGd_28 F)) (tS (TGd_28 F)) := fits_cons (o14 (FGd_27 F) ⟨fun _ _ r h => dn2_put h, rfl⟩) (FGd_27 F)
def TGd_29 (F : Nat) : List Ent := e15 F :: TGd_28 F
theorem FGd_29 (F : Nat) : Fits2 Try.prog (tD (TGd_29 F)) (tS (TGd_29 F)) := fits_cons (o15 (FGd_28 F) ⟨⟩) (FGd_28 F)
def TGd_30 (F : Nat) : List Ent := e5 F :: TGd_29 F
theorem FGd_30 (F : Nat) : Fits2 Try.prog (tD (TGd_30 F)) (tS (TGd_30 F)) := fits_cons (o5 (FGd_29 F) ⟨fun _ _ r h => dn2_put h, rfl, fun _ r h => dn1_put h, rfl, fun _ r h => dn1_put h, rfl, fun _ _ r h => dn2_put h, rfl, fun _ _ r h => dn2_put h, rfl, fun _ _ r h => dn2_put h, rfl, fun _ _ r h => dn2_put h, rfl⟩) (FGd_29 F)
theorem law5 (F : Nat) (x0 : (Int × (List (Int × Int)))) (x1 : (List Int)) (h : w_FnExactBandwidthOf F x0 x1 = some true) : Contract Try.prog 5 0 false [Enc.enc x0, Enc.enc x1] (.bool true) := (FGd_30 F).con 5 _ _ 0 false (dn2_put h) rfl
end Go.Zq
