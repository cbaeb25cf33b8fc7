/- The table of the functions' contracts. No further condition. -/
import Derived.Test.YtikifjdbaggajaaK2
import Derived.Test.YtikifjdbaggajaaProg
import Derived.Test.YtikifjdbaggajaaChecked
import Derived.KernelRfl
import Derived.Test.YtikifjdbaggajaaG2
set_option linter.unusedVariables false
set_option linter.unusedSimpArgs false
/- Functions of the program, as typed functions, and that the machine runs as they say. -/
namespace Go.Zq
open Go.Proofs
def TGc_0 (F : Nat) : List Ent := [e29 F]
theorem FGc_0 (F : Nat) : Fits2 Try.prog (tD (TGc_0 F)) (tS (TGc_0 F)) := fits_cons (o29 fits_nil ⟨⟩) fits_nil
def TGc_1 (F : Nat) : List Ent := e9 F :: TGc_0 F
theorem FGc_1 (F : Nat) : Fits2 Try.prog (tD (TGc_1 F)) (tS (TGc_1 F)) := fits_cons (o9 (FGc_0 F) ⟨fun _ _ r h => dn2_put h, rfl⟩) (FGc_0 F)
def TGc_2 (F : Nat) : List Ent := e59 F :: TGc_1 F
theorem FGc_2 (F : Nat) : Fits2 Try.prog (tD (TGc_2 F)) (tS (TGc_2 F)) := fits_cons (o59 (FGc_1 F) ⟨⟩) (FGc_1 F)
def TGc_3 (F : Nat) : List Ent := e32 F :: TGc_2 F
theorem FGc_3 (F : Nat) : Fits2 Try.prog (tD (TGc_3 F)) (tS (TGc_3 F)) := fits_cons (o32 (FGc_2 F) ⟨fun _ r h => dn1_put h, rfl⟩) (FGc_2 F)
def TGc_4 (F : Nat) : List Ent := e11 F :: TGc_3 F
theorem FGc_4 (F : Nat) : Fits2 Try.prog (tD (TGc_4 F)) (tS (TGc_4 F)) := fits_cons (o11 (FGc_3 F) ⟨fun _ r h => dn1_put h, rfl⟩) (FGc_3 F)
def TGc_5 (F : Nat) : List Ent := e12 F :: TGc_4 F
theorem FGc_5 (F : Nat) : Fits2 Try.prog (tD (TGc_5 F)) (tS (TGc_5 F)) := fits_cons (o12 (FGc_4 F) ⟨⟩) (FGc_4 F)
def TGc_6 (F : Nat) : List Ent := e56 F :: TGc_5 F
theorem FGc_6 (F : Nat) : Fits2 Try.prog (tD (TGc_6 F)) (tS (TGc_6 F)) := fits_cons (o56 (FGc_5 F) ⟨⟩) (FGc_5 F)
def TGc_7 (F : Nat) : List Ent := e57 F :: TGc_6 F
theorem FGc_7 (F : Nat) : Fits2 Try.prog (tD (TGc_7 F)) (tS (TGc_7 F)) := fits_cons (o57 (FGc_6 F) ⟨⟩) (FGc_6 F)
def TGc_8 (F : Nat) : List Ent := e30 F :: TGc_7 F
theorem FGc_8 (F : Nat) : Fits2 Try.prog (tD (TGc_8 F)) (tS (TGc_8 F)) := fits_cons (o30 (FGc_7 F) ⟨fun _ _ _ r h => dn3_put h, rfl, fun _ _ r h => dn2_put h, rfl⟩) (FGc_7 F)
def TGc_9 (F : Nat) : List Ent := e65 F :: TGc_8 F
theorem FGc_9 (F : Nat) : Fits2 Try.prog (tD (TGc_9 F)) (tS (TGc_9 F)) := fits_cons (o65 (FGc_8 F) ⟨⟩) (FGc_8 F)
def TGc_10 (F : Nat) : List Ent := e66 F :: TGc_9 F
theorem FGc_10 (F : Nat) : Fits2 Try.prog (tD (TGc_10 F)) (tS (TGc_10 F)) := fits_cons (o66 (FGc_9 F) ⟨⟩) (FGc_9 F)
def TGc_11 (F : Nat) : List Ent := e36 F :: TGc_10 F
theorem FGc_11 (F : Nat) : Fits2 Try.prog (tD (TGc_11 F)) (tS (TGc_11 F)) := fits_cons (o36 (FGc_10 F) ⟨fun _ _ _ r h => dn3_put h, rfl, fun _ _ r h => dn2_put h, rfl, fun _ _ r h => dn2_put h, rfl⟩) (FGc_10 F)
def TGc_12 (F : Nat) : List Ent := e16 F :: TGc_11 F
theorem FGc_12 (F : Nat) : Fits2 Try.prog (tD (TGc_12 F)) (tS (TGc_12 F)) := fits_cons (o16 (FGc_11 F) ⟨fun _ r h => dn1_put h, rfl, fun _ _ r h => dn2_put h, rfl⟩) (FGc_11 F)
def TGc_13 (F : Nat) : List Ent := e60 F :: TGc_12 F
theorem FGc_13 (F : Nat) : Fits2 Try.prog (tD (TGc_13 F)) (tS (TGc_13 F)) := fits_cons (o60 (FGc_12 F) ⟨⟩) (FGc_12 F)
def TGc_14 (F : Nat) : List Ent := e80 F :: TGc_13 F
theorem FGc_14 (F : Nat) : Fits2 Try.prog (tD (TGc_14 F)) (tS (TGc_14 F)) := fits_cons (o80 (FGc_13 F) ⟨⟩) (FGc_13 F)
def TGc_15 (F : Nat) : List Ent := e78 F :: TGc_14 F
theorem FGc_15 (F : Nat) : Fits2 Try.prog (tD (TGc_15 F)) (tS (TGc_15 F)) := fits_cons (o78 (FGc_14 F) ⟨fun _ r h => dn1_put h, rfl⟩) (FGc_14 F)
def TGc_16 (F : Nat) : List Ent := e61 F :: TGc_15 F
theorem FGc_16 (F : Nat) : Fits2 Try.prog (tD (TGc_16 F)) (tS (TGc_16 F)) := fits_cons (o61 (FGc_15 F) ⟨fun _ _ r h => dn2_put h, rfl⟩) (FGc_15 F)
def TGc_17 (F : Nat) : List Ent := e33 F :: TGc_16 F
theorem FGc_17 (F : Nat) : Fits2 Try.prog (tD (TGc_17 F)) (tS (TGc_17 F)) := fits_cons (o33 (FGc_16 F) ⟨fun _ _ _ r h => dn3_put h, rfl, fun _ _ r h => dn2_put h, rfl⟩) (FGc_16 F)
def TGc_18 (F : Nat) : List Ent := e62 F :: TGc_17 F
theorem FGc_18 (F : Nat) : Fits2 Try.prog (tD (TGc_18 F)) (tS (TGc_18 F)) := fits_cons (o62 (FGc_17 F) ⟨fun _ _ _ r h => dn3_put h, rfl⟩) (FGc_17 F)
def TGc_19 (F : Nat) : List Ent := e37 F :: TGc_18 F
theorem FGc_19 (F : Nat) : Fits2 Try.prog (tD (TGc_19 F)) (tS (TGc_19 F)) := fits_cons (o37 (FGc_18 F) ⟨fun _ _ _ r h => dn3_put h, rfl⟩) (FGc_18 F)
def TGc_20 (F : Nat) : List Ent := e17 F :: TGc_19 F
theorem FGc_20 (F : Nat) : Fits2 Try.prog (tD (TGc_20 F)) (tS (TGc_20 F)) := fits_cons (o17 (FGc_19 F) ⟨fun _ r h => dn1_put h, rfl, fun _ _ r h => dn2_put h, rfl⟩) (FGc_19 F)
def TGc_21 (F : Nat) : List Ent := e64 F :: TGc_20 F
theorem FGc_21 (F : Nat) : Fits2 Try.prog (tD (TGc_21 F)) (tS (TGc_21 F)) := fits_cons (o64 (FGc_20 F) ⟨⟩) (FGc_20 F)
def TGc_22 (F : Nat) : List Ent := e35 F :: TGc_21 F
theorem FGc_22 (F : Nat) : Fits2 Try.prog (tD (TGc_22 F)) (tS (TGc_22 F)) := fits_cons (o35 (FGc_21 F) ⟨fun _ _ r h => dn2_put h, rfl⟩) (FGc_21 F)
def TGc_23 (F : Nat) : List Ent := e14 F :: TGc_22 F
theorem FGc_23 (F : Nat) : Fits2 Try.prog (tD (TGc_23 F)) (tS (TGc_23 F)) := fits_cons (o14 (FGc_22 F) ⟨fun _ _ r h => dn2_put h, rfl⟩) (FGc_22 F)
def TGc_24 (F : Nat) : List Ent := e15 F :: TGc_23 F
theorem FGc_24 (F : Nat) : Fits2 Try.prog (tD (TGc_24 F)) (tS (TGc_24 F)) := fits_cons (o15 (FGc_23 F) ⟨⟩) (FGc_23 F)
def TGc_25 (F : Nat) : List Ent := e4 F :: TGc_24 F
theorem FGc_25 (F : Nat) : Fits2 Try.prog (tD (TGc_25 F)) (tS (TGc_25 F)) := fits_cons (o4 (FGc_24 F) ⟨fun _ _ r h => dn2_put h, rfl, fun _ r h => dn1_put h, rfl, fun _ r h => dn1_put h, rfl, fun _ _ r h => dn2_put h, rfl, fun _ _ r h => dn2_put h, rfl, fun _ _ r h => dn2_put h, rfl, fun _ _ r h => dn2_put h, rfl⟩) (FGc_24 F)
theorem law4 (F : Nat) (x0 : (Int × (List (Int × Int)))) (x1 : (List Int)) (h : w_FnExactIsForest F x0 x1 = some true) : Contract Try.prog 4 0 false [Enc.enc x0, Enc.enc x1] (.bool true) := (FGc_25 F).con 4 _ _ 0 false (dn2_put h) rfl
end Go.Zq
