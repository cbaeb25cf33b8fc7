/- The table of the functions' contracts. No further condition. -/
import Derived.Test.YtikifjdbaggajaaK2
import Derived.Test.YtikifjdbaggajaaProg
import Derived.Test.YtikifjdbaggajaaChecked
import Derived.KernelRfl
import Derived.Test.YtikifjdbaggajaaG2
set_option linter.unusedVariables false
set_option linter.unusedSimpArgs false
/- Functions of the program, as typed functions, and that the machine runs as they say. -/
namespace Go.Zq
open Go.Proofs
def TGa_0 (F : Nat) : List Ent := [e29 F]
theorem FGa_0 (F : Nat) : Fits2 Try.prog (tD (TGa_0 F)) (tS (TGa_0 F)) := fits_cons (o29 fits_nil ⟨⟩) fits_nil
def TGa_1 (F : Nat) : List Ent := e9 F :: TGa_0 F
theorem FGa_1 (F : Nat) : Fits2 Try.prog (tD (TGa_1 F)) (tS (TGa_1 F)) := fits_cons (o9 (FGa_0 F) ⟨fun _ _ r h => dn2_put h, rfl⟩) (FGa_0 F)
def TGa_2 (F : Nat) : List Ent := e59 F :: TGa_1 F
theorem FGa_2 (F : Nat) : Fits2 Try.prog (tD (TGa_2 F)) (tS (TGa_2 F)) := fits_cons (o59 (FGa_1 F) ⟨⟩) (FGa_1 F)
def TGa_3 (F : Nat) : List Ent := e32 F :: TGa_2 F
theorem FGa_3 (F : Nat) : Fits2 Try.prog (tD (TGa_3 F)) (tS (TGa_3 F)) := fits_cons (o32 (FGa_2 F) ⟨fun _ r h => dn1_put h, rfl⟩) (FGa_2 F)
def TGa_4 (F : Nat) : List Ent := e11 F :: TGa_3 F
theorem FGa_4 (F : Nat) : Fits2 Try.prog (tD (TGa_4 F)) (tS (TGa_4 F)) := fits_cons (o11 (FGa_3 F) ⟨fun _ r h => dn1_put h, rfl⟩) (FGa_3 F)
def TGa_5 (F : Nat) : List Ent := e12 F :: TGa_4 F
theorem FGa_5 (F : Nat) : Fits2 Try.prog (tD (TGa_5 F)) (tS (TGa_5 F)) := fits_cons (o12 (FGa_4 F) ⟨⟩) (FGa_4 F)
def TGa_6 (F : Nat) : List Ent := e56 F :: TGa_5 F
theorem FGa_6 (F : Nat) : Fits2 Try.prog (tD (TGa_6 F)) (tS (TGa_6 F)) := fits_cons (o56 (FGa_5 F) ⟨⟩) (FGa_5 F)
def TGa_7 (F : Nat) : List Ent := e57 F :: TGa_6 F
theorem FGa_7 (F : Nat) : Fits2 Try.prog (tD (TGa_7 F)) (tS (TGa_7 F)) := fits_cons (o57 (FGa_6 F) ⟨⟩) (FGa_6 F)
def TGa_8 (F : Nat) : List Ent := e30 F :: TGa_7 F
theorem FGa_8 (F : Nat) : Fits2 Try.prog (tD (TGa_8 F)) (tS (TGa_8 F)) := fits_cons (o30 (FGa_7 F) ⟨fun _ _ _ r h => dn3_put h, rfl, fun _ _ r h => dn2_put h, rfl⟩) (FGa_7 F)
def TGa_9 (F : Nat) : List Ent := e66 F :: TGa_8 F
theorem FGa_9 (F : Nat) : Fits2 Try.prog (tD (TGa_9 F)) (tS (TGa_9 F)) := fits_cons (o66 (FGa_8 F) ⟨⟩) (FGa_8 F)
def TGa_10 (F : Nat) : List Ent := e58 F :: TGa_9 F
theorem FGa_10 (F : Nat) : Fits2 Try.prog (tD (TGa_10 F)) (tS (TGa_10 F)) := fits_cons (o58 (FGa_9 F) ⟨fun _ _ r h => dn2_put h, rfl⟩) (FGa_9 F)
def TGa_11 (F : Nat) : List Ent := e31 F :: TGa_10 F
theorem FGa_11 (F : Nat) : Fits2 Try.prog (tD (TGa_11 F)) (tS (TGa_11 F)) := fits_cons (o31 (FGa_10 F) ⟨fun _ _ r h => dn2_put h, rfl⟩) (FGa_10 F)
def TGa_12 (F : Nat) : List Ent := e10 F :: TGa_11 F
theorem FGa_12 (F : Nat) : Fits2 Try.prog (tD (TGa_12 F)) (tS (TGa_12 F)) := fits_cons (o10 (FGa_11 F) ⟨fun _ r h => dn1_put h, rfl, fun _ _ r h => dn2_put h, rfl⟩) (FGa_11 F)
def TGa_13 (F : Nat) : List Ent := e60 F :: TGa_12 F
theorem FGa_13 (F : Nat) : Fits2 Try.prog (tD (TGa_13 F)) (tS (TGa_13 F)) := fits_cons (o60 (FGa_12 F) ⟨⟩) (FGa_12 F)
def TGa_14 (F : Nat) : List Ent := e80 F :: TGa_13 F
theorem FGa_14 (F : Nat) : Fits2 Try.prog (tD (TGa_14 F)) (tS (TGa_14 F)) := fits_cons (o80 (FGa_13 F) ⟨⟩) (FGa_13 F)
def TGa_15 (F : Nat) : List Ent := e78 F :: TGa_14 F
theorem FGa_15 (F : Nat) : Fits2 Try.prog (tD (TGa_15 F)) (tS (TGa_15 F)) := fits_cons (o78 (FGa_14 F) ⟨fun _ r h => dn1_put h, rfl⟩) (FGa_14 F)
def TGa_16 (F : Nat) : List Ent := e61 F :: TGa_15 F
theorem FGa_16 (F : Nat) : Fits2 Try.prog (tD (TGa_16 F)) (tS (TGa_16 F)) := fits_cons (o61 (FGa_15 F) ⟨fun _ _ r h => dn2_put h, rfl⟩) (FGa_15 F)
def TGa_17 (F : Nat) : List Ent := e33 F :: TGa_16 F
theorem FGa_17 (F : Nat) : Fits2 Try.prog (tD (TGa_17 F)) (tS (TGa_17 F)) := fits_cons (o33 (FGa_16 F) ⟨fun _ _ _ r h => dn3_put h, rfl, fun _ _ r h => dn2_put h, rfl⟩) (FGa_16 F)
def TGa_18 (F : Nat) : List Ent := e62 F :: TGa_17 F
theorem FGa_18 (F : Nat) : Fits2 Try.prog (tD (TGa_18 F)) (tS (TGa_18 F)) := fits_cons (o62 (FGa_17 F) ⟨fun _ _ _ r h => dn3_put h, rfl⟩) (FGa_17 F)
def TGa_19 (F : Nat) : List Ent := e63 F :: TGa_18 F
theorem FGa_19 (F : Nat) : Fits2 Try.prog (tD (TGa_19 F)) (tS (TGa_19 F)) := fits_cons (o63 (FGa_18 F) ⟨⟩) (FGa_18 F)
def TGa_20 (F : Nat) : List Ent := e34 F :: TGa_19 F
theorem FGa_20 (F : Nat) : Fits2 Try.prog (tD (TGa_20 F)) (tS (TGa_20 F)) := fits_cons (o34 (FGa_19 F) ⟨fun _ _ _ r h => dn3_put h, rfl, fun _ r h => dn1_put h, rfl⟩) (FGa_19 F)
def TGa_21 (F : Nat) : List Ent := e13 F :: TGa_20 F
theorem FGa_21 (F : Nat) : Fits2 Try.prog (tD (TGa_21 F)) (tS (TGa_21 F)) := fits_cons (o13 (FGa_20 F) ⟨fun _ r h => dn1_put h, rfl, fun _ _ r h => dn2_put h, rfl⟩) (FGa_20 F)
def TGa_22 (F : Nat) : List Ent := e64 F :: TGa_21 F
theorem FGa_22 (F : Nat) : Fits2 Try.prog (tD (TGa_22 F)) (tS (TGa_22 F)) := fits_cons (o64 (FGa_21 F) ⟨⟩) (FGa_21 F)
def TGa_23 (F : Nat) : List Ent := e35 F :: TGa_22 F
theorem FGa_23 (F : Nat) : Fits2 Try.prog (tD (TGa_23 F)) (tS (TGa_23 F)) := fits_cons (o35 (FGa_22 F) ⟨fun _ _ r h => dn2_put h, rfl⟩) (FGa_22 F)
def TGa_24 (F : Nat) : List Ent := e14 F :: TGa_23 F
theorem FGa_24 (F : Nat) : Fits2 Try.prog (tD (TGa_24 F)) (tS (TGa_24 F)) := fits_cons (o14 (FGa_23 F) ⟨fun _ _ r h => dn2_put h, rfl⟩) (FGa_23 F)
def TGa_25 (F : Nat) : List Ent := e15 F :: TGa_24 F
theorem FGa_25 (F : Nat) : Fits2 Try.prog (tD (TGa_25 F)) (tS (TGa_25 F)) := fits_cons (o15 (FGa_24 F) ⟨⟩) (FGa_24 F)
def TGa_26 (F : Nat) : List Ent := e3 F :: TGa_25 F
theorem FGa_26 (F : Nat) : Fits2 Try.prog (tD (TGa_26 F)) (tS (TGa_26 F)) := fits_cons (o3 (FGa_25 F) ⟨fun _ _ r h => dn2_put h, rfl, fun _ r h => dn1_put h, rfl, fun _ r h => dn1_put h, rfl, fun _ _ r h => dn2_put h, rfl, fun _ _ r h => dn2_put h, rfl, fun _ _ r h => dn2_put h, rfl, fun _ _ r h => dn2_put h, rfl⟩) (FGa_25 F)
theorem law3 (F : Nat) (x0 : (Int × (List (Int × Int)))) (x1 : (List Int)) (h : w_FnExactIsLayout F x0 x1 = some true) : Contract Try.prog 3 0 false [Enc.enc x0, Enc.enc x1] (.bool true) := (FGa_26 F).con 3 _ _ 0 false (dn2_put h) rfl
end Go.Zq
