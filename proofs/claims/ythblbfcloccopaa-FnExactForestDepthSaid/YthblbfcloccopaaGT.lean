/- The table of the functions' contracts. No further condition. -/
import Derived.Test.YthblbfcloccopaaK2
import Derived.Test.YthblbfcloccopaaProg
import Derived.Test.YthblbfcloccopaaChecked
import Derived.KernelRfl
import Derived.Test.YthblbfcloccopaaG2
set_option linter.unusedVariables false
set_option linter.unusedSimpArgs false
/- Functions of the program, as typed functions, and that the machine runs as they say. -/
namespace Go.Zq
open Go.Proofs
def TGg_0 (F : Nat) : List Ent := [e44 F]
theorem FGg_0 (F : Nat) : Fits2 Try.prog (tD (TGg_0 F)) (tS (TGg_0 F)) := fits_cons (o44 fits_nil ⟨⟩) fits_nil
def TGg_1 (F : Nat) : List Ent := e15 F :: TGg_0 F
theorem FGg_1 (F : Nat) : Fits2 Try.prog (tD (TGg_1 F)) (tS (TGg_1 F)) := fits_cons (o15 (FGg_0 F) ⟨fun _ _ r h => dn2_put h, rfl⟩) (FGg_0 F)
def TGg_2 (F : Nat) : List Ent := e99 F :: TGg_1 F
theorem FGg_2 (F : Nat) : Fits2 Try.prog (tD (TGg_2 F)) (tS (TGg_2 F)) := fits_cons (o99 (FGg_1 F) ⟨⟩) (FGg_1 F)
def TGg_3 (F : Nat) : List Ent := e49 F :: TGg_2 F
theorem FGg_3 (F : Nat) : Fits2 Try.prog (tD (TGg_3 F)) (tS (TGg_3 F)) := fits_cons (o49 (FGg_2 F) ⟨fun _ r h => dn1_put h, rfl⟩) (FGg_2 F)
def TGg_4 (F : Nat) : List Ent := e17 F :: TGg_3 F
theorem FGg_4 (F : Nat) : Fits2 Try.prog (tD (TGg_4 F)) (tS (TGg_4 F)) := fits_cons (o17 (FGg_3 F) ⟨fun _ r h => dn1_put h, rfl⟩) (FGg_3 F)
def TGg_5 (F : Nat) : List Ent := e18 F :: TGg_4 F
theorem FGg_5 (F : Nat) : Fits2 Try.prog (tD (TGg_5 F)) (tS (TGg_5 F)) := fits_cons (o18 (FGg_4 F) ⟨⟩) (FGg_4 F)
def TGg_6 (F : Nat) : List Ent := e62 F :: TGg_5 F
theorem FGg_6 (F : Nat) : Fits2 Try.prog (tD (TGg_6 F)) (tS (TGg_6 F)) := fits_cons (o62 (FGg_5 F) ⟨⟩) (FGg_5 F)
def TGg_7 (F : Nat) : List Ent := e97 F :: TGg_6 F
theorem FGg_7 (F : Nat) : Fits2 Try.prog (tD (TGg_7 F)) (tS (TGg_7 F)) := fits_cons (o97 (FGg_6 F) ⟨⟩) (FGg_6 F)
def TGg_8 (F : Nat) : List Ent := e45 F :: TGg_7 F
theorem FGg_8 (F : Nat) : Fits2 Try.prog (tD (TGg_8 F)) (tS (TGg_8 F)) := fits_cons (o45 (FGg_7 F) ⟨fun _ _ _ r h => dn3_put h, rfl, fun _ _ r h => dn2_put h, rfl⟩) (FGg_7 F)
def TGg_9 (F : Nat) : List Ent := e48 F :: TGg_8 F
theorem FGg_9 (F : Nat) : Fits2 Try.prog (tD (TGg_9 F)) (tS (TGg_9 F)) := fits_cons (o48 (FGg_8 F) ⟨⟩) (FGg_8 F)
def TGg_10 (F : Nat) : List Ent := e98 F :: TGg_9 F
theorem FGg_10 (F : Nat) : Fits2 Try.prog (tD (TGg_10 F)) (tS (TGg_10 F)) := fits_cons (o98 (FGg_9 F) ⟨⟩) (FGg_9 F)
def TGg_11 (F : Nat) : List Ent := e46 F :: TGg_10 F
theorem FGg_11 (F : Nat) : Fits2 Try.prog (tD (TGg_11 F)) (tS (TGg_11 F)) := fits_cons (o46 (FGg_10 F) ⟨fun _ _ _ r h => dn3_put h, rfl, fun _ _ r h => dn2_put h, rfl, fun _ _ r h => dn2_put h, rfl⟩) (FGg_10 F)
def TGg_12 (F : Nat) : List Ent := e47 F :: TGg_11 F
theorem FGg_12 (F : Nat) : Fits2 Try.prog (tD (TGg_12 F)) (tS (TGg_12 F)) := fits_cons (o47 (FGg_11 F) ⟨⟩) (FGg_11 F)
def TGg_13 (F : Nat) : List Ent := e16 F :: TGg_12 F
theorem FGg_13 (F : Nat) : Fits2 Try.prog (tD (TGg_13 F)) (tS (TGg_13 F)) := fits_cons (o16 (FGg_12 F) ⟨fun _ r h => dn1_put h, rfl, fun _ _ r h => dn2_put h, rfl, fun _ _ r h => dn2_put h, rfl, fun _ _ r h => dn2_put h, rfl⟩) (FGg_12 F)
def TGg_14 (F : Nat) : List Ent := e66 F :: TGg_13 F
theorem FGg_14 (F : Nat) : Fits2 Try.prog (tD (TGg_14 F)) (tS (TGg_14 F)) := fits_cons (o66 (FGg_13 F) ⟨⟩) (FGg_13 F)
def TGg_15 (F : Nat) : List Ent := e141 F :: TGg_14 F
theorem FGg_15 (F : Nat) : Fits2 Try.prog (tD (TGg_15 F)) (tS (TGg_15 F)) := fits_cons (o141 (FGg_14 F) ⟨⟩) (FGg_14 F)
def TGg_16 (F : Nat) : List Ent := e131 F :: TGg_15 F
theorem FGg_16 (F : Nat) : Fits2 Try.prog (tD (TGg_16 F)) (tS (TGg_16 F)) := fits_cons (o131 (FGg_15 F) ⟨fun _ r h => dn1_put h, rfl⟩) (FGg_15 F)
def TGg_17 (F : Nat) : List Ent := e100 F :: TGg_16 F
theorem FGg_17 (F : Nat) : Fits2 Try.prog (tD (TGg_17 F)) (tS (TGg_17 F)) := fits_cons (o100 (FGg_16 F) ⟨fun _ _ r h => dn2_put h, rfl⟩) (FGg_16 F)
def TGg_18 (F : Nat) : List Ent := e50 F :: TGg_17 F
theorem FGg_18 (F : Nat) : Fits2 Try.prog (tD (TGg_18 F)) (tS (TGg_18 F)) := fits_cons (o50 (FGg_17 F) ⟨fun _ _ _ r h => dn3_put h, rfl, fun _ _ r h => dn2_put h, rfl⟩) (FGg_17 F)
def TGg_19 (F : Nat) : List Ent := e101 F :: TGg_18 F
theorem FGg_19 (F : Nat) : Fits2 Try.prog (tD (TGg_19 F)) (tS (TGg_19 F)) := fits_cons (o101 (FGg_18 F) ⟨fun _ _ _ r h => dn3_put h, rfl⟩) (FGg_18 F)
def TGg_20 (F : Nat) : List Ent := e51 F :: TGg_19 F
theorem FGg_20 (F : Nat) : Fits2 Try.prog (tD (TGg_20 F)) (tS (TGg_20 F)) := fits_cons (o51 (FGg_19 F) ⟨fun _ _ _ r h => dn3_put h, rfl⟩) (FGg_19 F)
def TGg_21 (F : Nat) : List Ent := e103 F :: TGg_20 F
theorem FGg_21 (F : Nat) : Fits2 Try.prog (tD (TGg_21 F)) (tS (TGg_21 F)) := fits_cons (o103 (FGg_20 F) ⟨⟩) (FGg_20 F)
def TGg_22 (F : Nat) : List Ent := e52 F :: TGg_21 F
theorem FGg_22 (F : Nat) : Fits2 Try.prog (tD (TGg_22 F)) (tS (TGg_22 F)) := fits_cons (o52 (FGg_21 F) ⟨fun _ r h => dn1_put h, rfl⟩) (FGg_21 F)
def TGg_23 (F : Nat) : List Ent := e19 F :: TGg_22 F
theorem FGg_23 (F : Nat) : Fits2 Try.prog (tD (TGg_23 F)) (tS (TGg_23 F)) := fits_cons (o19 (FGg_22 F) ⟨fun _ r h => dn1_put h, rfl, fun _ _ r h => dn2_put h, rfl, fun _ r h => dn1_put h, rfl⟩) (FGg_22 F)
def TGg_24 (F : Nat) : List Ent := e104 F :: TGg_23 F
theorem FGg_24 (F : Nat) : Fits2 Try.prog (tD (TGg_24 F)) (tS (TGg_24 F)) := fits_cons (o104 (FGg_23 F) ⟨⟩) (FGg_23 F)
def TGg_25 (F : Nat) : List Ent := e53 F :: TGg_24 F
theorem FGg_25 (F : Nat) : Fits2 Try.prog (tD (TGg_25 F)) (tS (TGg_25 F)) := fits_cons (o53 (FGg_24 F) ⟨fun _ _ r h => dn2_put h, rfl⟩) (FGg_24 F)
def TGg_26 (F : Nat) : List Ent := e20 F :: TGg_25 F
theorem FGg_26 (F : Nat) : Fits2 Try.prog (tD (TGg_26 F)) (tS (TGg_26 F)) := fits_cons (o20 (FGg_25 F) ⟨fun _ _ r h => dn2_put h, rfl⟩) (FGg_25 F)
def TGg_27 (F : Nat) : List Ent := e21 F :: TGg_26 F
theorem FGg_27 (F : Nat) : Fits2 Try.prog (tD (TGg_27 F)) (tS (TGg_27 F)) := fits_cons (o21 (FGg_26 F) ⟨⟩) (FGg_26 F)
def TGg_28 (F : Nat) : List Ent := e3 F :: TGg_27 F
theorem FGg_28 (F : Nat) : Fits2 Try.prog (tD (TGg_28 F)) (tS (TGg_28 F)) := fits_cons (o3 (FGg_27 F) ⟨fun _ _ r h => dn2_put h, rfl, fun _ r h => dn1_put h, rfl, fun _ r h => dn1_put h, rfl, fun _ _ r h => dn2_put h, rfl, fun _ _ r h => dn2_put h, rfl, fun _ _ r h => dn2_put h, rfl, fun _ _ r h => dn2_put h, rfl⟩) (FGg_27 F)
theorem law3 (F : Nat) (x0 : (Int × (List (Int × Int)))) (x1 : (List Int)) (h : w_FnExactForestDepth F x0 x1 = some true) : Contract Try.prog 3 0 false [Enc.enc x0, Enc.enc x1] (.bool true) := (FGg_28 F).con 3 _ _ 0 false (dn2_put h) rfl
end Go.Zq
