/- The table of the functions' contracts. No further condition. -/
import Derived.Test.YthblbfcloccopaaK2
import Derived.Test.YthblbfcloccopaaProg
import Derived.Test.YthblbfcloccopaaChecked
import Derived.KernelRfl
import Derived.Test.YthblbfcloccopaaG3
set_option linter.unusedVariables false
set_option linter.unusedSimpArgs false
/- Functions of the program, as typed functions, and that the machine runs as they say. -/
namespace Go.Zq
open Go.Proofs
def TGh_0 (F : Nat) : List Ent := [e44 F]
theorem FGh_0 (F : Nat) : Fits2 Try.prog (tD (TGh_0 F)) (tS (TGh_0 F)) := fits_cons (o44 fits_nil ⟨⟩) fits_nil
def TGh_1 (F : Nat) : List Ent := e15 F :: TGh_0 F
theorem FGh_1 (F : Nat) : Fits2 Try.prog (tD (TGh_1 F)) (tS (TGh_1 F)) := fits_cons (o15 (FGh_0 F) ⟨fun _ _ r h => dn2_put h, rfl⟩) (FGh_0 F)
def TGh_2 (F : Nat) : List Ent := e99 F :: TGh_1 F
theorem FGh_2 (F : Nat) : Fits2 Try.prog (tD (TGh_2 F)) (tS (TGh_2 F)) := fits_cons (o99 (FGh_1 F) ⟨⟩) (FGh_1 F)
def TGh_3 (F : Nat) : List Ent := e49 F :: TGh_2 F
theorem FGh_3 (F : Nat) : Fits2 Try.prog (tD (TGh_3 F)) (tS (TGh_3 F)) := fits_cons (o49 (FGh_2 F) ⟨fun _ r h => dn1_put h, rfl⟩) (FGh_2 F)
def TGh_4 (F : Nat) : List Ent := e17 F :: TGh_3 F
theorem FGh_4 (F : Nat) : Fits2 Try.prog (tD (TGh_4 F)) (tS (TGh_4 F)) := fits_cons (o17 (FGh_3 F) ⟨fun _ r h => dn1_put h, rfl⟩) (FGh_3 F)
def TGh_5 (F : Nat) : List Ent := e18 F :: TGh_4 F
theorem FGh_5 (F : Nat) : Fits2 Try.prog (tD (TGh_5 F)) (tS (TGh_5 F)) := fits_cons (o18 (FGh_4 F) ⟨⟩) (FGh_4 F)
def TGh_6 (F : Nat) : List Ent := e62 F :: TGh_5 F
theorem FGh_6 (F : Nat) : Fits2 Try.prog (tD (TGh_6 F)) (tS (TGh_6 F)) := fits_cons (o62 (FGh_5 F) ⟨⟩) (FGh_5 F)
def TGh_7 (F : Nat) : List Ent := e97 F :: TGh_6 F
theorem FGh_7 (F : Nat) : Fits2 Try.prog (tD (TGh_7 F)) (tS (TGh_7 F)) := fits_cons (o97 (FGh_6 F) ⟨⟩) (FGh_6 F)
def TGh_8 (F : Nat) : List Ent := e45 F :: TGh_7 F
theorem FGh_8 (F : Nat) : Fits2 Try.prog (tD (TGh_8 F)) (tS (TGh_8 F)) := fits_cons (o45 (FGh_7 F) ⟨fun _ _ _ r h => dn3_put h, rfl, fun _ _ r h => dn2_put h, rfl⟩) (FGh_7 F)
def TGh_9 (F : Nat) : List Ent := e98 F :: TGh_8 F
theorem FGh_9 (F : Nat) : Fits2 Try.prog (tD (TGh_9 F)) (tS (TGh_9 F)) := fits_cons (o98 (FGh_8 F) ⟨⟩) (FGh_8 F)
def TGh_10 (F : Nat) : List Ent := e108 F :: TGh_9 F
theorem FGh_10 (F : Nat) : Fits2 Try.prog (tD (TGh_10 F)) (tS (TGh_10 F)) := fits_cons (o108 (FGh_9 F) ⟨fun _ _ r h => dn2_put h, rfl⟩) (FGh_9 F)
def TGh_11 (F : Nat) : List Ent := e57 F :: TGh_10 F
theorem FGh_11 (F : Nat) : Fits2 Try.prog (tD (TGh_11 F)) (tS (TGh_11 F)) := fits_cons (o57 (FGh_10 F) ⟨fun _ r h => dn1_put h, rfl, fun _ _ r h => dn2_put h, rfl⟩) (FGh_10 F)
def TGh_12 (F : Nat) : List Ent := e109 F :: TGh_11 F
theorem FGh_12 (F : Nat) : Fits2 Try.prog (tD (TGh_12 F)) (tS (TGh_12 F)) := fits_cons (o109 (FGh_11 F) ⟨fun _ _ r h => dn2_put h, rfl⟩) (FGh_11 F)
def TGh_13 (F : Nat) : List Ent := e59 F :: TGh_12 F
theorem FGh_13 (F : Nat) : Fits2 Try.prog (tD (TGh_13 F)) (tS (TGh_13 F)) := fits_cons (o59 (FGh_12 F) ⟨fun _ _ r h => dn2_put h, rfl⟩) (FGh_12 F)
def TGh_14 (F : Nat) : List Ent := e47 F :: TGh_13 F
theorem FGh_14 (F : Nat) : Fits2 Try.prog (tD (TGh_14 F)) (tS (TGh_14 F)) := fits_cons (o47 (FGh_13 F) ⟨⟩) (FGh_13 F)
def TGh_15 (F : Nat) : List Ent := e58 F :: TGh_14 F
theorem FGh_15 (F : Nat) : Fits2 Try.prog (tD (TGh_15 F)) (tS (TGh_15 F)) := fits_cons (o58 (FGh_14 F) ⟨fun _ _ r h => dn2_put h, rfl⟩) (FGh_14 F)
def TGh_16 (F : Nat) : List Ent := e24 F :: TGh_15 F
theorem FGh_16 (F : Nat) : Fits2 Try.prog (tD (TGh_16 F)) (tS (TGh_16 F)) := fits_cons (o24 (FGh_15 F) ⟨fun _ _ r h => dn2_put h, rfl, fun _ _ r h => dn2_put h, rfl, fun _ r h => dn1_put h, rfl⟩) (FGh_15 F)
def TGh_17 (F : Nat) : List Ent := e66 F :: TGh_16 F
theorem FGh_17 (F : Nat) : Fits2 Try.prog (tD (TGh_17 F)) (tS (TGh_17 F)) := fits_cons (o66 (FGh_16 F) ⟨⟩) (FGh_16 F)
def TGh_18 (F : Nat) : List Ent := e141 F :: TGh_17 F
theorem FGh_18 (F : Nat) : Fits2 Try.prog (tD (TGh_18 F)) (tS (TGh_18 F)) := fits_cons (o141 (FGh_17 F) ⟨⟩) (FGh_17 F)
def TGh_19 (F : Nat) : List Ent := e131 F :: TGh_18 F
theorem FGh_19 (F : Nat) : Fits2 Try.prog (tD (TGh_19 F)) (tS (TGh_19 F)) := fits_cons (o131 (FGh_18 F) ⟨fun _ r h => dn1_put h, rfl⟩) (FGh_18 F)
def TGh_20 (F : Nat) : List Ent := e100 F :: TGh_19 F
theorem FGh_20 (F : Nat) : Fits2 Try.prog (tD (TGh_20 F)) (tS (TGh_20 F)) := fits_cons (o100 (FGh_19 F) ⟨fun _ _ r h => dn2_put h, rfl⟩) (FGh_19 F)
def TGh_21 (F : Nat) : List Ent := e50 F :: TGh_20 F
theorem FGh_21 (F : Nat) : Fits2 Try.prog (tD (TGh_21 F)) (tS (TGh_21 F)) := fits_cons (o50 (FGh_20 F) ⟨fun _ _ _ r h => dn3_put h, rfl, fun _ _ r h => dn2_put h, rfl⟩) (FGh_20 F)
def TGh_22 (F : Nat) : List Ent := e101 F :: TGh_21 F
theorem FGh_22 (F : Nat) : Fits2 Try.prog (tD (TGh_22 F)) (tS (TGh_22 F)) := fits_cons (o101 (FGh_21 F) ⟨fun _ _ _ r h => dn3_put h, rfl⟩) (FGh_21 F)
def TGh_23 (F : Nat) : List Ent := e88 F :: TGh_22 F
theorem FGh_23 (F : Nat) : Fits2 Try.prog (tD (TGh_23 F)) (tS (TGh_23 F)) := fits_cons (o88 (FGh_22 F) ⟨⟩) (FGh_22 F)
def TGh_24 (F : Nat) : List Ent := e60 F :: TGh_23 F
theorem FGh_24 (F : Nat) : Fits2 Try.prog (tD (TGh_24 F)) (tS (TGh_24 F)) := fits_cons (o60 (FGh_23 F) ⟨fun _ _ _ r h => dn3_put h, rfl, fun _ r h => dn1_put h, rfl⟩) (FGh_23 F)
def TGh_25 (F : Nat) : List Ent := e55 F :: TGh_24 F
theorem FGh_25 (F : Nat) : Fits2 Try.prog (tD (TGh_25 F)) (tS (TGh_25 F)) := fits_cons (o55 (FGh_24 F) ⟨⟩) (FGh_24 F)
def TGh_26 (F : Nat) : List Ent := e121 F :: TGh_25 F
theorem FGh_26 (F : Nat) : Fits2 Try.prog (tD (TGh_26 F)) (tS (TGh_26 F)) := fits_cons (o121 (FGh_25 F) ⟨⟩) (FGh_25 F)
def TGh_27 (F : Nat) : List Ent := e103 F :: TGh_26 F
theorem FGh_27 (F : Nat) : Fits2 Try.prog (tD (TGh_27 F)) (tS (TGh_27 F)) := fits_cons (o103 (FGh_26 F) ⟨⟩) (FGh_26 F)
def TGh_28 (F : Nat) : List Ent := e52 F :: TGh_27 F
theorem FGh_28 (F : Nat) : Fits2 Try.prog (tD (TGh_28 F)) (tS (TGh_28 F)) := fits_cons (o52 (FGh_27 F) ⟨fun _ r h => dn1_put h, rfl⟩) (FGh_27 F)
def TGh_29 (F : Nat) : List Ent := e110 F :: TGh_28 F
theorem FGh_29 (F : Nat) : Fits2 Try.prog (tD (TGh_29 F)) (tS (TGh_29 F)) := fits_cons (o110 (FGh_28 F) ⟨fun _ r h => dn1_put h, rfl, fun _ r h => dn1_put h, rfl⟩) (FGh_28 F)
def TGh_30 (F : Nat) : List Ent := e61 F :: TGh_29 F
theorem FGh_30 (F : Nat) : Fits2 Try.prog (tD (TGh_30 F)) (tS (TGh_30 F)) := fits_cons (o61 (FGh_29 F) ⟨fun _ _ _ r h => dn3_put h, rfl⟩) (FGh_29 F)
def TGh_31 (F : Nat) : List Ent := e25 F :: TGh_30 F
theorem FGh_31 (F : Nat) : Fits2 Try.prog (tD (TGh_31 F)) (tS (TGh_31 F)) := fits_cons (o25 (FGh_30 F) ⟨fun _ r h => dn1_put h, rfl, fun _ _ r h => dn2_put h, rfl, fun _ r h => dn1_put h, rfl, fun _ _ r h => dn2_put h, rfl⟩) (FGh_30 F)
def TGh_32 (F : Nat) : List Ent := e104 F :: TGh_31 F
theorem FGh_32 (F : Nat) : Fits2 Try.prog (tD (TGh_32 F)) (tS (TGh_32 F)) := fits_cons (o104 (FGh_31 F) ⟨⟩) (FGh_31 F)
def TGh_33 (F : Nat) : List Ent := e53 F :: TGh_32 F
theorem FGh_33 (F : Nat) : Fits2 Try.prog (tD (TGh_33 F)) (tS (TGh_33 F)) := fits_cons (o53 (FGh_32 F) ⟨fun _ _ r h => dn2_put h, rfl⟩) (FGh_32 F)
def TGh_34 (F : Nat) : List Ent := e20 F :: TGh_33 F
theorem FGh_34 (F : Nat) : Fits2 Try.prog (tD (TGh_34 F)) (tS (TGh_34 F)) := fits_cons (o20 (FGh_33 F) ⟨fun _ _ r h => dn2_put h, rfl⟩) (FGh_33 F)
def TGh_35 (F : Nat) : List Ent := e21 F :: TGh_34 F
theorem FGh_35 (F : Nat) : Fits2 Try.prog (tD (TGh_35 F)) (tS (TGh_35 F)) := fits_cons (o21 (FGh_34 F) ⟨⟩) (FGh_34 F)
def TGh_36 (F : Nat) : List Ent := e5 F :: TGh_35 F
theorem FGh_36 (F : Nat) : Fits2 Try.prog (tD (TGh_36 F)) (tS (TGh_36 F)) := fits_cons (o5 (FGh_35 F) ⟨fun _ _ r h => dn2_put h, rfl, fun _ r h => dn1_put h, rfl, fun _ r h => dn1_put h, rfl, fun _ _ r h => dn2_put h, rfl, fun _ _ r h => dn2_put h, rfl, fun _ _ r h => dn2_put h, rfl, fun _ _ r h => dn2_put h, rfl⟩) (FGh_35 F)
theorem law5 (F : Nat) (x0 : (Int × (List (Int × Int)))) (x1 : (List Int)) (h : w_FnExactCutwidthOf F x0 x1 = some true) : Contract Try.prog 5 0 false [Enc.enc x0, Enc.enc x1] (.bool true) := (FGh_36 F).con 5 _ _ 0 false (dn2_put h) rfl
end Go.Zq
