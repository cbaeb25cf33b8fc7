/- The table of the functions' contracts. No further condition. -/
import Derived.Test.YthblbfcloccopaaK2
import Derived.Test.YthblbfcloccopaaProg
import Derived.Test.YthblbfcloccopaaChecked
import Derived.KernelRfl
import Derived.Test.YthblbfcloccopaaG3
set_option linter.unusedVariables false
set_option linter.unusedSimpArgs false
/- Functions of the program, as typed functions, and that the machine runs as they say. -/
namespace Go.Zq
open Go.Proofs
def TGk_0 (F : Nat) : List Ent := [e44 F]
theorem FGk_0 (F : Nat) : Fits2 Try.prog (tD (TGk_0 F)) (tS (TGk_0 F)) := fits_cons (o44 fits_nil ⟨⟩) fits_nil
def TGk_1 (F : Nat) : List Ent := e15 F :: TGk_0 F
theorem FGk_1 (F : Nat) : Fits2 Try.prog (tD (TGk_1 F)) (tS (TGk_1 F)) := fits_cons (o15 (FGk_0 F) ⟨fun _ _ r h => dn2_put h, rfl⟩) (FGk_0 F)
def TGk_2 (F : Nat) : List Ent := e99 F :: TGk_1 F
theorem FGk_2 (F : Nat) : Fits2 Try.prog (tD (TGk_2 F)) (tS (TGk_2 F)) := fits_cons (o99 (FGk_1 F) ⟨⟩) (FGk_1 F)
def TGk_3 (F : Nat) : List Ent := e49 F :: TGk_2 F
theorem FGk_3 (F : Nat) : Fits2 Try.prog (tD (TGk_3 F)) (tS (TGk_3 F)) := fits_cons (o49 (FGk_2 F) ⟨fun _ r h => dn1_put h, rfl⟩) (FGk_2 F)
def TGk_4 (F : Nat) : List Ent := e17 F :: TGk_3 F
theorem FGk_4 (F : Nat) : Fits2 Try.prog (tD (TGk_4 F)) (tS (TGk_4 F)) := fits_cons (o17 (FGk_3 F) ⟨fun _ r h => dn1_put h, rfl⟩) (FGk_3 F)
def TGk_5 (F : Nat) : List Ent := e18 F :: TGk_4 F
theorem FGk_5 (F : Nat) : Fits2 Try.prog (tD (TGk_5 F)) (tS (TGk_5 F)) := fits_cons (o18 (FGk_4 F) ⟨⟩) (FGk_4 F)
def TGk_6 (F : Nat) : List Ent := e62 F :: TGk_5 F
theorem FGk_6 (F : Nat) : Fits2 Try.prog (tD (TGk_6 F)) (tS (TGk_6 F)) := fits_cons (o62 (FGk_5 F) ⟨⟩) (FGk_5 F)
def TGk_7 (F : Nat) : List Ent := e97 F :: TGk_6 F
theorem FGk_7 (F : Nat) : Fits2 Try.prog (tD (TGk_7 F)) (tS (TGk_7 F)) := fits_cons (o97 (FGk_6 F) ⟨⟩) (FGk_6 F)
def TGk_8 (F : Nat) : List Ent := e45 F :: TGk_7 F
theorem FGk_8 (F : Nat) : Fits2 Try.prog (tD (TGk_8 F)) (tS (TGk_8 F)) := fits_cons (o45 (FGk_7 F) ⟨fun _ _ _ r h => dn3_put h, rfl, fun _ _ r h => dn2_put h, rfl⟩) (FGk_7 F)
def TGk_9 (F : Nat) : List Ent := e78 F :: TGk_8 F
theorem FGk_9 (F : Nat) : Fits2 Try.prog (tD (TGk_9 F)) (tS (TGk_9 F)) := fits_cons (o78 (FGk_8 F) ⟨⟩) (FGk_8 F)
def TGk_10 (F : Nat) : List Ent := e64 F :: TGk_9 F
theorem FGk_10 (F : Nat) : Fits2 Try.prog (tD (TGk_10 F)) (tS (TGk_10 F)) := fits_cons (o64 (FGk_9 F) ⟨fun _ _ r h => dn2_put h, rfl⟩) (FGk_9 F)
def TGk_11 (F : Nat) : List Ent := e125 F :: TGk_10 F
theorem FGk_11 (F : Nat) : Fits2 Try.prog (tD (TGk_11 F)) (tS (TGk_11 F)) := fits_cons (o125 (FGk_10 F) ⟨fun _ r h => dn1_put h, rfl⟩) (FGk_10 F)
def TGk_12 (F : Nat) : List Ent := e137 F :: TGk_11 F
theorem FGk_12 (F : Nat) : Fits2 Try.prog (tD (TGk_12 F)) (tS (TGk_12 F)) := fits_cons (o137 (FGk_11 F) ⟨fun _ _ _ r h => dn3_put h, rfl⟩) (FGk_11 F)
def TGk_13 (F : Nat) : List Ent := e98 F :: TGk_12 F
theorem FGk_13 (F : Nat) : Fits2 Try.prog (tD (TGk_13 F)) (tS (TGk_13 F)) := fits_cons (o98 (FGk_12 F) ⟨⟩) (FGk_12 F)
def TGk_14 (F : Nat) : List Ent := e126 F :: TGk_13 F
theorem FGk_14 (F : Nat) : Fits2 Try.prog (tD (TGk_14 F)) (tS (TGk_14 F)) := fits_cons (o126 (FGk_13 F) ⟨fun _ _ r h => dn2_put h, rfl, fun _ _ r h => dn2_put h, rfl⟩) (FGk_13 F)
def TGk_15 (F : Nat) : List Ent := e112 F :: TGk_14 F
theorem FGk_15 (F : Nat) : Fits2 Try.prog (tD (TGk_15 F)) (tS (TGk_15 F)) := fits_cons (o112 (FGk_14 F) ⟨⟩) (FGk_14 F)
def TGk_16 (F : Nat) : List Ent := e111 F :: TGk_15 F
theorem FGk_16 (F : Nat) : Fits2 Try.prog (tD (TGk_16 F)) (tS (TGk_16 F)) := fits_cons (o111 (FGk_15 F) ⟨⟩) (FGk_15 F)
def TGk_17 (F : Nat) : List Ent := e117 F :: TGk_16 F
theorem FGk_17 (F : Nat) : Fits2 Try.prog (tD (TGk_17 F)) (tS (TGk_17 F)) := fits_cons (o117 (FGk_16 F) ⟨⟩) (FGk_16 F)
def TGk_18 (F : Nat) : List Ent := e72 F :: TGk_17 F
theorem FGk_18 (F : Nat) : Fits2 Try.prog (tD (TGk_18 F)) (tS (TGk_18 F)) := fits_cons (o72 (FGk_17 F) ⟨fun _ _ r h => dn2_put h, rfl, fun _ _ _ r h => dn3_put h, rfl, fun _ _ r h => dn2_put h, rfl⟩) (FGk_17 F)
def TGk_19 (F : Nat) : List Ent := e138 F :: TGk_18 F
theorem FGk_19 (F : Nat) : Fits2 Try.prog (tD (TGk_19 F)) (tS (TGk_19 F)) := fits_cons (o138 (FGk_18 F) ⟨fun _ _ r h => dn2_put h, rfl, fun _ _ _ r h => dn3_put h, rfl, fun _ _ r h => dn2_put h, rfl⟩) (FGk_18 F)
def TGk_20 (F : Nat) : List Ent := e127 F :: TGk_19 F
theorem FGk_20 (F : Nat) : Fits2 Try.prog (tD (TGk_20 F)) (tS (TGk_20 F)) := fits_cons (o127 (FGk_19 F) ⟨fun _ _ r h => dn2_put h, rfl, fun _ _ r h => dn2_put h, rfl, fun _ _ _ r h => dn3_put h, rfl⟩) (FGk_19 F)
def TGk_21 (F : Nat) : List Ent := e90 F :: TGk_20 F
theorem FGk_21 (F : Nat) : Fits2 Try.prog (tD (TGk_21 F)) (tS (TGk_21 F)) := fits_cons (o90 (FGk_20 F) ⟨fun _ r h => dn1_put h, rfl, fun _ _ _ r h => dn3_put h, rfl, fun _ _ _ r h => dn3_put h, rfl⟩) (FGk_20 F)
def TGk_22 (F : Nat) : List Ent := e38 F :: TGk_21 F
theorem FGk_22 (F : Nat) : Fits2 Try.prog (tD (TGk_22 F)) (tS (TGk_22 F)) := fits_cons (o38 (FGk_21 F) ⟨fun _ r h => dn1_put h, rfl, fun _ _ r h => dn2_put h, rfl⟩) (FGk_21 F)
def TGk_23 (F : Nat) : List Ent := e66 F :: TGk_22 F
theorem FGk_23 (F : Nat) : Fits2 Try.prog (tD (TGk_23 F)) (tS (TGk_23 F)) := fits_cons (o66 (FGk_22 F) ⟨⟩) (FGk_22 F)
def TGk_24 (F : Nat) : List Ent := e141 F :: TGk_23 F
theorem FGk_24 (F : Nat) : Fits2 Try.prog (tD (TGk_24 F)) (tS (TGk_24 F)) := fits_cons (o141 (FGk_23 F) ⟨⟩) (FGk_23 F)
def TGk_25 (F : Nat) : List Ent := e131 F :: TGk_24 F
theorem FGk_25 (F : Nat) : Fits2 Try.prog (tD (TGk_25 F)) (tS (TGk_25 F)) := fits_cons (o131 (FGk_24 F) ⟨fun _ r h => dn1_put h, rfl⟩) (FGk_24 F)
def TGk_26 (F : Nat) : List Ent := e100 F :: TGk_25 F
theorem FGk_26 (F : Nat) : Fits2 Try.prog (tD (TGk_26 F)) (tS (TGk_26 F)) := fits_cons (o100 (FGk_25 F) ⟨fun _ _ r h => dn2_put h, rfl⟩) (FGk_25 F)
def TGk_27 (F : Nat) : List Ent := e50 F :: TGk_26 F
theorem FGk_27 (F : Nat) : Fits2 Try.prog (tD (TGk_27 F)) (tS (TGk_27 F)) := fits_cons (o50 (FGk_26 F) ⟨fun _ _ _ r h => dn3_put h, rfl, fun _ _ r h => dn2_put h, rfl⟩) (FGk_26 F)
def TGk_28 (F : Nat) : List Ent := e55 F :: TGk_27 F
theorem FGk_28 (F : Nat) : Fits2 Try.prog (tD (TGk_28 F)) (tS (TGk_28 F)) := fits_cons (o55 (FGk_27 F) ⟨⟩) (FGk_27 F)
def TGk_29 (F : Nat) : List Ent := e68 F :: TGk_28 F
theorem FGk_29 (F : Nat) : Fits2 Try.prog (tD (TGk_29 F)) (tS (TGk_29 F)) := fits_cons (o68 (FGk_28 F) ⟨⟩) (FGk_28 F)
def TGk_30 (F : Nat) : List Ent := e139 F :: TGk_29 F
theorem FGk_30 (F : Nat) : Fits2 Try.prog (tD (TGk_30 F)) (tS (TGk_30 F)) := fits_cons (o139 (FGk_29 F) ⟨⟩) (FGk_29 F)
def TGk_31 (F : Nat) : List Ent := e119 F :: TGk_30 F
theorem FGk_31 (F : Nat) : Fits2 Try.prog (tD (TGk_31 F)) (tS (TGk_31 F)) := fits_cons (o119 (FGk_30 F) ⟨⟩) (FGk_30 F)
def TGk_32 (F : Nat) : List Ent := e128 F :: TGk_31 F
theorem FGk_32 (F : Nat) : Fits2 Try.prog (tD (TGk_32 F)) (tS (TGk_32 F)) := fits_cons (o128 (FGk_31 F) ⟨fun _ r h => dn1_put h, rfl, fun _ _ _ r h => dn3_put h, rfl, fun _ _ r h => dn2_put h, rfl⟩) (FGk_31 F)
def TGk_33 (F : Nat) : List Ent := e91 F :: TGk_32 F
theorem FGk_33 (F : Nat) : Fits2 Try.prog (tD (TGk_33 F)) (tS (TGk_33 F)) := fits_cons (o91 (FGk_32 F) ⟨fun _ r h => dn1_put h, rfl, fun _ _ _ r h => dn3_put h, rfl⟩) (FGk_32 F)
def TGk_34 (F : Nat) : List Ent := e39 F :: TGk_33 F
theorem FGk_34 (F : Nat) : Fits2 Try.prog (tD (TGk_34 F)) (tS (TGk_34 F)) := fits_cons (o39 (FGk_33 F) ⟨fun _ r h => dn1_put h, rfl, fun _ r h => dn1_put h, rfl, fun _ _ r h => dn2_put h, rfl⟩) (FGk_33 F)
def TGk_35 (F : Nat) : List Ent := e104 F :: TGk_34 F
theorem FGk_35 (F : Nat) : Fits2 Try.prog (tD (TGk_35 F)) (tS (TGk_35 F)) := fits_cons (o104 (FGk_34 F) ⟨⟩) (FGk_34 F)
def TGk_36 (F : Nat) : List Ent := e53 F :: TGk_35 F
theorem FGk_36 (F : Nat) : Fits2 Try.prog (tD (TGk_36 F)) (tS (TGk_36 F)) := fits_cons (o53 (FGk_35 F) ⟨fun _ _ r h => dn2_put h, rfl⟩) (FGk_35 F)
def TGk_37 (F : Nat) : List Ent := e20 F :: TGk_36 F
theorem FGk_37 (F : Nat) : Fits2 Try.prog (tD (TGk_37 F)) (tS (TGk_37 F)) := fits_cons (o20 (FGk_36 F) ⟨fun _ _ r h => dn2_put h, rfl⟩) (FGk_36 F)
def TGk_38 (F : Nat) : List Ent := e21 F :: TGk_37 F
theorem FGk_38 (F : Nat) : Fits2 Try.prog (tD (TGk_38 F)) (tS (TGk_38 F)) := fits_cons (o21 (FGk_37 F) ⟨⟩) (FGk_37 F)
def TGk_39 (F : Nat) : List Ent := e12 F :: TGk_38 F
theorem FGk_39 (F : Nat) : Fits2 Try.prog (tD (TGk_39 F)) (tS (TGk_39 F)) := fits_cons (o12 (FGk_38 F) ⟨fun _ _ r h => dn2_put h, rfl, fun _ r h => dn1_put h, rfl, fun _ r h => dn1_put h, rfl, fun _ _ r h => dn2_put h, rfl, fun _ _ r h => dn2_put h, rfl, fun _ _ r h => dn2_put h, rfl, fun _ _ r h => dn2_put h, rfl⟩) (FGk_38 F)
theorem law12 (F : Nat) (x0 : (Int × (List (Int × Int)))) (x1 : (List Int)) (h : w_FnExactIsProgram F x0 x1 = some true) : Contract Try.prog 12 0 false [Enc.enc x0, Enc.enc x1] (.bool true) := (FGk_39 F).con 12 _ _ 0 false (dn2_put h) rfl
end Go.Zq
