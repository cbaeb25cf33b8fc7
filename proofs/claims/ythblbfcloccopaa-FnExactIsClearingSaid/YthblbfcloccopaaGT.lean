/- The table of the functions' contracts. No further condition. -/
import Derived.Test.YthblbfcloccopaaK2
import Derived.Test.YthblbfcloccopaaProg
import Derived.Test.YthblbfcloccopaaChecked
import Derived.KernelRfl
import Derived.Test.YthblbfcloccopaaG3
set_option linter.unusedVariables false
set_option linter.unusedSimpArgs false
/- Functions of the program, as typed functions, and that the machine runs as they say. -/
namespace Go.Zq
open Go.Proofs
def TGl_0 (F : Nat) : List Ent := e44 F :: []
theorem FGl_0 (F : Nat) : Fits2 Try.prog (tD (TGl_0 F)) (tS (TGl_0 F)) := fits_cons (o44 (fits_nil) ⟨⟩) (fits_nil)
def TGl_1 (F : Nat) : List Ent := e15 F :: TGl_0 F
theorem FGl_1 (F : Nat) : Fits2 Try.prog (tD (TGl_1 F)) (tS (TGl_1 F)) := fits_cons (o15 (FGl_0 F) ⟨fun _ _ r h => dn2_put h, rfl⟩) (FGl_0 F)
def TGl_2 (F : Nat) : List Ent := e99 F :: TGl_1 F
theorem FGl_2 (F : Nat) : Fits2 Try.prog (tD (TGl_2 F)) (tS (TGl_2 F)) := fits_cons (o99 (FGl_1 F) ⟨⟩) (FGl_1 F)
def TGl_3 (F : Nat) : List Ent := e49 F :: TGl_2 F
theorem FGl_3 (F : Nat) : Fits2 Try.prog (tD (TGl_3 F)) (tS (TGl_3 F)) := fits_cons (o49 (FGl_2 F) ⟨fun _ r h => dn1_put h, rfl⟩) (FGl_2 F)
def TGl_4 (F : Nat) : List Ent := e17 F :: TGl_3 F
theorem FGl_4 (F : Nat) : Fits2 Try.prog (tD (TGl_4 F)) (tS (TGl_4 F)) := fits_cons (o17 (FGl_3 F) ⟨fun _ r h => dn1_put h, rfl⟩) (FGl_3 F)
def TGl_5 (F : Nat) : List Ent := e18 F :: TGl_4 F
theorem FGl_5 (F : Nat) : Fits2 Try.prog (tD (TGl_5 F)) (tS (TGl_5 F)) := fits_cons (o18 (FGl_4 F) ⟨⟩) (FGl_4 F)
def TGl_6 (F : Nat) : List Ent := e62 F :: TGl_5 F
theorem FGl_6 (F : Nat) : Fits2 Try.prog (tD (TGl_6 F)) (tS (TGl_6 F)) := fits_cons (o62 (FGl_5 F) ⟨⟩) (FGl_5 F)
def TGl_7 (F : Nat) : List Ent := e97 F :: TGl_6 F
theorem FGl_7 (F : Nat) : Fits2 Try.prog (tD (TGl_7 F)) (tS (TGl_7 F)) := fits_cons (o97 (FGl_6 F) ⟨⟩) (FGl_6 F)
def TGl_8 (F : Nat) : List Ent := e45 F :: TGl_7 F
theorem FGl_8 (F : Nat) : Fits2 Try.prog (tD (TGl_8 F)) (tS (TGl_8 F)) := fits_cons (o45 (FGl_7 F) ⟨fun _ _ _ r h => dn3_put h, rfl, fun _ _ r h => dn2_put h, rfl⟩) (FGl_7 F)
def TGl_9 (F : Nat) : List Ent := e78 F :: TGl_8 F
theorem FGl_9 (F : Nat) : Fits2 Try.prog (tD (TGl_9 F)) (tS (TGl_9 F)) := fits_cons (o78 (FGl_8 F) ⟨⟩) (FGl_8 F)
def TGl_10 (F : Nat) : List Ent := e64 F :: TGl_9 F
theorem FGl_10 (F : Nat) : Fits2 Try.prog (tD (TGl_10 F)) (tS (TGl_10 F)) := fits_cons (o64 (FGl_9 F) ⟨fun _ _ r h => dn2_put h, rfl⟩) (FGl_9 F)
def TGl_11 (F : Nat) : List Ent := e125 F :: TGl_10 F
theorem FGl_11 (F : Nat) : Fits2 Try.prog (tD (TGl_11 F)) (tS (TGl_11 F)) := fits_cons (o125 (FGl_10 F) ⟨fun _ r h => dn1_put h, rfl⟩) (FGl_10 F)
def TGl_12 (F : Nat) : List Ent := e137 F :: TGl_11 F
theorem FGl_12 (F : Nat) : Fits2 Try.prog (tD (TGl_12 F)) (tS (TGl_12 F)) := fits_cons (o137 (FGl_11 F) ⟨fun _ _ _ r h => dn3_put h, rfl⟩) (FGl_11 F)
def TGl_13 (F : Nat) : List Ent := e98 F :: TGl_12 F
theorem FGl_13 (F : Nat) : Fits2 Try.prog (tD (TGl_13 F)) (tS (TGl_13 F)) := fits_cons (o98 (FGl_12 F) ⟨⟩) (FGl_12 F)
def TGl_14 (F : Nat) : List Ent := e126 F :: TGl_13 F
theorem FGl_14 (F : Nat) : Fits2 Try.prog (tD (TGl_14 F)) (tS (TGl_14 F)) := fits_cons (o126 (FGl_13 F) ⟨fun _ _ r h => dn2_put h, rfl, fun _ _ r h => dn2_put h, rfl⟩) (FGl_13 F)
def TGl_15 (F : Nat) : List Ent := e112 F :: TGl_14 F
theorem FGl_15 (F : Nat) : Fits2 Try.prog (tD (TGl_15 F)) (tS (TGl_15 F)) := fits_cons (o112 (FGl_14 F) ⟨⟩) (FGl_14 F)
def TGl_16 (F : Nat) : List Ent := e111 F :: TGl_15 F
theorem FGl_16 (F : Nat) : Fits2 Try.prog (tD (TGl_16 F)) (tS (TGl_16 F)) := fits_cons (o111 (FGl_15 F) ⟨⟩) (FGl_15 F)
def TGl_17 (F : Nat) : List Ent := e117 F :: TGl_16 F
theorem FGl_17 (F : Nat) : Fits2 Try.prog (tD (TGl_17 F)) (tS (TGl_17 F)) := fits_cons (o117 (FGl_16 F) ⟨⟩) (FGl_16 F)
def TGl_18 (F : Nat) : List Ent := e72 F :: TGl_17 F
theorem FGl_18 (F : Nat) : Fits2 Try.prog (tD (TGl_18 F)) (tS (TGl_18 F)) := fits_cons (o72 (FGl_17 F) ⟨fun _ _ r h => dn2_put h, rfl, fun _ _ _ r h => dn3_put h, rfl, fun _ _ r h => dn2_put h, rfl⟩) (FGl_17 F)
def TGl_19 (F : Nat) : List Ent := e138 F :: TGl_18 F
theorem FGl_19 (F : Nat) : Fits2 Try.prog (tD (TGl_19 F)) (tS (TGl_19 F)) := fits_cons (o138 (FGl_18 F) ⟨fun _ _ r h => dn2_put h, rfl, fun _ _ _ r h => dn3_put h, rfl, fun _ _ r h => dn2_put h, rfl⟩) (FGl_18 F)
def TGl_20 (F : Nat) : List Ent := e127 F :: TGl_19 F
theorem FGl_20 (F : Nat) : Fits2 Try.prog (tD (TGl_20 F)) (tS (TGl_20 F)) := fits_cons (o127 (FGl_19 F) ⟨fun _ _ r h => dn2_put h, rfl, fun _ _ r h => dn2_put h, rfl, fun _ _ _ r h => dn3_put h, rfl⟩) (FGl_19 F)
def TGl_21 (F : Nat) : List Ent := e90 F :: TGl_20 F
theorem FGl_21 (F : Nat) : Fits2 Try.prog (tD (TGl_21 F)) (tS (TGl_21 F)) := fits_cons (o90 (FGl_20 F) ⟨fun _ r h => dn1_put h, rfl, fun _ _ _ r h => dn3_put h, rfl, fun _ _ _ r h => dn3_put h, rfl⟩) (FGl_20 F)
def TGl_22 (F : Nat) : List Ent := e92 F :: TGl_21 F
theorem FGl_22 (F : Nat) : Fits2 Try.prog (tD (TGl_22 F)) (tS (TGl_22 F)) := fits_cons (o92 (FGl_21 F) ⟨fun _ r h => dn1_put h, rfl, fun _ _ _ r h => dn3_put h, rfl⟩) (FGl_21 F)
def TGl_23 (F : Nat) : List Ent := e40 F :: TGl_22 F
theorem FGl_23 (F : Nat) : Fits2 Try.prog (tD (TGl_23 F)) (tS (TGl_23 F)) := fits_cons (o40 (FGl_22 F) ⟨fun _ r h => dn1_put h, rfl, fun _ _ r h => dn2_put h, rfl, fun _ _ r h => dn2_put h, rfl⟩) (FGl_22 F)
def TGl_24 (F : Nat) : List Ent := e66 F :: TGl_23 F
theorem FGl_24 (F : Nat) : Fits2 Try.prog (tD (TGl_24 F)) (tS (TGl_24 F)) := fits_cons (o66 (FGl_23 F) ⟨⟩) (FGl_23 F)
def TGl_25 (F : Nat) : List Ent := e141 F :: TGl_24 F
theorem FGl_25 (F : Nat) : Fits2 Try.prog (tD (TGl_25 F)) (tS (TGl_25 F)) := fits_cons (o141 (FGl_24 F) ⟨⟩) (FGl_24 F)
def TGl_26 (F : Nat) : List Ent := e131 F :: TGl_25 F
theorem FGl_26 (F : Nat) : Fits2 Try.prog (tD (TGl_26 F)) (tS (TGl_26 F)) := fits_cons (o131 (FGl_25 F) ⟨fun _ r h => dn1_put h, rfl⟩) (FGl_25 F)
def TGl_27 (F : Nat) : List Ent := e100 F :: TGl_26 F
theorem FGl_27 (F : Nat) : Fits2 Try.prog (tD (TGl_27 F)) (tS (TGl_27 F)) := fits_cons (o100 (FGl_26 F) ⟨fun _ _ r h => dn2_put h, rfl⟩) (FGl_26 F)
def TGl_28 (F : Nat) : List Ent := e50 F :: TGl_27 F
theorem FGl_28 (F : Nat) : Fits2 Try.prog (tD (TGl_28 F)) (tS (TGl_28 F)) := fits_cons (o50 (FGl_27 F) ⟨fun _ _ _ r h => dn3_put h, rfl, fun _ _ r h => dn2_put h, rfl⟩) (FGl_27 F)
def TGl_29 (F : Nat) : List Ent := e55 F :: TGl_28 F
theorem FGl_29 (F : Nat) : Fits2 Try.prog (tD (TGl_29 F)) (tS (TGl_29 F)) := fits_cons (o55 (FGl_28 F) ⟨⟩) (FGl_28 F)
def TGl_30 (F : Nat) : List Ent := e68 F :: TGl_29 F
theorem FGl_30 (F : Nat) : Fits2 Try.prog (tD (TGl_30 F)) (tS (TGl_30 F)) := fits_cons (o68 (FGl_29 F) ⟨⟩) (FGl_29 F)
def TGl_31 (F : Nat) : List Ent := e139 F :: TGl_30 F
theorem FGl_31 (F : Nat) : Fits2 Try.prog (tD (TGl_31 F)) (tS (TGl_31 F)) := fits_cons (o139 (FGl_30 F) ⟨⟩) (FGl_30 F)
def TGl_32 (F : Nat) : List Ent := e119 F :: TGl_31 F
theorem FGl_32 (F : Nat) : Fits2 Try.prog (tD (TGl_32 F)) (tS (TGl_32 F)) := fits_cons (o119 (FGl_31 F) ⟨⟩) (FGl_31 F)
def TGl_33 (F : Nat) : List Ent := e128 F :: TGl_32 F
theorem FGl_33 (F : Nat) : Fits2 Try.prog (tD (TGl_33 F)) (tS (TGl_33 F)) := fits_cons (o128 (FGl_32 F) ⟨fun _ r h => dn1_put h, rfl, fun _ _ _ r h => dn3_put h, rfl, fun _ _ r h => dn2_put h, rfl⟩) (FGl_32 F)
def TGl_34 (F : Nat) : List Ent := e91 F :: TGl_33 F
theorem FGl_34 (F : Nat) : Fits2 Try.prog (tD (TGl_34 F)) (tS (TGl_34 F)) := fits_cons (o91 (FGl_33 F) ⟨fun _ r h => dn1_put h, rfl, fun _ _ _ r h => dn3_put h, rfl⟩) (FGl_33 F)
def TGl_35 (F : Nat) : List Ent := e93 F :: TGl_34 F
theorem FGl_35 (F : Nat) : Fits2 Try.prog (tD (TGl_35 F)) (tS (TGl_35 F)) := fits_cons (o93 (FGl_34 F) ⟨fun _ r h => dn1_put h, rfl, fun _ r h => dn1_put h, rfl, fun _ _ r h => dn2_put h, rfl⟩) (FGl_34 F)
def TGl_36 (F : Nat) : List Ent := e41 F :: TGl_35 F
theorem FGl_36 (F : Nat) : Fits2 Try.prog (tD (TGl_36 F)) (tS (TGl_36 F)) := fits_cons (o41 (FGl_35 F) ⟨fun _ _ r h => dn2_put h, rfl⟩) (FGl_35 F)
def TGl_37 (F : Nat) : List Ent := e104 F :: TGl_36 F
theorem FGl_37 (F : Nat) : Fits2 Try.prog (tD (TGl_37 F)) (tS (TGl_37 F)) := fits_cons (o104 (FGl_36 F) ⟨⟩) (FGl_36 F)
def TGl_38 (F : Nat) : List Ent := e53 F :: TGl_37 F
theorem FGl_38 (F : Nat) : Fits2 Try.prog (tD (TGl_38 F)) (tS (TGl_38 F)) := fits_cons (o53 (FGl_37 F) ⟨fun _ _ r h => dn2_put h, rfl⟩) (FGl_37 F)
def TGl_39 (F : Nat) : List Ent := e20 F :: TGl_38 F
theorem FGl_39 (F : Nat) : Fits2 Try.prog (tD (TGl_39 F)) (tS (TGl_39 F)) := fits_cons (o20 (FGl_38 F) ⟨fun _ _ r h => dn2_put h, rfl⟩) (FGl_38 F)
def TGl_40 (F : Nat) : List Ent := e21 F :: TGl_39 F
theorem FGl_40 (F : Nat) : Fits2 Try.prog (tD (TGl_40 F)) (tS (TGl_40 F)) := fits_cons (o21 (FGl_39 F) ⟨⟩) (FGl_39 F)
def TGl_41 (F : Nat) : List Ent := e13 F :: TGl_40 F
theorem FGl_41 (F : Nat) : Fits2 Try.prog (tD (TGl_41 F)) (tS (TGl_41 F)) := fits_cons (o13 (FGl_40 F) ⟨fun _ _ r h => dn2_put h, rfl, fun _ r h => dn1_put h, rfl, fun _ r h => dn1_put h, rfl, fun _ _ r h => dn2_put h, rfl, fun _ _ r h => dn2_put h, rfl, fun _ _ r h => dn2_put h, rfl, fun _ _ r h => dn2_put h, rfl⟩) (FGl_40 F)
theorem law13 (F : Nat) (x0 : (Int × (List (Int × Int)))) (x1 : (List Int)) (h : w_FnExactIsClearing F x0 x1 = some true) : Contract Try.prog 13 0 false [Enc.enc x0, Enc.enc x1] (.bool true) := (FGl_41 F).con 13 _ _ 0 false (dn2_put h) rfl
end Go.Zq
