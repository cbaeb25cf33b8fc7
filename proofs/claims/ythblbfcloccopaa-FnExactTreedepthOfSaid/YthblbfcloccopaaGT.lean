/- The table of the functions' contracts. No further condition. -/
import Derived.Test.YthblbfcloccopaaK2
import Derived.Test.YthblbfcloccopaaProg
import Derived.Test.YthblbfcloccopaaChecked
import Derived.KernelRfl
import Derived.Test.YthblbfcloccopaaG3
set_option linter.unusedVariables false
set_option linter.unusedSimpArgs false
/- Functions of the program, as typed functions, and that the machine runs as they say. -/
namespace Go.Zq
open Go.Proofs
def TGj_0 (F : Nat) : List Ent := [e44 F]
theorem FGj_0 (F : Nat) : Fits2 Try.prog (tD (TGj_0 F)) (tS (TGj_0 F)) := fits_cons (o44 fits_nil ⟨⟩) fits_nil
def TGj_1 (F : Nat) : List Ent := e15 F :: TGj_0 F
theorem FGj_1 (F : Nat) : Fits2 Try.prog (tD (TGj_1 F)) (tS (TGj_1 F)) := fits_cons (o15 (FGj_0 F) ⟨fun _ _ r h => dn2_put h, rfl⟩) (FGj_0 F)
def TGj_2 (F : Nat) : List Ent := e99 F :: TGj_1 F
theorem FGj_2 (F : Nat) : Fits2 Try.prog (tD (TGj_2 F)) (tS (TGj_2 F)) := fits_cons (o99 (FGj_1 F) ⟨⟩) (FGj_1 F)
def TGj_3 (F : Nat) : List Ent := e49 F :: TGj_2 F
theorem FGj_3 (F : Nat) : Fits2 Try.prog (tD (TGj_3 F)) (tS (TGj_3 F)) := fits_cons (o49 (FGj_2 F) ⟨fun _ r h => dn1_put h, rfl⟩) (FGj_2 F)
def TGj_4 (F : Nat) : List Ent := e17 F :: TGj_3 F
theorem FGj_4 (F : Nat) : Fits2 Try.prog (tD (TGj_4 F)) (tS (TGj_4 F)) := fits_cons (o17 (FGj_3 F) ⟨fun _ r h => dn1_put h, rfl⟩) (FGj_3 F)
def TGj_5 (F : Nat) : List Ent := e62 F :: TGj_4 F
theorem FGj_5 (F : Nat) : Fits2 Try.prog (tD (TGj_5 F)) (tS (TGj_5 F)) := fits_cons (o62 (FGj_4 F) ⟨⟩) (FGj_4 F)
def TGj_6 (F : Nat) : List Ent := e97 F :: TGj_5 F
theorem FGj_6 (F : Nat) : Fits2 Try.prog (tD (TGj_6 F)) (tS (TGj_6 F)) := fits_cons (o97 (FGj_5 F) ⟨⟩) (FGj_5 F)
def TGj_7 (F : Nat) : List Ent := e45 F :: TGj_6 F
theorem FGj_7 (F : Nat) : Fits2 Try.prog (tD (TGj_7 F)) (tS (TGj_7 F)) := fits_cons (o45 (FGj_6 F) ⟨fun _ _ _ r h => dn3_put h, rfl, fun _ _ r h => dn2_put h, rfl⟩) (FGj_6 F)
def TGj_8 (F : Nat) : List Ent := e78 F :: TGj_7 F
theorem FGj_8 (F : Nat) : Fits2 Try.prog (tD (TGj_8 F)) (tS (TGj_8 F)) := fits_cons (o78 (FGj_7 F) ⟨⟩) (FGj_7 F)
def TGj_9 (F : Nat) : List Ent := e98 F :: TGj_8 F
theorem FGj_9 (F : Nat) : Fits2 Try.prog (tD (TGj_9 F)) (tS (TGj_9 F)) := fits_cons (o98 (FGj_8 F) ⟨⟩) (FGj_8 F)
def TGj_10 (F : Nat) : List Ent := e117 F :: TGj_9 F
theorem FGj_10 (F : Nat) : Fits2 Try.prog (tD (TGj_10 F)) (tS (TGj_10 F)) := fits_cons (o117 (FGj_9 F) ⟨⟩) (FGj_9 F)
def TGj_11 (F : Nat) : List Ent := e111 F :: TGj_10 F
theorem FGj_11 (F : Nat) : Fits2 Try.prog (tD (TGj_11 F)) (tS (TGj_11 F)) := fits_cons (o111 (FGj_10 F) ⟨⟩) (FGj_10 F)
def TGj_12 (F : Nat) : List Ent := e72 F :: TGj_11 F
theorem FGj_12 (F : Nat) : Fits2 Try.prog (tD (TGj_12 F)) (tS (TGj_12 F)) := fits_cons (o72 (FGj_11 F) ⟨fun _ _ r h => dn2_put h, rfl, fun _ _ _ r h => dn3_put h, rfl, fun _ _ r h => dn2_put h, rfl⟩) (FGj_11 F)
def TGj_13 (F : Nat) : List Ent := e63 F :: TGj_12 F
theorem FGj_13 (F : Nat) : Fits2 Try.prog (tD (TGj_13 F)) (tS (TGj_13 F)) := fits_cons (o63 (FGj_12 F) ⟨fun _ _ r h => dn2_put h, rfl, fun _ _ _ r h => dn3_put h, rfl, fun _ _ r h => dn2_put h, rfl⟩) (FGj_12 F)
def TGj_14 (F : Nat) : List Ent := e132 F :: TGj_13 F
theorem FGj_14 (F : Nat) : Fits2 Try.prog (tD (TGj_14 F)) (tS (TGj_14 F)) := fits_cons (o132 (FGj_13 F) ⟨⟩) (FGj_13 F)
def TGj_15 (F : Nat) : List Ent := e47 F :: TGj_14 F
theorem FGj_15 (F : Nat) : Fits2 Try.prog (tD (TGj_15 F)) (tS (TGj_15 F)) := fits_cons (o47 (FGj_14 F) ⟨⟩) (FGj_14 F)
def TGj_16 (F : Nat) : List Ent := e133 F :: TGj_15 F
theorem FGj_16 (F : Nat) : Fits2 Try.prog (tD (TGj_16 F)) (tS (TGj_16 F)) := fits_cons (o133 (FGj_15 F) ⟨⟩) (FGj_15 F)
def TGj_17 (F : Nat) : List Ent := e114 F :: TGj_16 F
theorem FGj_17 (F : Nat) : Fits2 Try.prog (tD (TGj_17 F)) (tS (TGj_17 F)) := fits_cons (o114 (FGj_16 F) ⟨fun _ _ r h => dn2_put h, rfl, fun _ _ r h => dn2_put h, rfl, fun _ r h => dn1_put h, rfl, fun _ _ r h => dn2_put h, rfl, fun _ _ r h => dn2_put h, rfl⟩) (FGj_16 F)
def TGj_18 (F : Nat) : List Ent := e69 F :: TGj_17 F
theorem FGj_18 (F : Nat) : Fits2 Try.prog (tD (TGj_18 F)) (tS (TGj_18 F)) := fits_cons (o69 (FGj_17 F) ⟨fun _ r h => dn1_put h, rfl⟩) (FGj_17 F)
def TGj_19 (F : Nat) : List Ent := e28 F :: TGj_18 F
theorem FGj_19 (F : Nat) : Fits2 Try.prog (tD (TGj_19 F)) (tS (TGj_19 F)) := fits_cons (o28 (FGj_18 F) ⟨fun _ r h => dn1_put h, rfl, fun _ r h => dn1_put h, rfl⟩) (FGj_18 F)
def TGj_20 (F : Nat) : List Ent := e66 F :: TGj_19 F
theorem FGj_20 (F : Nat) : Fits2 Try.prog (tD (TGj_20 F)) (tS (TGj_20 F)) := fits_cons (o66 (FGj_19 F) ⟨⟩) (FGj_19 F)
def TGj_21 (F : Nat) : List Ent := e141 F :: TGj_20 F
theorem FGj_21 (F : Nat) : Fits2 Try.prog (tD (TGj_21 F)) (tS (TGj_21 F)) := fits_cons (o141 (FGj_20 F) ⟨⟩) (FGj_20 F)
def TGj_22 (F : Nat) : List Ent := e131 F :: TGj_21 F
theorem FGj_22 (F : Nat) : Fits2 Try.prog (tD (TGj_22 F)) (tS (TGj_22 F)) := fits_cons (o131 (FGj_21 F) ⟨fun _ r h => dn1_put h, rfl⟩) (FGj_21 F)
def TGj_23 (F : Nat) : List Ent := e100 F :: TGj_22 F
theorem FGj_23 (F : Nat) : Fits2 Try.prog (tD (TGj_23 F)) (tS (TGj_23 F)) := fits_cons (o100 (FGj_22 F) ⟨fun _ _ r h => dn2_put h, rfl⟩) (FGj_22 F)
def TGj_24 (F : Nat) : List Ent := e50 F :: TGj_23 F
theorem FGj_24 (F : Nat) : Fits2 Try.prog (tD (TGj_24 F)) (tS (TGj_24 F)) := fits_cons (o50 (FGj_23 F) ⟨fun _ _ _ r h => dn3_put h, rfl, fun _ _ r h => dn2_put h, rfl⟩) (FGj_23 F)
def TGj_25 (F : Nat) : List Ent := e55 F :: TGj_24 F
theorem FGj_25 (F : Nat) : Fits2 Try.prog (tD (TGj_25 F)) (tS (TGj_25 F)) := fits_cons (o55 (FGj_24 F) ⟨⟩) (FGj_24 F)
def TGj_26 (F : Nat) : List Ent := e68 F :: TGj_25 F
theorem FGj_26 (F : Nat) : Fits2 Try.prog (tD (TGj_26 F)) (tS (TGj_26 F)) := fits_cons (o68 (FGj_25 F) ⟨⟩) (FGj_25 F)
def TGj_27 (F : Nat) : List Ent := e119 F :: TGj_26 F
theorem FGj_27 (F : Nat) : Fits2 Try.prog (tD (TGj_27 F)) (tS (TGj_27 F)) := fits_cons (o119 (FGj_26 F) ⟨⟩) (FGj_26 F)
def TGj_28 (F : Nat) : List Ent := e76 F :: TGj_27 F
theorem FGj_28 (F : Nat) : Fits2 Try.prog (tD (TGj_28 F)) (tS (TGj_28 F)) := fits_cons (o76 (FGj_27 F) ⟨fun _ _ r h => dn2_put h, rfl⟩) (FGj_27 F)
def TGj_29 (F : Nat) : List Ent := e121 F :: TGj_28 F
theorem FGj_29 (F : Nat) : Fits2 Try.prog (tD (TGj_29 F)) (tS (TGj_29 F)) := fits_cons (o121 (FGj_28 F) ⟨⟩) (FGj_28 F)
def TGj_30 (F : Nat) : List Ent := e113 F :: TGj_29 F
theorem FGj_30 (F : Nat) : Fits2 Try.prog (tD (TGj_30 F)) (tS (TGj_30 F)) := fits_cons (o113 (FGj_29 F) ⟨fun _ r h => dn1_put h, rfl⟩) (FGj_29 F)
def TGj_31 (F : Nat) : List Ent := e67 F :: TGj_30 F
theorem FGj_31 (F : Nat) : Fits2 Try.prog (tD (TGj_31 F)) (tS (TGj_31 F)) := fits_cons (o67 (FGj_30 F) ⟨fun _ r h => dn1_put h, rfl, fun _ _ r h => dn2_put h, rfl, fun _ _ _ r h => dn3_put h, rfl⟩) (FGj_30 F)
def TGj_32 (F : Nat) : List Ent := e29 F :: TGj_31 F
theorem FGj_32 (F : Nat) : Fits2 Try.prog (tD (TGj_32 F)) (tS (TGj_32 F)) := fits_cons (o29 (FGj_31 F) ⟨fun _ r h => dn1_put h, rfl, fun _ r h => dn1_put h, rfl, fun _ r h => dn1_put h, rfl, fun _ r h => dn1_put h, rfl⟩) (FGj_31 F)
def TGj_33 (F : Nat) : List Ent := e104 F :: TGj_32 F
theorem FGj_33 (F : Nat) : Fits2 Try.prog (tD (TGj_33 F)) (tS (TGj_33 F)) := fits_cons (o104 (FGj_32 F) ⟨⟩) (FGj_32 F)
def TGj_34 (F : Nat) : List Ent := e53 F :: TGj_33 F
theorem FGj_34 (F : Nat) : Fits2 Try.prog (tD (TGj_34 F)) (tS (TGj_34 F)) := fits_cons (o53 (FGj_33 F) ⟨fun _ _ r h => dn2_put h, rfl⟩) (FGj_33 F)
def TGj_35 (F : Nat) : List Ent := e20 F :: TGj_34 F
theorem FGj_35 (F : Nat) : Fits2 Try.prog (tD (TGj_35 F)) (tS (TGj_35 F)) := fits_cons (o20 (FGj_34 F) ⟨fun _ _ r h => dn2_put h, rfl⟩) (FGj_34 F)
def TGj_36 (F : Nat) : List Ent := e7 F :: TGj_35 F
theorem FGj_36 (F : Nat) : Fits2 Try.prog (tD (TGj_36 F)) (tS (TGj_36 F)) := fits_cons (o7 (FGj_35 F) ⟨fun _ _ r h => dn2_put h, rfl, fun _ r h => dn1_put h, rfl, fun _ r h => dn1_put h, rfl, fun _ r h => dn1_put h, rfl, fun _ _ r h => dn2_put h, rfl⟩) (FGj_35 F)
theorem law7 (F : Nat) (x0 : (Int × (List (Int × Int)))) (h : w_FnExactTreedepthOf F x0 = some true) : Contract Try.prog 7 0 false [Enc.enc x0] (.bool true) := (FGj_36 F).con 7 _ _ 0 false (dn1_put h) rfl
end Go.Zq
