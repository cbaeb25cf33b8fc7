/- The table of the functions' contracts. No further condition. -/
import Derived.Test.YthblbfcloccopaaK2
import Derived.Test.YthblbfcloccopaaProg
import Derived.Test.YthblbfcloccopaaChecked
import Derived.KernelRfl
import Derived.Test.YthblbfcloccopaaG3
set_option linter.unusedVariables false
set_option linter.unusedSimpArgs false
/- Functions of the program, as typed functions, and that the machine runs as they say. -/
namespace Go.Zq
open Go.Proofs
def TGm_0 (F : Nat) : List Ent := e44 F :: []
theorem FGm_0 (F : Nat) : Fits2 Try.prog (tD (TGm_0 F)) (tS (TGm_0 F)) := fits_cons (o44 (fits_nil) ⟨⟩) (fits_nil)
def TGm_1 (F : Nat) : List Ent := e15 F :: TGm_0 F
theorem FGm_1 (F : Nat) : Fits2 Try.prog (tD (TGm_1 F)) (tS (TGm_1 F)) := fits_cons (o15 (FGm_0 F) ⟨fun _ _ r h => dn2_put h, rfl⟩) (FGm_0 F)
def TGm_2 (F : Nat) : List Ent := e99 F :: TGm_1 F
theorem FGm_2 (F : Nat) : Fits2 Try.prog (tD (TGm_2 F)) (tS (TGm_2 F)) := fits_cons (o99 (FGm_1 F) ⟨⟩) (FGm_1 F)
def TGm_3 (F : Nat) : List Ent := e49 F :: TGm_2 F
theorem FGm_3 (F : Nat) : Fits2 Try.prog (tD (TGm_3 F)) (tS (TGm_3 F)) := fits_cons (o49 (FGm_2 F) ⟨fun _ r h => dn1_put h, rfl⟩) (FGm_2 F)
def TGm_4 (F : Nat) : List Ent := e17 F :: TGm_3 F
theorem FGm_4 (F : Nat) : Fits2 Try.prog (tD (TGm_4 F)) (tS (TGm_4 F)) := fits_cons (o17 (FGm_3 F) ⟨fun _ r h => dn1_put h, rfl⟩) (FGm_3 F)
def TGm_5 (F : Nat) : List Ent := e62 F :: TGm_4 F
theorem FGm_5 (F : Nat) : Fits2 Try.prog (tD (TGm_5 F)) (tS (TGm_5 F)) := fits_cons (o62 (FGm_4 F) ⟨⟩) (FGm_4 F)
def TGm_6 (F : Nat) : List Ent := e97 F :: TGm_5 F
theorem FGm_6 (F : Nat) : Fits2 Try.prog (tD (TGm_6 F)) (tS (TGm_6 F)) := fits_cons (o97 (FGm_5 F) ⟨⟩) (FGm_5 F)
def TGm_7 (F : Nat) : List Ent := e45 F :: TGm_6 F
theorem FGm_7 (F : Nat) : Fits2 Try.prog (tD (TGm_7 F)) (tS (TGm_7 F)) := fits_cons (o45 (FGm_6 F) ⟨fun _ _ _ r h => dn3_put h, rfl, fun _ _ r h => dn2_put h, rfl⟩) (FGm_6 F)
def TGm_8 (F : Nat) : List Ent := e78 F :: TGm_7 F
theorem FGm_8 (F : Nat) : Fits2 Try.prog (tD (TGm_8 F)) (tS (TGm_8 F)) := fits_cons (o78 (FGm_7 F) ⟨⟩) (FGm_7 F)
def TGm_9 (F : Nat) : List Ent := e64 F :: TGm_8 F
theorem FGm_9 (F : Nat) : Fits2 Try.prog (tD (TGm_9 F)) (tS (TGm_9 F)) := fits_cons (o64 (FGm_8 F) ⟨fun _ _ r h => dn2_put h, rfl⟩) (FGm_8 F)
def TGm_10 (F : Nat) : List Ent := e98 F :: TGm_9 F
theorem FGm_10 (F : Nat) : Fits2 Try.prog (tD (TGm_10 F)) (tS (TGm_10 F)) := fits_cons (o98 (FGm_9 F) ⟨⟩) (FGm_9 F)
def TGm_11 (F : Nat) : List Ent := e117 F :: TGm_10 F
theorem FGm_11 (F : Nat) : Fits2 Try.prog (tD (TGm_11 F)) (tS (TGm_11 F)) := fits_cons (o117 (FGm_10 F) ⟨⟩) (FGm_10 F)
def TGm_12 (F : Nat) : List Ent := e111 F :: TGm_11 F
theorem FGm_12 (F : Nat) : Fits2 Try.prog (tD (TGm_12 F)) (tS (TGm_12 F)) := fits_cons (o111 (FGm_11 F) ⟨⟩) (FGm_11 F)
def TGm_13 (F : Nat) : List Ent := e72 F :: TGm_12 F
theorem FGm_13 (F : Nat) : Fits2 Try.prog (tD (TGm_13 F)) (tS (TGm_13 F)) := fits_cons (o72 (FGm_12 F) ⟨fun _ _ r h => dn2_put h, rfl, fun _ _ _ r h => dn3_put h, rfl, fun _ _ r h => dn2_put h, rfl⟩) (FGm_12 F)
def TGm_14 (F : Nat) : List Ent := e63 F :: TGm_13 F
theorem FGm_14 (F : Nat) : Fits2 Try.prog (tD (TGm_14 F)) (tS (TGm_14 F)) := fits_cons (o63 (FGm_13 F) ⟨fun _ _ r h => dn2_put h, rfl, fun _ _ _ r h => dn3_put h, rfl, fun _ _ r h => dn2_put h, rfl⟩) (FGm_13 F)
def TGm_15 (F : Nat) : List Ent := e112 F :: TGm_14 F
theorem FGm_15 (F : Nat) : Fits2 Try.prog (tD (TGm_15 F)) (tS (TGm_15 F)) := fits_cons (o112 (FGm_14 F) ⟨⟩) (FGm_14 F)
def TGm_16 (F : Nat) : List Ent := e65 F F :: TGm_15 F
theorem QGm_16 (F : Nat) : ∀ k, Fits2 Try.prog (tD (e65 F k :: TGm_15 F)) (tS (e65 F k :: TGm_15 F))
  | 0 => fits_cons z65 (FGm_15 F)
  | k + 1 => fits_cons (o65 (QGm_16 F k) ⟨fun _ _ r h => dn2_put h, rfl, fun _ _ r h => dn2_put h, rfl, fun _ _ _ r h => dn3_put h, rfl⟩) (FGm_15 F)
theorem FGm_16 (F : Nat) : Fits2 Try.prog (tD (TGm_16 F)) (tS (TGm_16 F)) := QGm_16 F F
def TGm_17 (F : Nat) : List Ent := e26 F :: TGm_16 F
theorem FGm_17 (F : Nat) : Fits2 Try.prog (tD (TGm_17 F)) (tS (TGm_17 F)) := fits_cons (o26 (FGm_16 F) ⟨fun _ r h => dn1_put h, rfl, fun _ _ _ r h => dn3_put h, rfl, fun _ r h => dn1_put h, rfl, fun _ _ r h => dn2_put h, rfl, fun _ _ _ r h => dn3_put h, rfl⟩) (FGm_16 F)
def TGm_18 (F : Nat) : List Ent := e66 F :: TGm_17 F
theorem FGm_18 (F : Nat) : Fits2 Try.prog (tD (TGm_18 F)) (tS (TGm_18 F)) := fits_cons (o66 (FGm_17 F) ⟨⟩) (FGm_17 F)
def TGm_19 (F : Nat) : List Ent := e141 F :: TGm_18 F
theorem FGm_19 (F : Nat) : Fits2 Try.prog (tD (TGm_19 F)) (tS (TGm_19 F)) := fits_cons (o141 (FGm_18 F) ⟨⟩) (FGm_18 F)
def TGm_20 (F : Nat) : List Ent := e131 F :: TGm_19 F
theorem FGm_20 (F : Nat) : Fits2 Try.prog (tD (TGm_20 F)) (tS (TGm_20 F)) := fits_cons (o131 (FGm_19 F) ⟨fun _ r h => dn1_put h, rfl⟩) (FGm_19 F)
def TGm_21 (F : Nat) : List Ent := e100 F :: TGm_20 F
theorem FGm_21 (F : Nat) : Fits2 Try.prog (tD (TGm_21 F)) (tS (TGm_21 F)) := fits_cons (o100 (FGm_20 F) ⟨fun _ _ r h => dn2_put h, rfl⟩) (FGm_20 F)
def TGm_22 (F : Nat) : List Ent := e50 F :: TGm_21 F
theorem FGm_22 (F : Nat) : Fits2 Try.prog (tD (TGm_22 F)) (tS (TGm_22 F)) := fits_cons (o50 (FGm_21 F) ⟨fun _ _ _ r h => dn3_put h, rfl, fun _ _ r h => dn2_put h, rfl⟩) (FGm_21 F)
def TGm_23 (F : Nat) : List Ent := e55 F :: TGm_22 F
theorem FGm_23 (F : Nat) : Fits2 Try.prog (tD (TGm_23 F)) (tS (TGm_23 F)) := fits_cons (o55 (FGm_22 F) ⟨⟩) (FGm_22 F)
def TGm_24 (F : Nat) : List Ent := e68 F :: TGm_23 F
theorem FGm_24 (F : Nat) : Fits2 Try.prog (tD (TGm_24 F)) (tS (TGm_24 F)) := fits_cons (o68 (FGm_23 F) ⟨⟩) (FGm_23 F)
def TGm_25 (F : Nat) : List Ent := e119 F :: TGm_24 F
theorem FGm_25 (F : Nat) : Fits2 Try.prog (tD (TGm_25 F)) (tS (TGm_25 F)) := fits_cons (o119 (FGm_24 F) ⟨⟩) (FGm_24 F)
def TGm_26 (F : Nat) : List Ent := e76 F :: TGm_25 F
theorem FGm_26 (F : Nat) : Fits2 Try.prog (tD (TGm_26 F)) (tS (TGm_26 F)) := fits_cons (o76 (FGm_25 F) ⟨fun _ _ r h => dn2_put h, rfl⟩) (FGm_25 F)
def TGm_27 (F : Nat) : List Ent := e121 F :: TGm_26 F
theorem FGm_27 (F : Nat) : Fits2 Try.prog (tD (TGm_27 F)) (tS (TGm_27 F)) := fits_cons (o121 (FGm_26 F) ⟨⟩) (FGm_26 F)
def TGm_28 (F : Nat) : List Ent := e113 F :: TGm_27 F
theorem FGm_28 (F : Nat) : Fits2 Try.prog (tD (TGm_28 F)) (tS (TGm_28 F)) := fits_cons (o113 (FGm_27 F) ⟨fun _ r h => dn1_put h, rfl⟩) (FGm_27 F)
def TGm_29 (F : Nat) : List Ent := e67 F :: TGm_28 F
theorem FGm_29 (F : Nat) : Fits2 Try.prog (tD (TGm_29 F)) (tS (TGm_29 F)) := fits_cons (o67 (FGm_28 F) ⟨fun _ r h => dn1_put h, rfl, fun _ _ r h => dn2_put h, rfl, fun _ _ _ r h => dn3_put h, rfl⟩) (FGm_28 F)
def TGm_30 (F : Nat) : List Ent := e27 F :: TGm_29 F
theorem FGm_30 (F : Nat) : Fits2 Try.prog (tD (TGm_30 F)) (tS (TGm_30 F)) := fits_cons (o27 (FGm_29 F) ⟨fun _ r h => dn1_put h, rfl, fun _ _ _ r h => dn3_put h, rfl, fun _ r h => dn1_put h, rfl, fun _ r h => dn1_put h, rfl, fun _ r h => dn1_put h, rfl⟩) (FGm_29 F)
def TGm_31 (F : Nat) : List Ent := e104 F :: TGm_30 F
theorem FGm_31 (F : Nat) : Fits2 Try.prog (tD (TGm_31 F)) (tS (TGm_31 F)) := fits_cons (o104 (FGm_30 F) ⟨⟩) (FGm_30 F)
def TGm_32 (F : Nat) : List Ent := e53 F :: TGm_31 F
theorem FGm_32 (F : Nat) : Fits2 Try.prog (tD (TGm_32 F)) (tS (TGm_32 F)) := fits_cons (o53 (FGm_31 F) ⟨fun _ _ r h => dn2_put h, rfl⟩) (FGm_31 F)
def TGm_33 (F : Nat) : List Ent := e20 F :: TGm_32 F
theorem FGm_33 (F : Nat) : Fits2 Try.prog (tD (TGm_33 F)) (tS (TGm_33 F)) := fits_cons (o20 (FGm_32 F) ⟨fun _ _ r h => dn2_put h, rfl⟩) (FGm_32 F)
def TGm_34 (F : Nat) : List Ent := e6 F :: TGm_33 F
theorem FGm_34 (F : Nat) : Fits2 Try.prog (tD (TGm_34 F)) (tS (TGm_34 F)) := fits_cons (o6 (FGm_33 F) ⟨fun _ _ r h => dn2_put h, rfl, fun _ r h => dn1_put h, rfl, fun _ _ r h => dn2_put h, rfl, fun _ _ r h => dn2_put h, rfl, fun _ _ r h => dn2_put h, rfl⟩) (FGm_33 F)
theorem law6 (F : Nat) (x0 : (Int × (List (Int × Int)))) (x1 : Int) (h : w_FnExactStayersWin F x0 x1 = some true) : Contract Try.prog 6 0 false [Enc.enc x0, Enc.enc x1] (.bool true) := (FGm_34 F).con 6 _ _ 0 false (dn2_put h) rfl
end Go.Zq
