/- The table of the functions' contracts. No further condition. -/
import Derived.Test.YtikifjdbaggajaaK2
import Derived.Test.YtikifjdbaggajaaProg
import Derived.Test.YtikifjdbaggajaaChecked
import Derived.KernelRfl
import Derived.Test.YtikifjdbaggajaaG2
set_option linter.unusedVariables false
set_option linter.unusedSimpArgs false
/- Functions of the program, as typed functions, and that the machine runs as they say. -/
namespace Go.Zq
open Go.Proofs
def TGe_0 (F : Nat) : List Ent := [e29 F]
theorem FGe_0 (F : Nat) : Fits2 Try.prog (tD (TGe_0 F)) (tS (TGe_0 F)) := fits_cons (o29 fits_nil ⟨⟩) fits_nil
def TGe_1 (F : Nat) : List Ent := e9 F :: TGe_0 F
theorem FGe_1 (F : Nat) : Fits2 Try.prog (tD (TGe_1 F)) (tS (TGe_1 F)) := fits_cons (o9 (FGe_0 F) ⟨fun _ _ r h => dn2_put h, rfl⟩) (FGe_0 F)
def TGe_2 (F : Nat) : List Ent := e59 F :: TGe_1 F
theorem FGe_2 (F : Nat) : Fits2 Try.prog (tD (TGe_2 F)) (tS (TGe_2 F)) := fits_cons (o59 (FGe_1 F) ⟨⟩) (FGe_1 F)
def TGe_3 (F : Nat) : List Ent := e32 F :: TGe_2 F
theorem FGe_3 (F : Nat) : Fits2 Try.prog (tD (TGe_3 F)) (tS (TGe_3 F)) := fits_cons (o32 (FGe_2 F) ⟨fun _ r h => dn1_put h, rfl⟩) (FGe_2 F)
def TGe_4 (F : Nat) : List Ent := e11 F :: TGe_3 F
theorem FGe_4 (F : Nat) : Fits2 Try.prog (tD (TGe_4 F)) (tS (TGe_4 F)) := fits_cons (o11 (FGe_3 F) ⟨fun _ r h => dn1_put h, rfl⟩) (FGe_3 F)
def TGe_5 (F : Nat) : List Ent := e56 F :: TGe_4 F
theorem FGe_5 (F : Nat) : Fits2 Try.prog (tD (TGe_5 F)) (tS (TGe_5 F)) := fits_cons (o56 (FGe_4 F) ⟨⟩) (FGe_4 F)
def TGe_6 (F : Nat) : List Ent := e57 F :: TGe_5 F
theorem FGe_6 (F : Nat) : Fits2 Try.prog (tD (TGe_6 F)) (tS (TGe_6 F)) := fits_cons (o57 (FGe_5 F) ⟨⟩) (FGe_5 F)
def TGe_7 (F : Nat) : List Ent := e30 F :: TGe_6 F
theorem FGe_7 (F : Nat) : Fits2 Try.prog (tD (TGe_7 F)) (tS (TGe_7 F)) := fits_cons (o30 (FGe_6 F) ⟨fun _ _ _ r h => dn3_put h, rfl, fun _ _ r h => dn2_put h, rfl⟩) (FGe_6 F)
def TGe_8 (F : Nat) : List Ent := e68 F :: TGe_7 F
theorem FGe_8 (F : Nat) : Fits2 Try.prog (tD (TGe_8 F)) (tS (TGe_8 F)) := fits_cons (o68 (FGe_7 F) ⟨⟩) (FGe_7 F)
def TGe_9 (F : Nat) : List Ent := e71 F :: TGe_8 F
theorem FGe_9 (F : Nat) : Fits2 Try.prog (tD (TGe_9 F)) (tS (TGe_9 F)) := fits_cons (o71 (FGe_8 F) ⟨fun _ _ _ r h => dn3_put h, rfl⟩) (FGe_8 F)
def TGe_10 (F : Nat) : List Ent := e46 F :: TGe_9 F
theorem FGe_10 (F : Nat) : Fits2 Try.prog (tD (TGe_10 F)) (tS (TGe_10 F)) := fits_cons (o46 (FGe_9 F) ⟨fun _ r h => dn1_put h, rfl, fun _ _ _ r h => dn3_put h, rfl⟩) (FGe_9 F)
def TGe_11 (F : Nat) : List Ent := e45 F :: TGe_10 F
theorem FGe_11 (F : Nat) : Fits2 Try.prog (tD (TGe_11 F)) (tS (TGe_11 F)) := fits_cons (o45 (FGe_10 F) ⟨⟩) (FGe_10 F)
def TGe_12 (F : Nat) : List Ent := e25 F :: TGe_11 F
theorem FGe_12 (F : Nat) : Fits2 Try.prog (tD (TGe_12 F)) (tS (TGe_12 F)) := fits_cons (o25 (FGe_11 F) ⟨fun _ r h => dn1_put h, rfl, fun _ _ _ r h => dn3_put h, rfl, fun _ _ r h => dn2_put h, rfl⟩) (FGe_11 F)
def TGe_13 (F : Nat) : List Ent := e60 F :: TGe_12 F
theorem FGe_13 (F : Nat) : Fits2 Try.prog (tD (TGe_13 F)) (tS (TGe_13 F)) := fits_cons (o60 (FGe_12 F) ⟨⟩) (FGe_12 F)
def TGe_14 (F : Nat) : List Ent := e80 F :: TGe_13 F
theorem FGe_14 (F : Nat) : Fits2 Try.prog (tD (TGe_14 F)) (tS (TGe_14 F)) := fits_cons (o80 (FGe_13 F) ⟨⟩) (FGe_13 F)
def TGe_15 (F : Nat) : List Ent := e78 F :: TGe_14 F
theorem FGe_15 (F : Nat) : Fits2 Try.prog (tD (TGe_15 F)) (tS (TGe_15 F)) := fits_cons (o78 (FGe_14 F) ⟨fun _ r h => dn1_put h, rfl⟩) (FGe_14 F)
def TGe_16 (F : Nat) : List Ent := e61 F :: TGe_15 F
theorem FGe_16 (F : Nat) : Fits2 Try.prog (tD (TGe_16 F)) (tS (TGe_16 F)) := fits_cons (o61 (FGe_15 F) ⟨fun _ _ r h => dn2_put h, rfl⟩) (FGe_15 F)
def TGe_17 (F : Nat) : List Ent := e33 F :: TGe_16 F
theorem FGe_17 (F : Nat) : Fits2 Try.prog (tD (TGe_17 F)) (tS (TGe_17 F)) := fits_cons (o33 (FGe_16 F) ⟨fun _ _ _ r h => dn3_put h, rfl, fun _ _ r h => dn2_put h, rfl⟩) (FGe_16 F)
def TGe_18 (F : Nat) : List Ent := e42 F :: TGe_17 F
theorem FGe_18 (F : Nat) : Fits2 Try.prog (tD (TGe_18 F)) (tS (TGe_18 F)) := fits_cons (o42 (FGe_17 F) ⟨⟩) (FGe_17 F)
def TGe_19 (F : Nat) : List Ent := e74 F :: TGe_18 F
theorem FGe_19 (F : Nat) : Fits2 Try.prog (tD (TGe_19 F)) (tS (TGe_19 F)) := fits_cons (o74 (FGe_18 F) ⟨⟩) (FGe_18 F)
def TGe_20 (F : Nat) : List Ent := e48 F :: TGe_19 F
theorem FGe_20 (F : Nat) : Fits2 Try.prog (tD (TGe_20 F)) (tS (TGe_20 F)) := fits_cons (o48 (FGe_19 F) ⟨fun _ _ r h => dn2_put h, rfl⟩) (FGe_19 F)
def TGe_21 (F : Nat) : List Ent := e73 F :: TGe_20 F
theorem FGe_21 (F : Nat) : Fits2 Try.prog (tD (TGe_21 F)) (tS (TGe_21 F)) := fits_cons (o73 (FGe_20 F) ⟨⟩) (FGe_20 F)
def TGe_22 (F : Nat) : List Ent := e47 F :: TGe_21 F
theorem FGe_22 (F : Nat) : Fits2 Try.prog (tD (TGe_22 F)) (tS (TGe_22 F)) := fits_cons (o47 (FGe_21 F) ⟨fun _ r h => dn1_put h, rfl⟩) (FGe_21 F)
def TGe_23 (F : Nat) : List Ent := e26 F :: TGe_22 F
theorem FGe_23 (F : Nat) : Fits2 Try.prog (tD (TGe_23 F)) (tS (TGe_23 F)) := fits_cons (o26 (FGe_22 F) ⟨fun _ r h => dn1_put h, rfl, fun _ r h => dn1_put h, rfl, fun _ _ _ r h => dn3_put h, rfl, fun _ r h => dn1_put h, rfl⟩) (FGe_22 F)
def TGe_24 (F : Nat) : List Ent := e64 F :: TGe_23 F
theorem FGe_24 (F : Nat) : Fits2 Try.prog (tD (TGe_24 F)) (tS (TGe_24 F)) := fits_cons (o64 (FGe_23 F) ⟨⟩) (FGe_23 F)
def TGe_25 (F : Nat) : List Ent := e35 F :: TGe_24 F
theorem FGe_25 (F : Nat) : Fits2 Try.prog (tD (TGe_25 F)) (tS (TGe_25 F)) := fits_cons (o35 (FGe_24 F) ⟨fun _ _ r h => dn2_put h, rfl⟩) (FGe_24 F)
def TGe_26 (F : Nat) : List Ent := e14 F :: TGe_25 F
theorem FGe_26 (F : Nat) : Fits2 Try.prog (tD (TGe_26 F)) (tS (TGe_26 F)) := fits_cons (o14 (FGe_25 F) ⟨fun _ _ r h => dn2_put h, rfl⟩) (FGe_25 F)
def TGe_27 (F : Nat) : List Ent := e7 F :: TGe_26 F
theorem FGe_27 (F : Nat) : Fits2 Try.prog (tD (TGe_27 F)) (tS (TGe_27 F)) := fits_cons (o7 (FGe_26 F) ⟨fun _ _ r h => dn2_put h, rfl, fun _ r h => dn1_put h, rfl, fun _ r h => dn1_put h, rfl, fun _ r h => dn1_put h, rfl, fun _ _ r h => dn2_put h, rfl⟩) (FGe_26 F)
theorem law7 (F : Nat) (x0 : (Int × (List (Int × Int)))) (h : w_FnExactBandwidthBound F x0 = some true) : Contract Try.prog 7 0 false [Enc.enc x0] (.bool true) := (FGe_27 F).con 7 _ _ 0 false (dn1_put h) rfl
end Go.Zq
