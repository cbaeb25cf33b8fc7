/- The table of the functions' contracts. No further condition. -/
import Derived.Test.YtodihaaheneikaaK2
import Derived.Test.YtodihaaheneikaaProg
import Derived.Test.YtodihaaheneikaaChecked
import Derived.KernelRfl
import Derived.Test.YtodihaaheneikaaG3
set_option linter.unusedVariables false
set_option linter.unusedSimpArgs false
/- Functions of the program, as typed functions, and that the machine runs as they say. -/
namespace Go.Zq
open Go.Proofs
def TGo5_0 (F : Nat) : List Ent := e41 F :: []
theorem FGo5_0 (F : Nat) : Fits2 Try.prog (tD (TGo5_0 F)) (tS (TGo5_0 F)) := fits_cons (o41 (fits_nil) ⟨⟩) (fits_nil) (.inl rfl)
def TGo5_1 (F : Nat) : List Ent := e11 F :: TGo5_0 F
theorem FGo5_1 (F : Nat) : Fits2 Try.prog (tD (TGo5_1 F)) (tS (TGo5_1 F)) := fits_cons (o11 (FGo5_0 F) ⟨fun _ _ r h => p41 h, rfl⟩) (FGo5_0 F) (.inl rfl)
def TGo5_2 (F : Nat) : List Ent := e51 F :: TGo5_1 F
theorem FGo5_2 (F : Nat) : Fits2 Try.prog (tD (TGo5_2 F)) (tS (TGo5_2 F)) := fits_cons (o51 (FGo5_1 F) ⟨⟩) (FGo5_1 F) (.inl rfl)
def TGo5_3 (F : Nat) : List Ent := e20 F :: TGo5_2 F
theorem FGo5_3 (F : Nat) : Fits2 Try.prog (tD (TGo5_3 F)) (tS (TGo5_3 F)) := fits_cons (o20 (FGo5_2 F) ⟨fun _ _ r h => p51 h, rfl⟩) (FGo5_2 F) (.inl rfl)
def TGo5_4 (F : Nat) : List Ent := e73 F :: TGo5_3 F
theorem FGo5_4 (F : Nat) : Fits2 Try.prog (tD (TGo5_4 F)) (tS (TGo5_4 F)) := fits_cons (o73 (FGo5_3 F) ⟨⟩) (FGo5_3 F) (.inl rfl)
def TGo5_5 (F : Nat) : List Ent := e46 F :: TGo5_4 F
theorem FGo5_5 (F : Nat) : Fits2 Try.prog (tD (TGo5_5 F)) (tS (TGo5_5 F)) := fits_cons (o46 (FGo5_4 F) ⟨fun _ r h => p73 h, rfl⟩) (FGo5_4 F) (.inl rfl)
def TGo5_6 (F : Nat) : List Ent := e13 F :: TGo5_5 F
theorem FGo5_6 (F : Nat) : Fits2 Try.prog (tD (TGo5_6 F)) (tS (TGo5_6 F)) := fits_cons (o13 (FGo5_5 F) ⟨fun _ r h => p46 h, rfl⟩) (FGo5_5 F) (.inl rfl)
def TGo5_7 (F : Nat) : List Ent := e14 F :: TGo5_6 F
theorem FGo5_7 (F : Nat) : Fits2 Try.prog (tD (TGo5_7 F)) (tS (TGo5_7 F)) := fits_cons (o14 (FGo5_6 F) ⟨⟩) (FGo5_6 F) (.inl rfl)
def TGo5_8 (F : Nat) : List Ent := e22 F :: TGo5_7 F
theorem FGo5_8 (F : Nat) : Fits2 Try.prog (tD (TGo5_8 F)) (tS (TGo5_8 F)) := fits_cons (o22 (FGo5_7 F) ⟨fun _ r h => p14 h, rfl⟩) (FGo5_7 F) (.inl rfl)
def TGo5_9 (F : Nat) : List Ent := e65 F :: TGo5_8 F
theorem FGo5_9 (F : Nat) : Fits2 Try.prog (tD (TGo5_9 F)) (tS (TGo5_9 F)) := fits_cons (o65 (FGo5_8 F) ⟨⟩) (FGo5_8 F) (.inl rfl)
def TGo5_10 (F : Nat) : List Ent := e69 F :: TGo5_9 F
theorem FGo5_10 (F : Nat) : Fits2 Try.prog (tD (TGo5_10 F)) (tS (TGo5_10 F)) := fits_cons (o69 (FGo5_9 F) ⟨⟩) (FGo5_9 F) (.inl rfl)
def TGo5_11 (F : Nat) : List Ent := e42 F :: TGo5_10 F
theorem FGo5_11 (F : Nat) : Fits2 Try.prog (tD (TGo5_11 F)) (tS (TGo5_11 F)) := fits_cons (o42 (FGo5_10 F) ⟨fun _ _ _ r h => p65 h, rfl, fun _ _ r h => p69 h, rfl⟩) (FGo5_10 F) (.inl rfl)
def TGo5_12 (F : Nat) : List Ent := e120 F :: TGo5_11 F
theorem FGo5_12 (F : Nat) : Fits2 Try.prog (tD (TGo5_12 F)) (tS (TGo5_12 F)) := fits_cons (o120 (FGo5_11 F) ⟨fun _ _ _ r h => p65 h, rfl⟩) (FGo5_11 F) (.inl rfl)
def TGo5_13 (F : Nat) : List Ent := e89 F :: TGo5_12 F
theorem FGo5_13 (F : Nat) : Fits2 Try.prog (tD (TGo5_13 F)) (tS (TGo5_13 F)) := fits_cons (o89 (FGo5_12 F) ⟨fun _ _ _ r h => p120 h, rfl⟩) (FGo5_12 F) (.inl rfl)
def TGo5_14 (F : Nat) : List Ent := e78 F :: TGo5_13 F
theorem FGo5_14 (F : Nat) : Fits2 Try.prog (tD (TGo5_14 F)) (tS (TGo5_14 F)) := fits_cons (o78 (FGo5_13 F) ⟨fun _ _ r h => p89 h, rfl⟩) (FGo5_13 F) (.inl rfl)
def TGo5_15 (F : Nat) : List Ent := e45 F :: TGo5_14 F
theorem FGo5_15 (F : Nat) : Fits2 Try.prog (tD (TGo5_15 F)) (tS (TGo5_15 F)) := fits_cons (o45 (FGo5_14 F) ⟨⟩) (FGo5_14 F) (.inl rfl)
def TGo5_16 (F : Nat) : List Ent := e79 F :: TGo5_15 F
theorem FGo5_16 (F : Nat) : Fits2 Try.prog (tD (TGo5_16 F)) (tS (TGo5_16 F)) := fits_cons (o79 (FGo5_15 F) ⟨fun _ _ r h => p45 h, rfl⟩) (FGo5_15 F) (.inl rfl)
def TGo5_17 (F : Nat) : List Ent := e80 F :: TGo5_16 F
theorem FGo5_17 (F : Nat) : Fits2 Try.prog (tD (TGo5_17 F)) (tS (TGo5_17 F)) := fits_cons (o80 (FGo5_16 F) ⟨fun _ _ r h => p45 h, rfl⟩) (FGo5_16 F) (.inl rfl)
def TGo5_18 (F : Nat) : List Ent := e52 F :: TGo5_17 F
theorem FGo5_18 (F : Nat) : Fits2 Try.prog (tD (TGo5_18 F)) (tS (TGo5_18 F)) := fits_cons (o52 (FGo5_17 F) ⟨fun _ _ r h => p78 h, rfl, fun _ _ r h => p79 h, rfl, fun _ _ _ r h => p80 h, rfl⟩) (FGo5_17 F) (.inl rfl)
def TGo5_19 (F : Nat) : List Ent := e21 F :: TGo5_18 F
theorem FGo5_19 (F : Nat) : Fits2 Try.prog (tD (TGo5_19 F)) (tS (TGo5_19 F)) := fits_cons (o21 (FGo5_18 F) ⟨fun _ r h => p42 h, rfl, fun _ _ r h => p52 h, rfl⟩) (FGo5_18 F) (.inl rfl)
def TGo5_20 (F : Nat) : List Ent := e62 F :: TGo5_19 F
theorem FGo5_20 (F : Nat) : Fits2 Try.prog (tD (TGo5_20 F)) (tS (TGo5_20 F)) := fits_cons (o62 (FGo5_19 F) ⟨⟩) (FGo5_19 F) (.inl rfl)
def TGo5_21 (F : Nat) : List Ent := e131 F :: TGo5_20 F
theorem FGo5_21 (F : Nat) : Fits2 Try.prog (tD (TGo5_21 F)) (tS (TGo5_21 F)) := fits_cons (o131 (FGo5_20 F) ⟨⟩) (FGo5_20 F) (.inl rfl)
def TGo5_22 (F : Nat) : List Ent := e114 F :: TGo5_21 F
theorem FGo5_22 (F : Nat) : Fits2 Try.prog (tD (TGo5_22 F)) (tS (TGo5_22 F)) := fits_cons (o114 (FGo5_21 F) ⟨fun _ r h => p131 h, rfl⟩) (FGo5_21 F) (.inl rfl)
def TGo5_23 (F : Nat) : List Ent := e81 F :: TGo5_22 F
theorem FGo5_23 (F : Nat) : Fits2 Try.prog (tD (TGo5_23 F)) (tS (TGo5_23 F)) := fits_cons (o81 (FGo5_22 F) ⟨fun _ _ r h => p114 h, rfl⟩) (FGo5_22 F) (.inl rfl)
def TGo5_24 (F : Nat) : List Ent := e53 F :: TGo5_23 F
theorem FGo5_24 (F : Nat) : Fits2 Try.prog (tD (TGo5_24 F)) (tS (TGo5_24 F)) := fits_cons (o53 (FGo5_23 F) ⟨fun _ _ _ r h => p62 h, rfl, fun _ _ r h => p81 h, rfl⟩) (FGo5_23 F) (.inl rfl)
def TGo5_25 (F : Nat) : List Ent := e132 F :: TGo5_24 F
theorem FGo5_25 (F : Nat) : Fits2 Try.prog (tD (TGo5_25 F)) (tS (TGo5_25 F)) := fits_cons (o132 (FGo5_24 F) ⟨fun _ _ _ r h => p62 h, rfl⟩) (FGo5_24 F) (.inl rfl)
def TGo5_26 (F : Nat) : List Ent := e116 F :: TGo5_25 F
theorem FGo5_26 (F : Nat) : Fits2 Try.prog (tD (TGo5_26 F)) (tS (TGo5_26 F)) := fits_cons (o116 (FGo5_25 F) ⟨fun _ r h => p53 h, rfl, fun _ _ _ r h => p132 h, rfl⟩) (FGo5_25 F) (.inl rfl)
def TGo5_27 (F : Nat) : List Ent := e117 F :: TGo5_26 F
theorem FGo5_27 (F : Nat) : Fits2 Try.prog (tD (TGo5_27 F)) (tS (TGo5_27 F)) := fits_cons (o117 (FGo5_26 F) ⟨⟩) (FGo5_26 F) (.inl rfl)
def TGo5_28 (F : Nat) : List Ent := e84 F :: TGo5_27 F
theorem FGo5_28 (F : Nat) : Fits2 Try.prog (tD (TGo5_28 F)) (tS (TGo5_28 F)) := fits_cons (o84 (FGo5_27 F) ⟨fun _ _ r h => p116 h, rfl, fun _ r h => p117 h, rfl⟩) (FGo5_27 F) (.inl rfl)
def TGo5_29 (F : Nat) : List Ent := e83 F :: TGo5_28 F
theorem FGo5_29 (F : Nat) : Fits2 Try.prog (tD (TGo5_29 F)) (tS (TGo5_29 F)) := fits_cons (o83 (FGo5_28 F) ⟨fun _ _ r h => p84 h, rfl⟩) (FGo5_28 F) (.inl rfl)
def TGo5_30 (F : Nat) : List Ent := e115s1 F :: TGo5_29 F
theorem FGo5_30 (F : Nat) : Fits2 Try.prog (tD (TGo5_30 F)) (tS (TGo5_30 F)) := fits_cons (o115s1 (FGo5_29 F) ⟨fun _ _ r h => p83 h, rfl⟩) (FGo5_29 F) (.inl rfl)
def TGo5_31 (F : Nat) : List Ent := e82s1 F :: TGo5_30 F
theorem FGo5_31 (F : Nat) : Fits2 Try.prog (tD (TGo5_31 F)) (tS (TGo5_31 F)) := fits_cons (o82s1 (FGo5_30 F) ⟨fun _ _ r h => p115s1 h, rfl⟩) (FGo5_30 F) (.inl rfl)
def TGo5_32 (F : Nat) : List Ent := e118 F :: TGo5_31 F
theorem FGo5_32 (F : Nat) : Fits2 Try.prog (tD (TGo5_32 F)) (tS (TGo5_32 F)) := fits_cons (o118 (FGo5_31 F) ⟨⟩) (FGo5_31 F) (.inl rfl)
def TGo5_33 (F : Nat) : List Ent := e85 F :: TGo5_32 F
theorem FGo5_33 (F : Nat) : Fits2 Try.prog (tD (TGo5_33 F)) (tS (TGo5_33 F)) := fits_cons (o85 (FGo5_32 F) ⟨fun _ _ r h => p118 h, rfl⟩) (FGo5_32 F) (.inl rfl)
def TGo5_34 (F : Nat) : List Ent := e88 F :: TGo5_33 F
theorem FGo5_34 (F : Nat) : Fits2 Try.prog (tD (TGo5_34 F)) (tS (TGo5_34 F)) := fits_cons (o88 (FGo5_33 F) ⟨fun _ _ r h => p85 h, rfl⟩) (FGo5_33 F) (.inl rfl)
def TGo5_35 (F : Nat) : List Ent := e115s2 F :: TGo5_34 F
theorem FGo5_35 (F : Nat) : Fits2 Try.prog (tD (TGo5_35 F)) (tS (TGo5_35 F)) := fits_cons (o115s2 (FGo5_34 F) ⟨fun _ _ r h => p88 h, rfl⟩) (FGo5_34 F) (.inr rfl)
def TGo5_36 (F : Nat) : List Ent := e82s2 F :: TGo5_35 F
theorem FGo5_36 (F : Nat) : Fits2 Try.prog (tD (TGo5_36 F)) (tS (TGo5_36 F)) := fits_cons (o82s2 (FGo5_35 F) ⟨fun _ _ r h => p115s2 h, rfl⟩) (FGo5_35 F) (.inr rfl)
def TGo5_37 (F : Nat) : List Ent := e87 F :: TGo5_36 F
theorem FGo5_37 (F : Nat) : Fits2 Try.prog (tD (TGo5_37 F)) (tS (TGo5_37 F)) := fits_cons (o87 (FGo5_36 F) ⟨fun _ _ r h => p82s2 h, rfl⟩) (FGo5_36 F) (.inl rfl)
def TGo5_38 (F : Nat) : List Ent := e119s1 F :: TGo5_37 F
theorem FGo5_38 (F : Nat) : Fits2 Try.prog (tD (TGo5_38 F)) (tS (TGo5_38 F)) := fits_cons (o119s1 (FGo5_37 F) ⟨fun _ _ r h => p87 h, rfl⟩) (FGo5_37 F) (.inl rfl)
def TGo5_39 (F : Nat) : List Ent := e86s1 F :: TGo5_38 F
theorem FGo5_39 (F : Nat) : Fits2 Try.prog (tD (TGo5_39 F)) (tS (TGo5_39 F)) := fits_cons (o86s1 (FGo5_38 F) ⟨fun _ _ r h => p119s1 h, rfl⟩) (FGo5_38 F) (.inl rfl)
def TGo5_40 (F : Nat) : List Ent := e54 F :: TGo5_39 F
theorem FGo5_40 (F : Nat) : Fits2 Try.prog (tD (TGo5_40 F)) (tS (TGo5_40 F)) := fits_cons (o54 (FGo5_39 F) ⟨fun _ _ r h => p82s1 h, rfl, fun _ _ r h => p85 h, rfl, fun _ _ r h => p86s1 h, rfl⟩) (FGo5_39 F) (.inl rfl)
def TGo5_41 (F : Nat) : List Ent := e23 F :: TGo5_40 F
theorem FGo5_41 (F : Nat) : Fits2 Try.prog (tD (TGo5_41 F)) (tS (TGo5_41 F)) := fits_cons (o23 (FGo5_40 F) ⟨fun _ r h => p53 h, rfl, fun _ _ r h => p54 h, rfl⟩) (FGo5_40 F) (.inl rfl)
def TGo5_42 (F : Nat) : List Ent := e75 F :: TGo5_41 F
theorem FGo5_42 (F : Nat) : Fits2 Try.prog (tD (TGo5_42 F)) (tS (TGo5_42 F)) := fits_cons (o75 (FGo5_41 F) ⟨⟩) (FGo5_41 F) (.inl rfl)
def TGo5_43 (F : Nat) : List Ent := e48 F :: TGo5_42 F
theorem FGo5_43 (F : Nat) : Fits2 Try.prog (tD (TGo5_43 F)) (tS (TGo5_43 F)) := fits_cons (o48 (FGo5_42 F) ⟨fun _ _ r h => p75 h, rfl⟩) (FGo5_42 F) (.inl rfl)
def TGo5_44 (F : Nat) : List Ent := e16 F :: TGo5_43 F
theorem FGo5_44 (F : Nat) : Fits2 Try.prog (tD (TGo5_44 F)) (tS (TGo5_44 F)) := fits_cons (o16 (FGo5_43 F) ⟨fun _ _ r h => p48 h, rfl⟩) (FGo5_43 F) (.inl rfl)
def TGo5_45 (F : Nat) : List Ent := e17 F :: TGo5_44 F
theorem FGo5_45 (F : Nat) : Fits2 Try.prog (tD (TGo5_45 F)) (tS (TGo5_45 F)) := fits_cons (o17 (FGo5_44 F) ⟨⟩) (FGo5_44 F) (.inl rfl)
def TGo5_46 (F : Nat) : List Ent := e24 F :: TGo5_45 F
theorem FGo5_46 (F : Nat) : Fits2 Try.prog (tD (TGo5_46 F)) (tS (TGo5_46 F)) := fits_cons (o24 (FGo5_45 F) ⟨fun _ _ r h => p17 h, rfl⟩) (FGo5_45 F) (.inl rfl)
def TGo5_47 (F : Nat) : List Ent := e5 F :: TGo5_46 F
theorem FGo5_47 (F : Nat) : Fits2 Try.prog (tD (TGo5_47 F)) (tS (TGo5_47 F)) := fits_cons (o5 (FGo5_46 F) ⟨fun _ _ r h => p11 h, rfl, fun _ _ r h => p20 h, rfl, fun _ r h => p13 h, rfl, fun _ r h => p22 h, rfl, fun _ _ r h => p21 h, rfl, fun _ _ r h => p23 h, rfl, fun _ _ r h => p16 h, rfl, fun _ _ r h => p24 h, rfl⟩) (FGo5_46 F) (.inl rfl)
theorem law5 (F : Nat) (x0 : (Int × (List (Int × Int)))) (x1 : (List (List Int))) (h : w_FnExactIsPathDecomposition F x0 x1 = some true) : Contract Try.prog 5 0 false [Enc.enc x0, Enc.enc x1] (.bool true) := (FGo5_47 F).con 5 _ _ 0 false (p5 h) rfl
end Go.Zq
