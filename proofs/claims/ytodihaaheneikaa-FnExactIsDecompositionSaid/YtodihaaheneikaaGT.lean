/- The table of the functions' contracts. No further condition. -/
import Derived.Test.YtodihaaheneikaaK2
import Derived.Test.YtodihaaheneikaaProg
import Derived.Test.YtodihaaheneikaaChecked
import Derived.KernelRfl
import Derived.Test.YtodihaaheneikaaG4
set_option linter.unusedVariables false
set_option linter.unusedSimpArgs false
/- Functions of the program, as typed functions, and that the machine runs as they say. -/
namespace Go.Zq
open Go.Proofs
def TGo7_0 (F : Nat) : List Ent := e41 F :: []
theorem FGo7_0 (F : Nat) : Fits2 Try.prog (tD (TGo7_0 F)) (tS (TGo7_0 F)) := fits_cons (o41 (fits_nil) ⟨⟩) (fits_nil) (.inl rfl)
def TGo7_1 (F : Nat) : List Ent := e11 F :: TGo7_0 F
theorem FGo7_1 (F : Nat) : Fits2 Try.prog (tD (TGo7_1 F)) (tS (TGo7_1 F)) := fits_cons (o11 (FGo7_0 F) ⟨fun _ _ r h => p41 h, rfl⟩) (FGo7_0 F) (.inl rfl)
def TGo7_2 (F : Nat) : List Ent := e51 F :: TGo7_1 F
theorem FGo7_2 (F : Nat) : Fits2 Try.prog (tD (TGo7_2 F)) (tS (TGo7_2 F)) := fits_cons (o51 (FGo7_1 F) ⟨⟩) (FGo7_1 F) (.inl rfl)
def TGo7_3 (F : Nat) : List Ent := e20 F :: TGo7_2 F
theorem FGo7_3 (F : Nat) : Fits2 Try.prog (tD (TGo7_3 F)) (tS (TGo7_3 F)) := fits_cons (o20 (FGo7_2 F) ⟨fun _ _ r h => p51 h, rfl⟩) (FGo7_2 F) (.inl rfl)
def TGo7_4 (F : Nat) : List Ent := e27 F :: TGo7_3 F
theorem FGo7_4 (F : Nat) : Fits2 Try.prog (tD (TGo7_4 F)) (tS (TGo7_4 F)) := fits_cons (o27 (FGo7_3 F) ⟨fun _ _ r h => p20 h, rfl, fun _ _ r h => p41 h, rfl⟩) (FGo7_3 F) (.inl rfl)
def TGo7_5 (F : Nat) : List Ent := e73 F :: TGo7_4 F
theorem FGo7_5 (F : Nat) : Fits2 Try.prog (tD (TGo7_5 F)) (tS (TGo7_5 F)) := fits_cons (o73 (FGo7_4 F) ⟨⟩) (FGo7_4 F) (.inl rfl)
def TGo7_6 (F : Nat) : List Ent := e46 F :: TGo7_5 F
theorem FGo7_6 (F : Nat) : Fits2 Try.prog (tD (TGo7_6 F)) (tS (TGo7_6 F)) := fits_cons (o46 (FGo7_5 F) ⟨fun _ r h => p73 h, rfl⟩) (FGo7_5 F) (.inl rfl)
def TGo7_7 (F : Nat) : List Ent := e13 F :: TGo7_6 F
theorem FGo7_7 (F : Nat) : Fits2 Try.prog (tD (TGo7_7 F)) (tS (TGo7_7 F)) := fits_cons (o13 (FGo7_6 F) ⟨fun _ r h => p46 h, rfl⟩) (FGo7_6 F) (.inl rfl)
def TGo7_8 (F : Nat) : List Ent := e14 F :: TGo7_7 F
theorem FGo7_8 (F : Nat) : Fits2 Try.prog (tD (TGo7_8 F)) (tS (TGo7_8 F)) := fits_cons (o14 (FGo7_7 F) ⟨⟩) (FGo7_7 F) (.inl rfl)
def TGo7_9 (F : Nat) : List Ent := e22 F :: TGo7_8 F
theorem FGo7_9 (F : Nat) : Fits2 Try.prog (tD (TGo7_9 F)) (tS (TGo7_9 F)) := fits_cons (o22 (FGo7_8 F) ⟨fun _ r h => p14 h, rfl⟩) (FGo7_8 F) (.inl rfl)
def TGo7_10 (F : Nat) : List Ent := e29 F :: TGo7_9 F
theorem FGo7_10 (F : Nat) : Fits2 Try.prog (tD (TGo7_10 F)) (tS (TGo7_10 F)) := fits_cons (o29 (FGo7_9 F) ⟨fun _ r h => p22 h, rfl, fun _ r h => p46 h, rfl⟩) (FGo7_9 F) (.inl rfl)
def TGo7_11 (F : Nat) : List Ent := e65 F :: TGo7_10 F
theorem FGo7_11 (F : Nat) : Fits2 Try.prog (tD (TGo7_11 F)) (tS (TGo7_11 F)) := fits_cons (o65 (FGo7_10 F) ⟨⟩) (FGo7_10 F) (.inl rfl)
def TGo7_12 (F : Nat) : List Ent := e69 F :: TGo7_11 F
theorem FGo7_12 (F : Nat) : Fits2 Try.prog (tD (TGo7_12 F)) (tS (TGo7_12 F)) := fits_cons (o69 (FGo7_11 F) ⟨⟩) (FGo7_11 F) (.inl rfl)
def TGo7_13 (F : Nat) : List Ent := e42 F :: TGo7_12 F
theorem FGo7_13 (F : Nat) : Fits2 Try.prog (tD (TGo7_13 F)) (tS (TGo7_13 F)) := fits_cons (o42 (FGo7_12 F) ⟨fun _ _ _ r h => p65 h, rfl, fun _ _ r h => p69 h, rfl⟩) (FGo7_12 F) (.inl rfl)
def TGo7_14 (F : Nat) : List Ent := e120 F :: TGo7_13 F
theorem FGo7_14 (F : Nat) : Fits2 Try.prog (tD (TGo7_14 F)) (tS (TGo7_14 F)) := fits_cons (o120 (FGo7_13 F) ⟨fun _ _ _ r h => p65 h, rfl⟩) (FGo7_13 F) (.inl rfl)
def TGo7_15 (F : Nat) : List Ent := e89 F :: TGo7_14 F
theorem FGo7_15 (F : Nat) : Fits2 Try.prog (tD (TGo7_15 F)) (tS (TGo7_15 F)) := fits_cons (o89 (FGo7_14 F) ⟨fun _ _ _ r h => p120 h, rfl⟩) (FGo7_14 F) (.inl rfl)
def TGo7_16 (F : Nat) : List Ent := e124 F :: TGo7_15 F
theorem FGo7_16 (F : Nat) : Fits2 Try.prog (tD (TGo7_16 F)) (tS (TGo7_16 F)) := fits_cons (o124 (FGo7_15 F) ⟨⟩) (FGo7_15 F) (.inl rfl)
def TGo7_17 (F : Nat) : List Ent := e45 F :: TGo7_16 F
theorem FGo7_17 (F : Nat) : Fits2 Try.prog (tD (TGo7_17 F)) (tS (TGo7_17 F)) := fits_cons (o45 (FGo7_16 F) ⟨⟩) (FGo7_16 F) (.inl rfl)
def TGo7_18 (F : Nat) : List Ent := e98 F :: TGo7_17 F
theorem FGo7_18 (F : Nat) : Fits2 Try.prog (tD (TGo7_18 F)) (tS (TGo7_18 F)) := fits_cons (o98 (FGo7_17 F) ⟨fun _ _ r h => p45 h, rfl⟩) (FGo7_17 F) (.inl rfl)
def TGo7_19 (F : Nat) : List Ent := e96 F :: TGo7_18 F
theorem FGo7_19 (F : Nat) : Fits2 Try.prog (tD (TGo7_19 F)) (tS (TGo7_19 F)) := fits_cons (o96 (FGo7_18 F) ⟨fun _ _ _ r h => p65 h, rfl, fun _ _ r h => p89 h, rfl, fun _ _ r h => p69 h, rfl, fun _ r h => p124 h, rfl, fun _ _ r h => p98 h, rfl⟩) (FGo7_18 F) (.inl rfl)
def TGo7_20 (F : Nat) : List Ent := e97 F :: TGo7_19 F
theorem FGo7_20 (F : Nat) : Fits2 Try.prog (tD (TGo7_20 F)) (tS (TGo7_20 F)) := fits_cons (o97 (FGo7_19 F) ⟨fun _ _ r h => p45 h, rfl⟩) (FGo7_19 F) (.inl rfl)
def TGo7_21 (F : Nat) : List Ent := e57 F :: TGo7_20 F
theorem FGo7_21 (F : Nat) : Fits2 Try.prog (tD (TGo7_21 F)) (tS (TGo7_21 F)) := fits_cons (o57 (FGo7_20 F) ⟨fun _ _ r h => p96 h, rfl, fun _ _ r h => p97 h, rfl, fun _ _ r h => p98 h, rfl⟩) (FGo7_20 F) (.inl rfl)
def TGo7_22 (F : Nat) : List Ent := e28 F :: TGo7_21 F
theorem FGo7_22 (F : Nat) : Fits2 Try.prog (tD (TGo7_22 F)) (tS (TGo7_22 F)) := fits_cons (o28 (FGo7_21 F) ⟨fun _ r h => p42 h, rfl, fun _ _ r h => p57 h, rfl⟩) (FGo7_21 F) (.inl rfl)
def TGo7_23 (F : Nat) : List Ent := e62 F :: TGo7_22 F
theorem FGo7_23 (F : Nat) : Fits2 Try.prog (tD (TGo7_23 F)) (tS (TGo7_23 F)) := fits_cons (o62 (FGo7_22 F) ⟨⟩) (FGo7_22 F) (.inl rfl)
def TGo7_24 (F : Nat) : List Ent := e131 F :: TGo7_23 F
theorem FGo7_24 (F : Nat) : Fits2 Try.prog (tD (TGo7_24 F)) (tS (TGo7_24 F)) := fits_cons (o131 (FGo7_23 F) ⟨⟩) (FGo7_23 F) (.inl rfl)
def TGo7_25 (F : Nat) : List Ent := e114 F :: TGo7_24 F
theorem FGo7_25 (F : Nat) : Fits2 Try.prog (tD (TGo7_25 F)) (tS (TGo7_25 F)) := fits_cons (o114 (FGo7_24 F) ⟨fun _ r h => p131 h, rfl⟩) (FGo7_24 F) (.inl rfl)
def TGo7_26 (F : Nat) : List Ent := e81 F :: TGo7_25 F
theorem FGo7_26 (F : Nat) : Fits2 Try.prog (tD (TGo7_26 F)) (tS (TGo7_26 F)) := fits_cons (o81 (FGo7_25 F) ⟨fun _ _ r h => p114 h, rfl⟩) (FGo7_25 F) (.inl rfl)
def TGo7_27 (F : Nat) : List Ent := e53 F :: TGo7_26 F
theorem FGo7_27 (F : Nat) : Fits2 Try.prog (tD (TGo7_27 F)) (tS (TGo7_27 F)) := fits_cons (o53 (FGo7_26 F) ⟨fun _ _ _ r h => p62 h, rfl, fun _ _ r h => p81 h, rfl⟩) (FGo7_26 F) (.inl rfl)
def TGo7_28 (F : Nat) : List Ent := e67 F :: TGo7_27 F
theorem FGo7_28 (F : Nat) : Fits2 Try.prog (tD (TGo7_28 F)) (tS (TGo7_28 F)) := fits_cons (o67 (FGo7_27 F) ⟨⟩) (FGo7_27 F) (.inl rfl)
def TGo7_29 (F : Nat) : List Ent := e123 F :: TGo7_28 F
theorem FGo7_29 (F : Nat) : Fits2 Try.prog (tD (TGo7_29 F)) (tS (TGo7_29 F)) := fits_cons (o123 (FGo7_28 F) ⟨⟩) (FGo7_28 F) (.inl rfl)
def TGo7_30 (F : Nat) : List Ent := e92 F :: TGo7_29 F
theorem FGo7_30 (F : Nat) : Fits2 Try.prog (tD (TGo7_30 F)) (tS (TGo7_30 F)) := fits_cons (o92 (FGo7_29 F) ⟨fun _ _ r h => p123 h, rfl⟩) (FGo7_29 F) (.inl rfl)
def TGo7_31 (F : Nat) : List Ent := e132 F :: TGo7_30 F
theorem FGo7_31 (F : Nat) : Fits2 Try.prog (tD (TGo7_31 F)) (tS (TGo7_31 F)) := fits_cons (o132 (FGo7_30 F) ⟨fun _ _ _ r h => p62 h, rfl⟩) (FGo7_30 F) (.inl rfl)
def TGo7_32 (F : Nat) : List Ent := e116 F :: TGo7_31 F
theorem FGo7_32 (F : Nat) : Fits2 Try.prog (tD (TGo7_32 F)) (tS (TGo7_32 F)) := fits_cons (o116 (FGo7_31 F) ⟨fun _ r h => p53 h, rfl, fun _ _ _ r h => p132 h, rfl⟩) (FGo7_31 F) (.inl rfl)
def TGo7_33 (F : Nat) : List Ent := e117 F :: TGo7_32 F
theorem FGo7_33 (F : Nat) : Fits2 Try.prog (tD (TGo7_33 F)) (tS (TGo7_33 F)) := fits_cons (o117 (FGo7_32 F) ⟨⟩) (FGo7_32 F) (.inl rfl)
def TGo7_34 (F : Nat) : List Ent := e84 F :: TGo7_33 F
theorem FGo7_34 (F : Nat) : Fits2 Try.prog (tD (TGo7_34 F)) (tS (TGo7_34 F)) := fits_cons (o84 (FGo7_33 F) ⟨fun _ _ r h => p116 h, rfl, fun _ r h => p117 h, rfl⟩) (FGo7_33 F) (.inl rfl)
def TGo7_35 (F : Nat) : List Ent := e100 F :: TGo7_34 F
theorem FGo7_35 (F : Nat) : Fits2 Try.prog (tD (TGo7_35 F)) (tS (TGo7_35 F)) := fits_cons (o100 (FGo7_34 F) ⟨fun _ r h => p67 h, rfl, fun _ _ r h => p92 h, rfl⟩) (FGo7_34 F) (.inl rfl)
def TGo7_36 (F : Nat) : List Ent := e125s1 F :: TGo7_35 F
theorem FGo7_36 (F : Nat) : Fits2 Try.prog (tD (TGo7_36 F)) (tS (TGo7_36 F)) := fits_cons (o125s1 (FGo7_35 F) ⟨fun _ _ r h => p100 h, rfl⟩) (FGo7_35 F) (.inl rfl)
def TGo7_37 (F : Nat) : List Ent := e99s1 F :: TGo7_36 F
theorem FGo7_37 (F : Nat) : Fits2 Try.prog (tD (TGo7_37 F)) (tS (TGo7_37 F)) := fits_cons (o99s1 (FGo7_36 F) ⟨fun _ _ r h => p125s1 h, rfl⟩) (FGo7_36 F) (.inl rfl)
def TGo7_38 (F : Nat) : List Ent := e101 F :: TGo7_37 F
theorem FGo7_38 (F : Nat) : Fits2 Try.prog (tD (TGo7_38 F)) (tS (TGo7_38 F)) := fits_cons (o101 (FGo7_37 F) ⟨⟩) (FGo7_37 F) (.inl rfl)
def TGo7_39 (F : Nat) : List Ent := e119s1 F :: TGo7_38 F
theorem FGo7_39 (F : Nat) : Fits2 Try.prog (tD (TGo7_39 F)) (tS (TGo7_39 F)) := fits_cons (o119s1 (FGo7_38 F) ⟨fun _ _ r h => p101 h, rfl⟩) (FGo7_38 F) (.inl rfl)
def TGo7_40 (F : Nat) : List Ent := e86s1 F :: TGo7_39 F
theorem FGo7_40 (F : Nat) : Fits2 Try.prog (tD (TGo7_40 F)) (tS (TGo7_40 F)) := fits_cons (o86s1 (FGo7_39 F) ⟨fun _ _ r h => p119s1 h, rfl⟩) (FGo7_39 F) (.inl rfl)
def TGo7_41 (F : Nat) : List Ent := e58 F :: TGo7_40 F
theorem FGo7_41 (F : Nat) : Fits2 Try.prog (tD (TGo7_41 F)) (tS (TGo7_41 F)) := fits_cons (o58 (FGo7_40 F) ⟨fun _ r h => p53 h, rfl, fun _ r h => p67 h, rfl, fun _ _ r h => p92 h, rfl, fun _ _ r h => p84 h, rfl, fun _ _ r h => p99s1 h, rfl, fun _ _ r h => p86s1 h, rfl⟩) (FGo7_40 F) (.inl rfl)
def TGo7_42 (F : Nat) : List Ent := e30 F :: TGo7_41 F
theorem FGo7_42 (F : Nat) : Fits2 Try.prog (tD (TGo7_42 F)) (tS (TGo7_42 F)) := fits_cons (o30 (FGo7_41 F) ⟨fun _ r h => p53 h, rfl, fun _ _ r h => p58 h, rfl⟩) (FGo7_41 F) (.inl rfl)
def TGo7_43 (F : Nat) : List Ent := e75 F :: TGo7_42 F
theorem FGo7_43 (F : Nat) : Fits2 Try.prog (tD (TGo7_43 F)) (tS (TGo7_43 F)) := fits_cons (o75 (FGo7_42 F) ⟨⟩) (FGo7_42 F) (.inl rfl)
def TGo7_44 (F : Nat) : List Ent := e48 F :: TGo7_43 F
theorem FGo7_44 (F : Nat) : Fits2 Try.prog (tD (TGo7_44 F)) (tS (TGo7_44 F)) := fits_cons (o48 (FGo7_43 F) ⟨fun _ _ r h => p75 h, rfl⟩) (FGo7_43 F) (.inl rfl)
def TGo7_45 (F : Nat) : List Ent := e16 F :: TGo7_44 F
theorem FGo7_45 (F : Nat) : Fits2 Try.prog (tD (TGo7_45 F)) (tS (TGo7_45 F)) := fits_cons (o16 (FGo7_44 F) ⟨fun _ _ r h => p48 h, rfl⟩) (FGo7_44 F) (.inl rfl)
def TGo7_46 (F : Nat) : List Ent := e17 F :: TGo7_45 F
theorem FGo7_46 (F : Nat) : Fits2 Try.prog (tD (TGo7_46 F)) (tS (TGo7_46 F)) := fits_cons (o17 (FGo7_45 F) ⟨⟩) (FGo7_45 F) (.inl rfl)
def TGo7_47 (F : Nat) : List Ent := e24 F :: TGo7_46 F
theorem FGo7_47 (F : Nat) : Fits2 Try.prog (tD (TGo7_47 F)) (tS (TGo7_47 F)) := fits_cons (o24 (FGo7_46 F) ⟨fun _ _ r h => p17 h, rfl⟩) (FGo7_46 F) (.inl rfl)
def TGo7_48 (F : Nat) : List Ent := e31 F :: TGo7_47 F
theorem FGo7_48 (F : Nat) : Fits2 Try.prog (tD (TGo7_48 F)) (tS (TGo7_48 F)) := fits_cons (o31 (FGo7_47 F) ⟨fun _ _ r h => p24 h, rfl, fun _ _ r h => p48 h, rfl⟩) (FGo7_47 F) (.inl rfl)
def TGo7_49 (F : Nat) : List Ent := e7 F :: TGo7_48 F
theorem FGo7_49 (F : Nat) : Fits2 Try.prog (tD (TGo7_49 F)) (tS (TGo7_49 F)) := fits_cons (o7 (FGo7_48 F) ⟨fun _ _ r h => p11 h, rfl, fun _ _ r h => p27 h, rfl, fun _ r h => p13 h, rfl, fun _ r h => p29 h, rfl, fun _ _ r h => p28 h, rfl, fun _ _ r h => p30 h, rfl, fun _ _ r h => p16 h, rfl, fun _ _ r h => p31 h, rfl⟩) (FGo7_48 F) (.inl rfl)
theorem law7 (F : Nat) (x0 : (Int × (List (Int × Int)))) (x1 : ((List (List Int)) × (List (Int × Int)))) (h : w_FnExactIsDecomposition F x0 x1 = some true) : Contract Try.prog 7 0 false [Enc.enc x0, Enc.enc x1] (.bool true) := (FGo7_49 F).con 7 _ _ 0 false (p7 h) rfl
end Go.Zq
