/- The table of the functions' contracts. No further condition. -/
import Derived.Test.YtodihaaheneikaaK2
import Derived.Test.YtodihaaheneikaaProg
import Derived.Test.YtodihaaheneikaaChecked
import Derived.KernelRfl
import Derived.Test.YtodihaaheneikaaG4
set_option linter.unusedVariables false
set_option linter.unusedSimpArgs false
/- Functions of the program, as typed functions, and that the machine runs as they say. -/
namespace Go.Zq
open Go.Proofs
def TGo8_0 (F : Nat) : List Ent := e41 F :: []
theorem FGo8_0 (F : Nat) : Fits2 Try.prog (tD (TGo8_0 F)) (tS (TGo8_0 F)) := fits_cons (o41 (fits_nil) ⟨⟩) (fits_nil) (.inl rfl)
def TGo8_1 (F : Nat) : List Ent := e11 F :: TGo8_0 F
theorem FGo8_1 (F : Nat) : Fits2 Try.prog (tD (TGo8_1 F)) (tS (TGo8_1 F)) := fits_cons (o11 (FGo8_0 F) ⟨fun _ _ r h => p41 h, rfl⟩) (FGo8_0 F) (.inl rfl)
def TGo8_2 (F : Nat) : List Ent := e51 F :: TGo8_1 F
theorem FGo8_2 (F : Nat) : Fits2 Try.prog (tD (TGo8_2 F)) (tS (TGo8_2 F)) := fits_cons (o51 (FGo8_1 F) ⟨⟩) (FGo8_1 F) (.inl rfl)
def TGo8_3 (F : Nat) : List Ent := e20 F :: TGo8_2 F
theorem FGo8_3 (F : Nat) : Fits2 Try.prog (tD (TGo8_3 F)) (tS (TGo8_3 F)) := fits_cons (o20 (FGo8_2 F) ⟨fun _ _ r h => p51 h, rfl⟩) (FGo8_2 F) (.inl rfl)
def TGo8_4 (F : Nat) : List Ent := e27 F :: TGo8_3 F
theorem FGo8_4 (F : Nat) : Fits2 Try.prog (tD (TGo8_4 F)) (tS (TGo8_4 F)) := fits_cons (o27 (FGo8_3 F) ⟨fun _ _ r h => p20 h, rfl, fun _ _ r h => p41 h, rfl⟩) (FGo8_3 F) (.inl rfl)
def TGo8_5 (F : Nat) : List Ent := e73 F :: TGo8_4 F
theorem FGo8_5 (F : Nat) : Fits2 Try.prog (tD (TGo8_5 F)) (tS (TGo8_5 F)) := fits_cons (o73 (FGo8_4 F) ⟨⟩) (FGo8_4 F) (.inl rfl)
def TGo8_6 (F : Nat) : List Ent := e46 F :: TGo8_5 F
theorem FGo8_6 (F : Nat) : Fits2 Try.prog (tD (TGo8_6 F)) (tS (TGo8_6 F)) := fits_cons (o46 (FGo8_5 F) ⟨fun _ r h => p73 h, rfl⟩) (FGo8_5 F) (.inl rfl)
def TGo8_7 (F : Nat) : List Ent := e13 F :: TGo8_6 F
theorem FGo8_7 (F : Nat) : Fits2 Try.prog (tD (TGo8_7 F)) (tS (TGo8_7 F)) := fits_cons (o13 (FGo8_6 F) ⟨fun _ r h => p46 h, rfl⟩) (FGo8_6 F) (.inl rfl)
def TGo8_8 (F : Nat) : List Ent := e14 F :: TGo8_7 F
theorem FGo8_8 (F : Nat) : Fits2 Try.prog (tD (TGo8_8 F)) (tS (TGo8_8 F)) := fits_cons (o14 (FGo8_7 F) ⟨⟩) (FGo8_7 F) (.inl rfl)
def TGo8_9 (F : Nat) : List Ent := e22 F :: TGo8_8 F
theorem FGo8_9 (F : Nat) : Fits2 Try.prog (tD (TGo8_9 F)) (tS (TGo8_9 F)) := fits_cons (o22 (FGo8_8 F) ⟨fun _ r h => p14 h, rfl⟩) (FGo8_8 F) (.inl rfl)
def TGo8_10 (F : Nat) : List Ent := e29 F :: TGo8_9 F
theorem FGo8_10 (F : Nat) : Fits2 Try.prog (tD (TGo8_10 F)) (tS (TGo8_10 F)) := fits_cons (o29 (FGo8_9 F) ⟨fun _ r h => p22 h, rfl, fun _ r h => p46 h, rfl⟩) (FGo8_9 F) (.inl rfl)
def TGo8_11 (F : Nat) : List Ent := e65 F :: TGo8_10 F
theorem FGo8_11 (F : Nat) : Fits2 Try.prog (tD (TGo8_11 F)) (tS (TGo8_11 F)) := fits_cons (o65 (FGo8_10 F) ⟨⟩) (FGo8_10 F) (.inl rfl)
def TGo8_12 (F : Nat) : List Ent := e69 F :: TGo8_11 F
theorem FGo8_12 (F : Nat) : Fits2 Try.prog (tD (TGo8_12 F)) (tS (TGo8_12 F)) := fits_cons (o69 (FGo8_11 F) ⟨⟩) (FGo8_11 F) (.inl rfl)
def TGo8_13 (F : Nat) : List Ent := e42 F :: TGo8_12 F
theorem FGo8_13 (F : Nat) : Fits2 Try.prog (tD (TGo8_13 F)) (tS (TGo8_13 F)) := fits_cons (o42 (FGo8_12 F) ⟨fun _ _ _ r h => p65 h, rfl, fun _ _ r h => p69 h, rfl⟩) (FGo8_12 F) (.inl rfl)
def TGo8_14 (F : Nat) : List Ent := e120 F :: TGo8_13 F
theorem FGo8_14 (F : Nat) : Fits2 Try.prog (tD (TGo8_14 F)) (tS (TGo8_14 F)) := fits_cons (o120 (FGo8_13 F) ⟨fun _ _ _ r h => p65 h, rfl⟩) (FGo8_13 F) (.inl rfl)
def TGo8_15 (F : Nat) : List Ent := e89 F :: TGo8_14 F
theorem FGo8_15 (F : Nat) : Fits2 Try.prog (tD (TGo8_15 F)) (tS (TGo8_15 F)) := fits_cons (o89 (FGo8_14 F) ⟨fun _ _ _ r h => p120 h, rfl⟩) (FGo8_14 F) (.inl rfl)
def TGo8_16 (F : Nat) : List Ent := e124 F :: TGo8_15 F
theorem FGo8_16 (F : Nat) : Fits2 Try.prog (tD (TGo8_16 F)) (tS (TGo8_16 F)) := fits_cons (o124 (FGo8_15 F) ⟨⟩) (FGo8_15 F) (.inl rfl)
def TGo8_17 (F : Nat) : List Ent := e45 F :: TGo8_16 F
theorem FGo8_17 (F : Nat) : Fits2 Try.prog (tD (TGo8_17 F)) (tS (TGo8_17 F)) := fits_cons (o45 (FGo8_16 F) ⟨⟩) (FGo8_16 F) (.inl rfl)
def TGo8_18 (F : Nat) : List Ent := e98 F :: TGo8_17 F
theorem FGo8_18 (F : Nat) : Fits2 Try.prog (tD (TGo8_18 F)) (tS (TGo8_18 F)) := fits_cons (o98 (FGo8_17 F) ⟨fun _ _ r h => p45 h, rfl⟩) (FGo8_17 F) (.inl rfl)
def TGo8_19 (F : Nat) : List Ent := e96 F :: TGo8_18 F
theorem FGo8_19 (F : Nat) : Fits2 Try.prog (tD (TGo8_19 F)) (tS (TGo8_19 F)) := fits_cons (o96 (FGo8_18 F) ⟨fun _ _ _ r h => p65 h, rfl, fun _ _ r h => p89 h, rfl, fun _ _ r h => p69 h, rfl, fun _ r h => p124 h, rfl, fun _ _ r h => p98 h, rfl⟩) (FGo8_18 F) (.inl rfl)
def TGo8_20 (F : Nat) : List Ent := e97 F :: TGo8_19 F
theorem FGo8_20 (F : Nat) : Fits2 Try.prog (tD (TGo8_20 F)) (tS (TGo8_20 F)) := fits_cons (o97 (FGo8_19 F) ⟨fun _ _ r h => p45 h, rfl⟩) (FGo8_19 F) (.inl rfl)
def TGo8_21 (F : Nat) : List Ent := e57 F :: TGo8_20 F
theorem FGo8_21 (F : Nat) : Fits2 Try.prog (tD (TGo8_21 F)) (tS (TGo8_21 F)) := fits_cons (o57 (FGo8_20 F) ⟨fun _ _ r h => p96 h, rfl, fun _ _ r h => p97 h, rfl, fun _ _ r h => p98 h, rfl⟩) (FGo8_20 F) (.inl rfl)
def TGo8_22 (F : Nat) : List Ent := e49 F :: TGo8_21 F
theorem FGo8_22 (F : Nat) : Fits2 Try.prog (tD (TGo8_22 F)) (tS (TGo8_22 F)) := fits_cons (o49 (FGo8_21 F) ⟨⟩) (FGo8_21 F) (.inl rfl)
def TGo8_23 (F : Nat) : List Ent := e32 F :: TGo8_22 F
theorem FGo8_23 (F : Nat) : Fits2 Try.prog (tD (TGo8_23 F)) (tS (TGo8_23 F)) := fits_cons (o32 (FGo8_22 F) ⟨fun _ r h => p42 h, rfl, fun _ _ r h => p57 h, rfl, fun _ _ r h => p49 h, rfl⟩) (FGo8_22 F) (.inl rfl)
def TGo8_24 (F : Nat) : List Ent := e62 F :: TGo8_23 F
theorem FGo8_24 (F : Nat) : Fits2 Try.prog (tD (TGo8_24 F)) (tS (TGo8_24 F)) := fits_cons (o62 (FGo8_23 F) ⟨⟩) (FGo8_23 F) (.inl rfl)
def TGo8_25 (F : Nat) : List Ent := e131 F :: TGo8_24 F
theorem FGo8_25 (F : Nat) : Fits2 Try.prog (tD (TGo8_25 F)) (tS (TGo8_25 F)) := fits_cons (o131 (FGo8_24 F) ⟨⟩) (FGo8_24 F) (.inl rfl)
def TGo8_26 (F : Nat) : List Ent := e114 F :: TGo8_25 F
theorem FGo8_26 (F : Nat) : Fits2 Try.prog (tD (TGo8_26 F)) (tS (TGo8_26 F)) := fits_cons (o114 (FGo8_25 F) ⟨fun _ r h => p131 h, rfl⟩) (FGo8_25 F) (.inl rfl)
def TGo8_27 (F : Nat) : List Ent := e81 F :: TGo8_26 F
theorem FGo8_27 (F : Nat) : Fits2 Try.prog (tD (TGo8_27 F)) (tS (TGo8_27 F)) := fits_cons (o81 (FGo8_26 F) ⟨fun _ _ r h => p114 h, rfl⟩) (FGo8_26 F) (.inl rfl)
def TGo8_28 (F : Nat) : List Ent := e53 F :: TGo8_27 F
theorem FGo8_28 (F : Nat) : Fits2 Try.prog (tD (TGo8_28 F)) (tS (TGo8_28 F)) := fits_cons (o53 (FGo8_27 F) ⟨fun _ _ _ r h => p62 h, rfl, fun _ _ r h => p81 h, rfl⟩) (FGo8_27 F) (.inl rfl)
def TGo8_29 (F : Nat) : List Ent := e67 F :: TGo8_28 F
theorem FGo8_29 (F : Nat) : Fits2 Try.prog (tD (TGo8_29 F)) (tS (TGo8_29 F)) := fits_cons (o67 (FGo8_28 F) ⟨⟩) (FGo8_28 F) (.inl rfl)
def TGo8_30 (F : Nat) : List Ent := e123 F :: TGo8_29 F
theorem FGo8_30 (F : Nat) : Fits2 Try.prog (tD (TGo8_30 F)) (tS (TGo8_30 F)) := fits_cons (o123 (FGo8_29 F) ⟨⟩) (FGo8_29 F) (.inl rfl)
def TGo8_31 (F : Nat) : List Ent := e92 F :: TGo8_30 F
theorem FGo8_31 (F : Nat) : Fits2 Try.prog (tD (TGo8_31 F)) (tS (TGo8_31 F)) := fits_cons (o92 (FGo8_30 F) ⟨fun _ _ r h => p123 h, rfl⟩) (FGo8_30 F) (.inl rfl)
def TGo8_32 (F : Nat) : List Ent := e132 F :: TGo8_31 F
theorem FGo8_32 (F : Nat) : Fits2 Try.prog (tD (TGo8_32 F)) (tS (TGo8_32 F)) := fits_cons (o132 (FGo8_31 F) ⟨fun _ _ _ r h => p62 h, rfl⟩) (FGo8_31 F) (.inl rfl)
def TGo8_33 (F : Nat) : List Ent := e116 F :: TGo8_32 F
theorem FGo8_33 (F : Nat) : Fits2 Try.prog (tD (TGo8_33 F)) (tS (TGo8_33 F)) := fits_cons (o116 (FGo8_32 F) ⟨fun _ r h => p53 h, rfl, fun _ _ _ r h => p132 h, rfl⟩) (FGo8_32 F) (.inl rfl)
def TGo8_34 (F : Nat) : List Ent := e117 F :: TGo8_33 F
theorem FGo8_34 (F : Nat) : Fits2 Try.prog (tD (TGo8_34 F)) (tS (TGo8_34 F)) := fits_cons (o117 (FGo8_33 F) ⟨⟩) (FGo8_33 F) (.inl rfl)
def TGo8_35 (F : Nat) : List Ent := e84 F :: TGo8_34 F
theorem FGo8_35 (F : Nat) : Fits2 Try.prog (tD (TGo8_35 F)) (tS (TGo8_35 F)) := fits_cons (o84 (FGo8_34 F) ⟨fun _ _ r h => p116 h, rfl, fun _ r h => p117 h, rfl⟩) (FGo8_34 F) (.inl rfl)
def TGo8_36 (F : Nat) : List Ent := e100 F :: TGo8_35 F
theorem FGo8_36 (F : Nat) : Fits2 Try.prog (tD (TGo8_36 F)) (tS (TGo8_36 F)) := fits_cons (o100 (FGo8_35 F) ⟨fun _ r h => p67 h, rfl, fun _ _ r h => p92 h, rfl⟩) (FGo8_35 F) (.inl rfl)
def TGo8_37 (F : Nat) : List Ent := e125s1 F :: TGo8_36 F
theorem FGo8_37 (F : Nat) : Fits2 Try.prog (tD (TGo8_37 F)) (tS (TGo8_37 F)) := fits_cons (o125s1 (FGo8_36 F) ⟨fun _ _ r h => p100 h, rfl⟩) (FGo8_36 F) (.inl rfl)
def TGo8_38 (F : Nat) : List Ent := e99s1 F :: TGo8_37 F
theorem FGo8_38 (F : Nat) : Fits2 Try.prog (tD (TGo8_38 F)) (tS (TGo8_38 F)) := fits_cons (o99s1 (FGo8_37 F) ⟨fun _ _ r h => p125s1 h, rfl⟩) (FGo8_37 F) (.inl rfl)
def TGo8_39 (F : Nat) : List Ent := e101 F :: TGo8_38 F
theorem FGo8_39 (F : Nat) : Fits2 Try.prog (tD (TGo8_39 F)) (tS (TGo8_39 F)) := fits_cons (o101 (FGo8_38 F) ⟨⟩) (FGo8_38 F) (.inl rfl)
def TGo8_40 (F : Nat) : List Ent := e119s1 F :: TGo8_39 F
theorem FGo8_40 (F : Nat) : Fits2 Try.prog (tD (TGo8_40 F)) (tS (TGo8_40 F)) := fits_cons (o119s1 (FGo8_39 F) ⟨fun _ _ r h => p101 h, rfl⟩) (FGo8_39 F) (.inl rfl)
def TGo8_41 (F : Nat) : List Ent := e86s1 F :: TGo8_40 F
theorem FGo8_41 (F : Nat) : Fits2 Try.prog (tD (TGo8_41 F)) (tS (TGo8_41 F)) := fits_cons (o86s1 (FGo8_40 F) ⟨fun _ _ r h => p119s1 h, rfl⟩) (FGo8_40 F) (.inl rfl)
def TGo8_42 (F : Nat) : List Ent := e58 F :: TGo8_41 F
theorem FGo8_42 (F : Nat) : Fits2 Try.prog (tD (TGo8_42 F)) (tS (TGo8_42 F)) := fits_cons (o58 (FGo8_41 F) ⟨fun _ r h => p53 h, rfl, fun _ r h => p67 h, rfl, fun _ _ r h => p92 h, rfl, fun _ _ r h => p84 h, rfl, fun _ _ r h => p99s1 h, rfl, fun _ _ r h => p86s1 h, rfl⟩) (FGo8_41 F) (.inl rfl)
def TGo8_43 (F : Nat) : List Ent := e33 F :: TGo8_42 F
theorem FGo8_43 (F : Nat) : Fits2 Try.prog (tD (TGo8_43 F)) (tS (TGo8_43 F)) := fits_cons (o33 (FGo8_42 F) ⟨fun _ r h => p53 h, rfl, fun _ _ r h => p58 h, rfl⟩) (FGo8_42 F) (.inl rfl)
def TGo8_44 (F : Nat) : List Ent := e75 F :: TGo8_43 F
theorem FGo8_44 (F : Nat) : Fits2 Try.prog (tD (TGo8_44 F)) (tS (TGo8_44 F)) := fits_cons (o75 (FGo8_43 F) ⟨⟩) (FGo8_43 F) (.inl rfl)
def TGo8_45 (F : Nat) : List Ent := e48 F :: TGo8_44 F
theorem FGo8_45 (F : Nat) : Fits2 Try.prog (tD (TGo8_45 F)) (tS (TGo8_45 F)) := fits_cons (o48 (FGo8_44 F) ⟨fun _ _ r h => p75 h, rfl⟩) (FGo8_44 F) (.inl rfl)
def TGo8_46 (F : Nat) : List Ent := e16 F :: TGo8_45 F
theorem FGo8_46 (F : Nat) : Fits2 Try.prog (tD (TGo8_46 F)) (tS (TGo8_46 F)) := fits_cons (o16 (FGo8_45 F) ⟨fun _ _ r h => p48 h, rfl⟩) (FGo8_45 F) (.inl rfl)
def TGo8_47 (F : Nat) : List Ent := e17 F :: TGo8_46 F
theorem FGo8_47 (F : Nat) : Fits2 Try.prog (tD (TGo8_47 F)) (tS (TGo8_47 F)) := fits_cons (o17 (FGo8_46 F) ⟨⟩) (FGo8_46 F) (.inl rfl)
def TGo8_48 (F : Nat) : List Ent := e24 F :: TGo8_47 F
theorem FGo8_48 (F : Nat) : Fits2 Try.prog (tD (TGo8_48 F)) (tS (TGo8_48 F)) := fits_cons (o24 (FGo8_47 F) ⟨fun _ _ r h => p17 h, rfl⟩) (FGo8_47 F) (.inl rfl)
def TGo8_49 (F : Nat) : List Ent := e31 F :: TGo8_48 F
theorem FGo8_49 (F : Nat) : Fits2 Try.prog (tD (TGo8_49 F)) (tS (TGo8_49 F)) := fits_cons (o31 (FGo8_48 F) ⟨fun _ _ r h => p24 h, rfl, fun _ _ r h => p48 h, rfl⟩) (FGo8_48 F) (.inl rfl)
def TGo8_50 (F : Nat) : List Ent := e8 F :: TGo8_49 F
theorem FGo8_50 (F : Nat) : Fits2 Try.prog (tD (TGo8_50 F)) (tS (TGo8_50 F)) := fits_cons (o8 (FGo8_49 F) ⟨fun _ _ r h => p11 h, rfl, fun _ _ r h => p27 h, rfl, fun _ r h => p13 h, rfl, fun _ r h => p29 h, rfl, fun _ _ r h => p32 h, rfl, fun _ _ r h => p33 h, rfl, fun _ _ r h => p16 h, rfl, fun _ _ r h => p31 h, rfl⟩) (FGo8_49 F) (.inl rfl)
theorem law8 (F : Nat) (x0 : (Int × (List (Int × Int)))) (x1 : ((List (List Int)) × (List (Int × Int)))) (h : w_FnExactDecompositionWidth F x0 x1 = some true) : Contract Try.prog 8 0 false [Enc.enc x0, Enc.enc x1] (.bool true) := (FGo8_50 F).con 8 _ _ 0 false (p8 h) rfl
end Go.Zq
