/- The table of the functions' contracts. No further condition. -/
import Derived.Test.YtodihaaheneikaaK2
import Derived.Test.YtodihaaheneikaaProg
import Derived.Test.YtodihaaheneikaaChecked
import Derived.KernelRfl
import Derived.Test.YtodihaaheneikaaG4
set_option linter.unusedVariables false
set_option linter.unusedSimpArgs false
/- Functions of the program, as typed functions, and that the machine runs as they say. -/
namespace Go.Zq
open Go.Proofs
def TGo3_0 (F : Nat) : List Ent := e41 F :: []
theorem FGo3_0 (F : Nat) : Fits2 Try.prog (tD (TGo3_0 F)) (tS (TGo3_0 F)) := fits_cons (o41 (fits_nil) ⟨⟩) (fits_nil) (.inl rfl)
def TGo3_1 (F : Nat) : List Ent := e11 F :: TGo3_0 F
theorem FGo3_1 (F : Nat) : Fits2 Try.prog (tD (TGo3_1 F)) (tS (TGo3_1 F)) := fits_cons (o11 (FGo3_0 F) ⟨fun _ _ r h => p41 h, rfl⟩) (FGo3_0 F) (.inl rfl)
def TGo3_2 (F : Nat) : List Ent := e73 F :: TGo3_1 F
theorem FGo3_2 (F : Nat) : Fits2 Try.prog (tD (TGo3_2 F)) (tS (TGo3_2 F)) := fits_cons (o73 (FGo3_1 F) ⟨⟩) (FGo3_1 F) (.inl rfl)
def TGo3_3 (F : Nat) : List Ent := e46 F :: TGo3_2 F
theorem FGo3_3 (F : Nat) : Fits2 Try.prog (tD (TGo3_3 F)) (tS (TGo3_3 F)) := fits_cons (o46 (FGo3_2 F) ⟨fun _ r h => p73 h, rfl⟩) (FGo3_2 F) (.inl rfl)
def TGo3_4 (F : Nat) : List Ent := e13 F :: TGo3_3 F
theorem FGo3_4 (F : Nat) : Fits2 Try.prog (tD (TGo3_4 F)) (tS (TGo3_4 F)) := fits_cons (o13 (FGo3_3 F) ⟨fun _ r h => p46 h, rfl⟩) (FGo3_3 F) (.inl rfl)
def TGo3_5 (F : Nat) : List Ent := e14 F :: TGo3_4 F
theorem FGo3_5 (F : Nat) : Fits2 Try.prog (tD (TGo3_5 F)) (tS (TGo3_5 F)) := fits_cons (o14 (FGo3_4 F) ⟨⟩) (FGo3_4 F) (.inl rfl)
def TGo3_6 (F : Nat) : List Ent := e65 F :: TGo3_5 F
theorem FGo3_6 (F : Nat) : Fits2 Try.prog (tD (TGo3_6 F)) (tS (TGo3_6 F)) := fits_cons (o65 (FGo3_5 F) ⟨⟩) (FGo3_5 F) (.inl rfl)
def TGo3_7 (F : Nat) : List Ent := e69 F :: TGo3_6 F
theorem FGo3_7 (F : Nat) : Fits2 Try.prog (tD (TGo3_7 F)) (tS (TGo3_7 F)) := fits_cons (o69 (FGo3_6 F) ⟨⟩) (FGo3_6 F) (.inl rfl)
def TGo3_8 (F : Nat) : List Ent := e42 F :: TGo3_7 F
theorem FGo3_8 (F : Nat) : Fits2 Try.prog (tD (TGo3_8 F)) (tS (TGo3_8 F)) := fits_cons (o42 (FGo3_7 F) ⟨fun _ _ _ r h => p65 h, rfl, fun _ _ r h => p69 h, rfl⟩) (FGo3_7 F) (.inl rfl)
def TGo3_9 (F : Nat) : List Ent := e103 F :: TGo3_8 F
theorem FGo3_9 (F : Nat) : Fits2 Try.prog (tD (TGo3_9 F)) (tS (TGo3_9 F)) := fits_cons (o103 (FGo3_8 F) ⟨⟩) (FGo3_8 F) (.inl rfl)
def TGo3_10 (F : Nat) : List Ent := e107 F :: TGo3_9 F
theorem FGo3_10 (F : Nat) : Fits2 Try.prog (tD (TGo3_10 F)) (tS (TGo3_10 F)) := fits_cons (o107 (FGo3_9 F) ⟨fun _ _ r h => p103 h, rfl⟩) (FGo3_9 F) (.inl rfl)
def TGo3_11 (F : Nat) : List Ent := e70 F :: TGo3_10 F
theorem FGo3_11 (F : Nat) : Fits2 Try.prog (tD (TGo3_11 F)) (tS (TGo3_11 F)) := fits_cons (o70 (FGo3_10 F) ⟨fun _ r h => p107 h, rfl⟩) (FGo3_10 F) (.inl rfl)
def TGo3_12 (F : Nat) : List Ent := e108 F :: TGo3_11 F
theorem FGo3_12 (F : Nat) : Fits2 Try.prog (tD (TGo3_12 F)) (tS (TGo3_12 F)) := fits_cons (o108 (FGo3_11 F) ⟨fun _ _ _ r h => p65 h, rfl⟩) (FGo3_11 F) (.inl rfl)
def TGo3_13 (F : Nat) : List Ent := e45 F :: TGo3_12 F
theorem FGo3_13 (F : Nat) : Fits2 Try.prog (tD (TGo3_13 F)) (tS (TGo3_13 F)) := fits_cons (o45 (FGo3_12 F) ⟨⟩) (FGo3_12 F) (.inl rfl)
def TGo3_14 (F : Nat) : List Ent := e71 F :: TGo3_13 F
theorem FGo3_14 (F : Nat) : Fits2 Try.prog (tD (TGo3_14 F)) (tS (TGo3_14 F)) := fits_cons (o71 (FGo3_13 F) ⟨fun _ _ r h => p108 h, rfl, fun _ _ r h => p45 h, rfl⟩) (FGo3_13 F) (.inl rfl)
def TGo3_15 (F : Nat) : List Ent := e109 F :: TGo3_14 F
theorem FGo3_15 (F : Nat) : Fits2 Try.prog (tD (TGo3_15 F)) (tS (TGo3_15 F)) := fits_cons (o109 (FGo3_14 F) ⟨⟩) (FGo3_14 F) (.inl rfl)
def TGo3_16 (F : Nat) : List Ent := e110 F :: TGo3_15 F
theorem FGo3_16 (F : Nat) : Fits2 Try.prog (tD (TGo3_16 F)) (tS (TGo3_16 F)) := fits_cons (o110 (FGo3_15 F) ⟨⟩) (FGo3_15 F) (.inl rfl)
def TGo3_17 (F : Nat) : List Ent := e122 F :: TGo3_16 F
theorem FGo3_17 (F : Nat) : Fits2 Try.prog (tD (TGo3_17 F)) (tS (TGo3_17 F)) := fits_cons (o122 (FGo3_16 F) ⟨⟩) (FGo3_16 F) (.inl rfl)
def TGo3_18 (F : Nat) : List Ent := e121 F :: TGo3_17 F
theorem FGo3_18 (F : Nat) : Fits2 Try.prog (tD (TGo3_18 F)) (tS (TGo3_18 F)) := fits_cons (o121 (FGo3_17 F) ⟨fun _ _ r h => p45 h, rfl, fun _ _ _ r h => p122 h, rfl, fun _ _ r h => p110 h, rfl⟩) (FGo3_17 F) (.inl rfl)
def TGo3_19 (F : Nat) : List Ent := e111 F :: TGo3_18 F
theorem FGo3_19 (F : Nat) : Fits2 Try.prog (tD (TGo3_19 F)) (tS (TGo3_19 F)) := fits_cons (o111 (FGo3_18 F) ⟨fun _ _ r h => p45 h, rfl, fun _ _ _ r h => p121 h, rfl, fun _ _ r h => p110 h, rfl⟩) (FGo3_18 F) (.inl rfl)
def TGo3_20 (F : Nat) : List Ent := e72 F :: TGo3_19 F
theorem FGo3_20 (F : Nat) : Fits2 Try.prog (tD (TGo3_20 F)) (tS (TGo3_20 F)) := fits_cons (o72 (FGo3_19 F) ⟨fun _ _ r h => p109 h, rfl, fun _ _ r h => p110 h, rfl, fun _ _ _ r h => p111 h, rfl⟩) (FGo3_19 F) (.inl rfl)
def TGo3_21 (F : Nat) : List Ent := e43 F :: TGo3_20 F
theorem FGo3_21 (F : Nat) : Fits2 Try.prog (tD (TGo3_21 F)) (tS (TGo3_21 F)) := fits_cons (o43 (FGo3_20 F) ⟨fun _ r h => p70 h, rfl, fun _ _ _ r h => p71 h, rfl, fun _ _ _ r h => p72 h, rfl⟩) (FGo3_20 F) (.inl rfl)
def TGo3_22 (F : Nat) : List Ent := e44 F :: TGo3_21 F
theorem FGo3_22 (F : Nat) : Fits2 Try.prog (tD (TGo3_22 F)) (tS (TGo3_22 F)) := fits_cons (o44 (FGo3_21 F) ⟨fun _ r h => p70 h, rfl, fun _ _ _ r h => p72 h, rfl⟩) (FGo3_21 F) (.inl rfl)
def TGo3_23 (F : Nat) : List Ent := e12 F :: TGo3_22 F
theorem FGo3_23 (F : Nat) : Fits2 Try.prog (tD (TGo3_23 F)) (tS (TGo3_23 F)) := fits_cons (o12 (FGo3_22 F) ⟨fun _ r h => p42 h, rfl, fun _ _ r h => p43 h, rfl, fun _ _ r h => p44 h, rfl, fun _ _ r h => p45 h, rfl⟩) (FGo3_22 F) (.inl rfl)
def TGo3_24 (F : Nat) : List Ent := e62 F :: TGo3_23 F
theorem FGo3_24 (F : Nat) : Fits2 Try.prog (tD (TGo3_24 F)) (tS (TGo3_24 F)) := fits_cons (o62 (FGo3_23 F) ⟨⟩) (FGo3_23 F) (.inl rfl)
def TGo3_25 (F : Nat) : List Ent := e131 F :: TGo3_24 F
theorem FGo3_25 (F : Nat) : Fits2 Try.prog (tD (TGo3_25 F)) (tS (TGo3_25 F)) := fits_cons (o131 (FGo3_24 F) ⟨⟩) (FGo3_24 F) (.inl rfl)
def TGo3_26 (F : Nat) : List Ent := e114 F :: TGo3_25 F
theorem FGo3_26 (F : Nat) : Fits2 Try.prog (tD (TGo3_26 F)) (tS (TGo3_26 F)) := fits_cons (o114 (FGo3_25 F) ⟨fun _ r h => p131 h, rfl⟩) (FGo3_25 F) (.inl rfl)
def TGo3_27 (F : Nat) : List Ent := e81 F :: TGo3_26 F
theorem FGo3_27 (F : Nat) : Fits2 Try.prog (tD (TGo3_27 F)) (tS (TGo3_27 F)) := fits_cons (o81 (FGo3_26 F) ⟨fun _ _ r h => p114 h, rfl⟩) (FGo3_26 F) (.inl rfl)
def TGo3_28 (F : Nat) : List Ent := e53 F :: TGo3_27 F
theorem FGo3_28 (F : Nat) : Fits2 Try.prog (tD (TGo3_28 F)) (tS (TGo3_28 F)) := fits_cons (o53 (FGo3_27 F) ⟨fun _ _ _ r h => p62 h, rfl, fun _ _ r h => p81 h, rfl⟩) (FGo3_27 F) (.inl rfl)
def TGo3_29 (F : Nat) : List Ent := e67 F :: TGo3_28 F
theorem FGo3_29 (F : Nat) : Fits2 Try.prog (tD (TGo3_29 F)) (tS (TGo3_29 F)) := fits_cons (o67 (FGo3_28 F) ⟨⟩) (FGo3_28 F) (.inl rfl)
def TGo3_30 (F : Nat) : List Ent := e112 F :: TGo3_29 F
theorem FGo3_30 (F : Nat) : Fits2 Try.prog (tD (TGo3_30 F)) (tS (TGo3_30 F)) := fits_cons (o112 (FGo3_29 F) ⟨⟩) (FGo3_29 F) (.inl rfl)
def TGo3_31 (F : Nat) : List Ent := e130 F :: TGo3_30 F
theorem FGo3_31 (F : Nat) : Fits2 Try.prog (tD (TGo3_31 F)) (tS (TGo3_31 F)) := fits_cons (o130 (FGo3_30 F) ⟨⟩) (FGo3_30 F) (.inl rfl)
def TGo3_32 (F : Nat) : List Ent := e123 F :: TGo3_31 F
theorem FGo3_32 (F : Nat) : Fits2 Try.prog (tD (TGo3_32 F)) (tS (TGo3_32 F)) := fits_cons (o123 (FGo3_31 F) ⟨⟩) (FGo3_31 F) (.inl rfl)
def TGo3_33 (F : Nat) : List Ent := e113 F :: TGo3_32 F
theorem FGo3_33 (F : Nat) : Fits2 Try.prog (tD (TGo3_33 F)) (tS (TGo3_33 F)) := fits_cons (o113 (FGo3_32 F) ⟨fun _ r h => p130 h, rfl, fun _ _ _ r h => p62 h, rfl, fun _ _ r h => p123 h, rfl⟩) (FGo3_32 F) (.inl rfl)
def TGo3_34 (F : Nat) : List Ent := e74 F :: TGo3_33 F
theorem FGo3_34 (F : Nat) : Fits2 Try.prog (tD (TGo3_34 F)) (tS (TGo3_34 F)) := fits_cons (o74 (FGo3_33 F) ⟨fun _ r h => p112 h, rfl, fun _ _ _ r h => p113 h, rfl⟩) (FGo3_33 F) (.inl rfl)
def TGo3_35 (F : Nat) : List Ent := e47 F :: TGo3_34 F
theorem FGo3_35 (F : Nat) : Fits2 Try.prog (tD (TGo3_35 F)) (tS (TGo3_35 F)) := fits_cons (o47 (FGo3_34 F) ⟨fun _ r h => p53 h, rfl, fun _ r h => p67 h, rfl, fun _ _ r h => p74 h, rfl⟩) (FGo3_34 F) (.inl rfl)
def TGo3_36 (F : Nat) : List Ent := e15 F :: TGo3_35 F
theorem FGo3_36 (F : Nat) : Fits2 Try.prog (tD (TGo3_36 F)) (tS (TGo3_36 F)) := fits_cons (o15 (FGo3_35 F) ⟨fun _ _ r h => p47 h, rfl⟩) (FGo3_35 F) (.inl rfl)
def TGo3_37 (F : Nat) : List Ent := e75 F :: TGo3_36 F
theorem FGo3_37 (F : Nat) : Fits2 Try.prog (tD (TGo3_37 F)) (tS (TGo3_37 F)) := fits_cons (o75 (FGo3_36 F) ⟨⟩) (FGo3_36 F) (.inl rfl)
def TGo3_38 (F : Nat) : List Ent := e48 F :: TGo3_37 F
theorem FGo3_38 (F : Nat) : Fits2 Try.prog (tD (TGo3_38 F)) (tS (TGo3_38 F)) := fits_cons (o48 (FGo3_37 F) ⟨fun _ _ r h => p75 h, rfl⟩) (FGo3_37 F) (.inl rfl)
def TGo3_39 (F : Nat) : List Ent := e16 F :: TGo3_38 F
theorem FGo3_39 (F : Nat) : Fits2 Try.prog (tD (TGo3_39 F)) (tS (TGo3_39 F)) := fits_cons (o16 (FGo3_38 F) ⟨fun _ _ r h => p48 h, rfl⟩) (FGo3_38 F) (.inl rfl)
def TGo3_40 (F : Nat) : List Ent := e17 F :: TGo3_39 F
theorem FGo3_40 (F : Nat) : Fits2 Try.prog (tD (TGo3_40 F)) (tS (TGo3_40 F)) := fits_cons (o17 (FGo3_39 F) ⟨⟩) (FGo3_39 F) (.inl rfl)
def TGo3_41 (F : Nat) : List Ent := e3 F :: TGo3_40 F
theorem FGo3_41 (F : Nat) : Fits2 Try.prog (tD (TGo3_41 F)) (tS (TGo3_41 F)) := fits_cons (o3 (FGo3_40 F) ⟨fun _ _ r h => p11 h, rfl, fun _ r h => p13 h, rfl, fun _ r h => p14 h, rfl, fun _ _ r h => p12 h, rfl, fun _ _ r h => p15 h, rfl, fun _ _ r h => p16 h, rfl, fun _ _ r h => p17 h, rfl⟩) (FGo3_40 F) (.inl rfl)
theorem law3 (F : Nat) (x0 : (Int × (List (Int × Int)))) (x1 : (List Int)) (h : w_FnExactIsSteady F x0 x1 = some true) : Contract Try.prog 3 0 false [Enc.enc x0, Enc.enc x1] (.bool true) := (FGo3_41 F).con 3 _ _ 0 false (p3 h) rfl
end Go.Zq
