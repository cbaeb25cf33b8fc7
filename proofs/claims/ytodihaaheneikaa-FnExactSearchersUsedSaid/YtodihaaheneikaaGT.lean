/- The table of the functions' contracts. No further condition. -/
import Derived.Test.YtodihaaheneikaaK2
import Derived.Test.YtodihaaheneikaaProg
import Derived.Test.YtodihaaheneikaaChecked
import Derived.KernelRfl
import Derived.Test.YtodihaaheneikaaG4
set_option linter.unusedVariables false
set_option linter.unusedSimpArgs false
/- Functions of the program, as typed functions, and that the machine runs as they say. -/
namespace Go.Zq
open Go.Proofs
def TGo4_0 (F : Nat) : List Ent := e41 F :: []
theorem FGo4_0 (F : Nat) : Fits2 Try.prog (tD (TGo4_0 F)) (tS (TGo4_0 F)) := fits_cons (o41 (fits_nil) ⟨⟩) (fits_nil) (.inl rfl)
def TGo4_1 (F : Nat) : List Ent := e11 F :: TGo4_0 F
theorem FGo4_1 (F : Nat) : Fits2 Try.prog (tD (TGo4_1 F)) (tS (TGo4_1 F)) := fits_cons (o11 (FGo4_0 F) ⟨fun _ _ r h => p41 h, rfl⟩) (FGo4_0 F) (.inl rfl)
def TGo4_2 (F : Nat) : List Ent := e73 F :: TGo4_1 F
theorem FGo4_2 (F : Nat) : Fits2 Try.prog (tD (TGo4_2 F)) (tS (TGo4_2 F)) := fits_cons (o73 (FGo4_1 F) ⟨⟩) (FGo4_1 F) (.inl rfl)
def TGo4_3 (F : Nat) : List Ent := e46 F :: TGo4_2 F
theorem FGo4_3 (F : Nat) : Fits2 Try.prog (tD (TGo4_3 F)) (tS (TGo4_3 F)) := fits_cons (o46 (FGo4_2 F) ⟨fun _ r h => p73 h, rfl⟩) (FGo4_2 F) (.inl rfl)
def TGo4_4 (F : Nat) : List Ent := e13 F :: TGo4_3 F
theorem FGo4_4 (F : Nat) : Fits2 Try.prog (tD (TGo4_4 F)) (tS (TGo4_4 F)) := fits_cons (o13 (FGo4_3 F) ⟨fun _ r h => p46 h, rfl⟩) (FGo4_3 F) (.inl rfl)
def TGo4_5 (F : Nat) : List Ent := e14 F :: TGo4_4 F
theorem FGo4_5 (F : Nat) : Fits2 Try.prog (tD (TGo4_5 F)) (tS (TGo4_5 F)) := fits_cons (o14 (FGo4_4 F) ⟨⟩) (FGo4_4 F) (.inl rfl)
def TGo4_6 (F : Nat) : List Ent := e65 F :: TGo4_5 F
theorem FGo4_6 (F : Nat) : Fits2 Try.prog (tD (TGo4_6 F)) (tS (TGo4_6 F)) := fits_cons (o65 (FGo4_5 F) ⟨⟩) (FGo4_5 F) (.inl rfl)
def TGo4_7 (F : Nat) : List Ent := e69 F :: TGo4_6 F
theorem FGo4_7 (F : Nat) : Fits2 Try.prog (tD (TGo4_7 F)) (tS (TGo4_7 F)) := fits_cons (o69 (FGo4_6 F) ⟨⟩) (FGo4_6 F) (.inl rfl)
def TGo4_8 (F : Nat) : List Ent := e42 F :: TGo4_7 F
theorem FGo4_8 (F : Nat) : Fits2 Try.prog (tD (TGo4_8 F)) (tS (TGo4_8 F)) := fits_cons (o42 (FGo4_7 F) ⟨fun _ _ _ r h => p65 h, rfl, fun _ _ r h => p69 h, rfl⟩) (FGo4_7 F) (.inl rfl)
def TGo4_9 (F : Nat) : List Ent := e103 F :: TGo4_8 F
theorem FGo4_9 (F : Nat) : Fits2 Try.prog (tD (TGo4_9 F)) (tS (TGo4_9 F)) := fits_cons (o103 (FGo4_8 F) ⟨⟩) (FGo4_8 F) (.inl rfl)
def TGo4_10 (F : Nat) : List Ent := e107 F :: TGo4_9 F
theorem FGo4_10 (F : Nat) : Fits2 Try.prog (tD (TGo4_10 F)) (tS (TGo4_10 F)) := fits_cons (o107 (FGo4_9 F) ⟨fun _ _ r h => p103 h, rfl⟩) (FGo4_9 F) (.inl rfl)
def TGo4_11 (F : Nat) : List Ent := e70 F :: TGo4_10 F
theorem FGo4_11 (F : Nat) : Fits2 Try.prog (tD (TGo4_11 F)) (tS (TGo4_11 F)) := fits_cons (o70 (FGo4_10 F) ⟨fun _ r h => p107 h, rfl⟩) (FGo4_10 F) (.inl rfl)
def TGo4_12 (F : Nat) : List Ent := e108 F :: TGo4_11 F
theorem FGo4_12 (F : Nat) : Fits2 Try.prog (tD (TGo4_12 F)) (tS (TGo4_12 F)) := fits_cons (o108 (FGo4_11 F) ⟨fun _ _ _ r h => p65 h, rfl⟩) (FGo4_11 F) (.inl rfl)
def TGo4_13 (F : Nat) : List Ent := e45 F :: TGo4_12 F
theorem FGo4_13 (F : Nat) : Fits2 Try.prog (tD (TGo4_13 F)) (tS (TGo4_13 F)) := fits_cons (o45 (FGo4_12 F) ⟨⟩) (FGo4_12 F) (.inl rfl)
def TGo4_14 (F : Nat) : List Ent := e71 F :: TGo4_13 F
theorem FGo4_14 (F : Nat) : Fits2 Try.prog (tD (TGo4_14 F)) (tS (TGo4_14 F)) := fits_cons (o71 (FGo4_13 F) ⟨fun _ _ r h => p108 h, rfl, fun _ _ r h => p45 h, rfl⟩) (FGo4_13 F) (.inl rfl)
def TGo4_15 (F : Nat) : List Ent := e109 F :: TGo4_14 F
theorem FGo4_15 (F : Nat) : Fits2 Try.prog (tD (TGo4_15 F)) (tS (TGo4_15 F)) := fits_cons (o109 (FGo4_14 F) ⟨⟩) (FGo4_14 F) (.inl rfl)
def TGo4_16 (F : Nat) : List Ent := e110 F :: TGo4_15 F
theorem FGo4_16 (F : Nat) : Fits2 Try.prog (tD (TGo4_16 F)) (tS (TGo4_16 F)) := fits_cons (o110 (FGo4_15 F) ⟨⟩) (FGo4_15 F) (.inl rfl)
def TGo4_17 (F : Nat) : List Ent := e122 F :: TGo4_16 F
theorem FGo4_17 (F : Nat) : Fits2 Try.prog (tD (TGo4_17 F)) (tS (TGo4_17 F)) := fits_cons (o122 (FGo4_16 F) ⟨⟩) (FGo4_16 F) (.inl rfl)
def TGo4_18 (F : Nat) : List Ent := e121 F :: TGo4_17 F
theorem FGo4_18 (F : Nat) : Fits2 Try.prog (tD (TGo4_18 F)) (tS (TGo4_18 F)) := fits_cons (o121 (FGo4_17 F) ⟨fun _ _ r h => p45 h, rfl, fun _ _ _ r h => p122 h, rfl, fun _ _ r h => p110 h, rfl⟩) (FGo4_17 F) (.inl rfl)
def TGo4_19 (F : Nat) : List Ent := e111 F :: TGo4_18 F
theorem FGo4_19 (F : Nat) : Fits2 Try.prog (tD (TGo4_19 F)) (tS (TGo4_19 F)) := fits_cons (o111 (FGo4_18 F) ⟨fun _ _ r h => p45 h, rfl, fun _ _ _ r h => p121 h, rfl, fun _ _ r h => p110 h, rfl⟩) (FGo4_18 F) (.inl rfl)
def TGo4_20 (F : Nat) : List Ent := e72 F :: TGo4_19 F
theorem FGo4_20 (F : Nat) : Fits2 Try.prog (tD (TGo4_20 F)) (tS (TGo4_20 F)) := fits_cons (o72 (FGo4_19 F) ⟨fun _ _ r h => p109 h, rfl, fun _ _ r h => p110 h, rfl, fun _ _ _ r h => p111 h, rfl⟩) (FGo4_19 F) (.inl rfl)
def TGo4_21 (F : Nat) : List Ent := e43 F :: TGo4_20 F
theorem FGo4_21 (F : Nat) : Fits2 Try.prog (tD (TGo4_21 F)) (tS (TGo4_21 F)) := fits_cons (o43 (FGo4_20 F) ⟨fun _ r h => p70 h, rfl, fun _ _ _ r h => p71 h, rfl, fun _ _ _ r h => p72 h, rfl⟩) (FGo4_20 F) (.inl rfl)
def TGo4_22 (F : Nat) : List Ent := e44 F :: TGo4_21 F
theorem FGo4_22 (F : Nat) : Fits2 Try.prog (tD (TGo4_22 F)) (tS (TGo4_22 F)) := fits_cons (o44 (FGo4_21 F) ⟨fun _ r h => p70 h, rfl, fun _ _ _ r h => p72 h, rfl⟩) (FGo4_21 F) (.inl rfl)
def TGo4_23 (F : Nat) : List Ent := e49 F :: TGo4_22 F
theorem FGo4_23 (F : Nat) : Fits2 Try.prog (tD (TGo4_23 F)) (tS (TGo4_23 F)) := fits_cons (o49 (FGo4_22 F) ⟨⟩) (FGo4_22 F) (.inl rfl)
def TGo4_24 (F : Nat) : List Ent := e18 F :: TGo4_23 F
theorem FGo4_24 (F : Nat) : Fits2 Try.prog (tD (TGo4_24 F)) (tS (TGo4_24 F)) := fits_cons (o18 (FGo4_23 F) ⟨fun _ r h => p42 h, rfl, fun _ _ r h => p43 h, rfl, fun _ _ r h => p44 h, rfl, fun _ _ r h => p49 h, rfl⟩) (FGo4_23 F) (.inl rfl)
def TGo4_25 (F : Nat) : List Ent := e62 F :: TGo4_24 F
theorem FGo4_25 (F : Nat) : Fits2 Try.prog (tD (TGo4_25 F)) (tS (TGo4_25 F)) := fits_cons (o62 (FGo4_24 F) ⟨⟩) (FGo4_24 F) (.inl rfl)
def TGo4_26 (F : Nat) : List Ent := e131 F :: TGo4_25 F
theorem FGo4_26 (F : Nat) : Fits2 Try.prog (tD (TGo4_26 F)) (tS (TGo4_26 F)) := fits_cons (o131 (FGo4_25 F) ⟨⟩) (FGo4_25 F) (.inl rfl)
def TGo4_27 (F : Nat) : List Ent := e114 F :: TGo4_26 F
theorem FGo4_27 (F : Nat) : Fits2 Try.prog (tD (TGo4_27 F)) (tS (TGo4_27 F)) := fits_cons (o114 (FGo4_26 F) ⟨fun _ r h => p131 h, rfl⟩) (FGo4_26 F) (.inl rfl)
def TGo4_28 (F : Nat) : List Ent := e81 F :: TGo4_27 F
theorem FGo4_28 (F : Nat) : Fits2 Try.prog (tD (TGo4_28 F)) (tS (TGo4_28 F)) := fits_cons (o81 (FGo4_27 F) ⟨fun _ _ r h => p114 h, rfl⟩) (FGo4_27 F) (.inl rfl)
def TGo4_29 (F : Nat) : List Ent := e53 F :: TGo4_28 F
theorem FGo4_29 (F : Nat) : Fits2 Try.prog (tD (TGo4_29 F)) (tS (TGo4_29 F)) := fits_cons (o53 (FGo4_28 F) ⟨fun _ _ _ r h => p62 h, rfl, fun _ _ r h => p81 h, rfl⟩) (FGo4_28 F) (.inl rfl)
def TGo4_30 (F : Nat) : List Ent := e67 F :: TGo4_29 F
theorem FGo4_30 (F : Nat) : Fits2 Try.prog (tD (TGo4_30 F)) (tS (TGo4_30 F)) := fits_cons (o67 (FGo4_29 F) ⟨⟩) (FGo4_29 F) (.inl rfl)
def TGo4_31 (F : Nat) : List Ent := e112 F :: TGo4_30 F
theorem FGo4_31 (F : Nat) : Fits2 Try.prog (tD (TGo4_31 F)) (tS (TGo4_31 F)) := fits_cons (o112 (FGo4_30 F) ⟨⟩) (FGo4_30 F) (.inl rfl)
def TGo4_32 (F : Nat) : List Ent := e130 F :: TGo4_31 F
theorem FGo4_32 (F : Nat) : Fits2 Try.prog (tD (TGo4_32 F)) (tS (TGo4_32 F)) := fits_cons (o130 (FGo4_31 F) ⟨⟩) (FGo4_31 F) (.inl rfl)
def TGo4_33 (F : Nat) : List Ent := e123 F :: TGo4_32 F
theorem FGo4_33 (F : Nat) : Fits2 Try.prog (tD (TGo4_33 F)) (tS (TGo4_33 F)) := fits_cons (o123 (FGo4_32 F) ⟨⟩) (FGo4_32 F) (.inl rfl)
def TGo4_34 (F : Nat) : List Ent := e113 F :: TGo4_33 F
theorem FGo4_34 (F : Nat) : Fits2 Try.prog (tD (TGo4_34 F)) (tS (TGo4_34 F)) := fits_cons (o113 (FGo4_33 F) ⟨fun _ r h => p130 h, rfl, fun _ _ _ r h => p62 h, rfl, fun _ _ r h => p123 h, rfl⟩) (FGo4_33 F) (.inl rfl)
def TGo4_35 (F : Nat) : List Ent := e74 F :: TGo4_34 F
theorem FGo4_35 (F : Nat) : Fits2 Try.prog (tD (TGo4_35 F)) (tS (TGo4_35 F)) := fits_cons (o74 (FGo4_34 F) ⟨fun _ r h => p112 h, rfl, fun _ _ _ r h => p113 h, rfl⟩) (FGo4_34 F) (.inl rfl)
def TGo4_36 (F : Nat) : List Ent := e47 F :: TGo4_35 F
theorem FGo4_36 (F : Nat) : Fits2 Try.prog (tD (TGo4_36 F)) (tS (TGo4_36 F)) := fits_cons (o47 (FGo4_35 F) ⟨fun _ r h => p53 h, rfl, fun _ r h => p67 h, rfl, fun _ _ r h => p74 h, rfl⟩) (FGo4_35 F) (.inl rfl)
def TGo4_37 (F : Nat) : List Ent := e77 F :: TGo4_36 F
theorem FGo4_37 (F : Nat) : Fits2 Try.prog (tD (TGo4_37 F)) (tS (TGo4_37 F)) := fits_cons (o77 (FGo4_36 F) ⟨⟩) (FGo4_36 F) (.inl rfl)
def TGo4_38 (F : Nat) : List Ent := e50 F :: TGo4_37 F
theorem FGo4_38 (F : Nat) : Fits2 Try.prog (tD (TGo4_38 F)) (tS (TGo4_38 F)) := fits_cons (o50 (FGo4_37 F) ⟨fun _ r h => p77 h, rfl⟩) (FGo4_37 F) (.inl rfl)
def TGo4_39 (F : Nat) : List Ent := e19 F :: TGo4_38 F
theorem FGo4_39 (F : Nat) : Fits2 Try.prog (tD (TGo4_39 F)) (tS (TGo4_39 F)) := fits_cons (o19 (FGo4_38 F) ⟨fun _ _ r h => p47 h, rfl, fun _ r h => p50 h, rfl⟩) (FGo4_38 F) (.inl rfl)
def TGo4_40 (F : Nat) : List Ent := e75 F :: TGo4_39 F
theorem FGo4_40 (F : Nat) : Fits2 Try.prog (tD (TGo4_40 F)) (tS (TGo4_40 F)) := fits_cons (o75 (FGo4_39 F) ⟨⟩) (FGo4_39 F) (.inl rfl)
def TGo4_41 (F : Nat) : List Ent := e48 F :: TGo4_40 F
theorem FGo4_41 (F : Nat) : Fits2 Try.prog (tD (TGo4_41 F)) (tS (TGo4_41 F)) := fits_cons (o48 (FGo4_40 F) ⟨fun _ _ r h => p75 h, rfl⟩) (FGo4_40 F) (.inl rfl)
def TGo4_42 (F : Nat) : List Ent := e16 F :: TGo4_41 F
theorem FGo4_42 (F : Nat) : Fits2 Try.prog (tD (TGo4_42 F)) (tS (TGo4_42 F)) := fits_cons (o16 (FGo4_41 F) ⟨fun _ _ r h => p48 h, rfl⟩) (FGo4_41 F) (.inl rfl)
def TGo4_43 (F : Nat) : List Ent := e17 F :: TGo4_42 F
theorem FGo4_43 (F : Nat) : Fits2 Try.prog (tD (TGo4_43 F)) (tS (TGo4_43 F)) := fits_cons (o17 (FGo4_42 F) ⟨⟩) (FGo4_42 F) (.inl rfl)
def TGo4_44 (F : Nat) : List Ent := e4 F :: TGo4_43 F
theorem FGo4_44 (F : Nat) : Fits2 Try.prog (tD (TGo4_44 F)) (tS (TGo4_44 F)) := fits_cons (o4 (FGo4_43 F) ⟨fun _ _ r h => p11 h, rfl, fun _ r h => p13 h, rfl, fun _ r h => p14 h, rfl, fun _ _ r h => p18 h, rfl, fun _ _ r h => p19 h, rfl, fun _ _ r h => p16 h, rfl, fun _ _ r h => p17 h, rfl⟩) (FGo4_43 F) (.inl rfl)
theorem law4 (F : Nat) (x0 : (Int × (List (Int × Int)))) (x1 : (List Int)) (h : w_FnExactSearchersUsed F x0 x1 = some true) : Contract Try.prog 4 0 false [Enc.enc x0, Enc.enc x1] (.bool true) := (FGo4_44 F).con 4 _ _ 0 false (p4 h) rfl
end Go.Zq
