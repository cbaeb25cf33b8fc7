/- The table of the functions' contracts. No further condition. -/
import Derived.Test.YtodihaaheneikaaK2
import Derived.Test.YtodihaaheneikaaProg
import Derived.Test.YtodihaaheneikaaChecked
import Derived.KernelRfl
import Derived.Test.YtodihaaheneikaaG3
set_option linter.unusedVariables false
set_option linter.unusedSimpArgs false
/- Functions of the program, as typed functions, and that the machine runs as they say. -/
namespace Go.Zq
open Go.Proofs
def TGo6_0 (F : Nat) : List Ent := e41 F :: []
theorem FGo6_0 (F : Nat) : Fits2 Try.prog (tD (TGo6_0 F)) (tS (TGo6_0 F)) := fits_cons (o41 (fits_nil) ⟨⟩) (fits_nil) (.inl rfl)
def TGo6_1 (F : Nat) : List Ent := e11 F :: TGo6_0 F
theorem FGo6_1 (F : Nat) : Fits2 Try.prog (tD (TGo6_1 F)) (tS (TGo6_1 F)) := fits_cons (o11 (FGo6_0 F) ⟨fun _ _ r h => p41 h, rfl⟩) (FGo6_0 F) (.inl rfl)
def TGo6_2 (F : Nat) : List Ent := e51 F :: TGo6_1 F
theorem FGo6_2 (F : Nat) : Fits2 Try.prog (tD (TGo6_2 F)) (tS (TGo6_2 F)) := fits_cons (o51 (FGo6_1 F) ⟨⟩) (FGo6_1 F) (.inl rfl)
def TGo6_3 (F : Nat) : List Ent := e20 F :: TGo6_2 F
theorem FGo6_3 (F : Nat) : Fits2 Try.prog (tD (TGo6_3 F)) (tS (TGo6_3 F)) := fits_cons (o20 (FGo6_2 F) ⟨fun _ _ r h => p51 h, rfl⟩) (FGo6_2 F) (.inl rfl)
def TGo6_4 (F : Nat) : List Ent := e73 F :: TGo6_3 F
theorem FGo6_4 (F : Nat) : Fits2 Try.prog (tD (TGo6_4 F)) (tS (TGo6_4 F)) := fits_cons (o73 (FGo6_3 F) ⟨⟩) (FGo6_3 F) (.inl rfl)
def TGo6_5 (F : Nat) : List Ent := e46 F :: TGo6_4 F
theorem FGo6_5 (F : Nat) : Fits2 Try.prog (tD (TGo6_5 F)) (tS (TGo6_5 F)) := fits_cons (o46 (FGo6_4 F) ⟨fun _ r h => p73 h, rfl⟩) (FGo6_4 F) (.inl rfl)
def TGo6_6 (F : Nat) : List Ent := e13 F :: TGo6_5 F
theorem FGo6_6 (F : Nat) : Fits2 Try.prog (tD (TGo6_6 F)) (tS (TGo6_6 F)) := fits_cons (o13 (FGo6_5 F) ⟨fun _ r h => p46 h, rfl⟩) (FGo6_5 F) (.inl rfl)
def TGo6_7 (F : Nat) : List Ent := e14 F :: TGo6_6 F
theorem FGo6_7 (F : Nat) : Fits2 Try.prog (tD (TGo6_7 F)) (tS (TGo6_7 F)) := fits_cons (o14 (FGo6_6 F) ⟨⟩) (FGo6_6 F) (.inl rfl)
def TGo6_8 (F : Nat) : List Ent := e22 F :: TGo6_7 F
theorem FGo6_8 (F : Nat) : Fits2 Try.prog (tD (TGo6_8 F)) (tS (TGo6_8 F)) := fits_cons (o22 (FGo6_7 F) ⟨fun _ r h => p14 h, rfl⟩) (FGo6_7 F) (.inl rfl)
def TGo6_9 (F : Nat) : List Ent := e65 F :: TGo6_8 F
theorem FGo6_9 (F : Nat) : Fits2 Try.prog (tD (TGo6_9 F)) (tS (TGo6_9 F)) := fits_cons (o65 (FGo6_8 F) ⟨⟩) (FGo6_8 F) (.inl rfl)
def TGo6_10 (F : Nat) : List Ent := e69 F :: TGo6_9 F
theorem FGo6_10 (F : Nat) : Fits2 Try.prog (tD (TGo6_10 F)) (tS (TGo6_10 F)) := fits_cons (o69 (FGo6_9 F) ⟨⟩) (FGo6_9 F) (.inl rfl)
def TGo6_11 (F : Nat) : List Ent := e42 F :: TGo6_10 F
theorem FGo6_11 (F : Nat) : Fits2 Try.prog (tD (TGo6_11 F)) (tS (TGo6_11 F)) := fits_cons (o42 (FGo6_10 F) ⟨fun _ _ _ r h => p65 h, rfl, fun _ _ r h => p69 h, rfl⟩) (FGo6_10 F) (.inl rfl)
def TGo6_12 (F : Nat) : List Ent := e120 F :: TGo6_11 F
theorem FGo6_12 (F : Nat) : Fits2 Try.prog (tD (TGo6_12 F)) (tS (TGo6_12 F)) := fits_cons (o120 (FGo6_11 F) ⟨fun _ _ _ r h => p65 h, rfl⟩) (FGo6_11 F) (.inl rfl)
def TGo6_13 (F : Nat) : List Ent := e89 F :: TGo6_12 F
theorem FGo6_13 (F : Nat) : Fits2 Try.prog (tD (TGo6_13 F)) (tS (TGo6_13 F)) := fits_cons (o89 (FGo6_12 F) ⟨fun _ _ _ r h => p120 h, rfl⟩) (FGo6_12 F) (.inl rfl)
def TGo6_14 (F : Nat) : List Ent := e45 F :: TGo6_13 F
theorem FGo6_14 (F : Nat) : Fits2 Try.prog (tD (TGo6_14 F)) (tS (TGo6_14 F)) := fits_cons (o45 (FGo6_13 F) ⟨⟩) (FGo6_13 F) (.inl rfl)
def TGo6_15 (F : Nat) : List Ent := e122 F :: TGo6_14 F
theorem FGo6_15 (F : Nat) : Fits2 Try.prog (tD (TGo6_15 F)) (tS (TGo6_15 F)) := fits_cons (o122 (FGo6_14 F) ⟨⟩) (FGo6_14 F) (.inl rfl)
def TGo6_16 (F : Nat) : List Ent := e110 F :: TGo6_15 F
theorem FGo6_16 (F : Nat) : Fits2 Try.prog (tD (TGo6_16 F)) (tS (TGo6_16 F)) := fits_cons (o110 (FGo6_15 F) ⟨⟩) (FGo6_15 F) (.inl rfl)
def TGo6_17 (F : Nat) : List Ent := e121 F :: TGo6_16 F
theorem FGo6_17 (F : Nat) : Fits2 Try.prog (tD (TGo6_17 F)) (tS (TGo6_17 F)) := fits_cons (o121 (FGo6_16 F) ⟨fun _ _ r h => p45 h, rfl, fun _ _ _ r h => p122 h, rfl, fun _ _ r h => p110 h, rfl⟩) (FGo6_16 F) (.inl rfl)
def TGo6_18 (F : Nat) : List Ent := e90 F :: TGo6_17 F
theorem FGo6_18 (F : Nat) : Fits2 Try.prog (tD (TGo6_18 F)) (tS (TGo6_18 F)) := fits_cons (o90 (FGo6_17 F) ⟨fun _ _ r h => p45 h, rfl, fun _ _ _ r h => p121 h, rfl, fun _ _ r h => p110 h, rfl⟩) (FGo6_17 F) (.inl rfl)
def TGo6_19 (F : Nat) : List Ent := e91 F :: TGo6_18 F
theorem FGo6_19 (F : Nat) : Fits2 Try.prog (tD (TGo6_19 F)) (tS (TGo6_19 F)) := fits_cons (o91 (FGo6_18 F) ⟨fun _ _ _ r h => p122 h, rfl⟩) (FGo6_18 F) (.inl rfl)
def TGo6_20 (F : Nat) : List Ent := e55 F :: TGo6_19 F
theorem FGo6_20 (F : Nat) : Fits2 Try.prog (tD (TGo6_20 F)) (tS (TGo6_20 F)) := fits_cons (o55 (FGo6_19 F) ⟨fun _ _ r h => p89 h, rfl, fun _ _ r h => p90 h, rfl, fun _ _ _ r h => p91 h, rfl⟩) (FGo6_19 F) (.inl rfl)
def TGo6_21 (F : Nat) : List Ent := e25 F :: TGo6_20 F
theorem FGo6_21 (F : Nat) : Fits2 Try.prog (tD (TGo6_21 F)) (tS (TGo6_21 F)) := fits_cons (o25 (FGo6_20 F) ⟨fun _ r h => p42 h, rfl, fun _ _ r h => p55 h, rfl⟩) (FGo6_20 F) (.inl rfl)
def TGo6_22 (F : Nat) : List Ent := e62 F :: TGo6_21 F
theorem FGo6_22 (F : Nat) : Fits2 Try.prog (tD (TGo6_22 F)) (tS (TGo6_22 F)) := fits_cons (o62 (FGo6_21 F) ⟨⟩) (FGo6_21 F) (.inl rfl)
def TGo6_23 (F : Nat) : List Ent := e131 F :: TGo6_22 F
theorem FGo6_23 (F : Nat) : Fits2 Try.prog (tD (TGo6_23 F)) (tS (TGo6_23 F)) := fits_cons (o131 (FGo6_22 F) ⟨⟩) (FGo6_22 F) (.inl rfl)
def TGo6_24 (F : Nat) : List Ent := e114 F :: TGo6_23 F
theorem FGo6_24 (F : Nat) : Fits2 Try.prog (tD (TGo6_24 F)) (tS (TGo6_24 F)) := fits_cons (o114 (FGo6_23 F) ⟨fun _ r h => p131 h, rfl⟩) (FGo6_23 F) (.inl rfl)
def TGo6_25 (F : Nat) : List Ent := e81 F :: TGo6_24 F
theorem FGo6_25 (F : Nat) : Fits2 Try.prog (tD (TGo6_25 F)) (tS (TGo6_25 F)) := fits_cons (o81 (FGo6_24 F) ⟨fun _ _ r h => p114 h, rfl⟩) (FGo6_24 F) (.inl rfl)
def TGo6_26 (F : Nat) : List Ent := e53 F :: TGo6_25 F
theorem FGo6_26 (F : Nat) : Fits2 Try.prog (tD (TGo6_26 F)) (tS (TGo6_26 F)) := fits_cons (o53 (FGo6_25 F) ⟨fun _ _ _ r h => p62 h, rfl, fun _ _ r h => p81 h, rfl⟩) (FGo6_25 F) (.inl rfl)
def TGo6_27 (F : Nat) : List Ent := e67 F :: TGo6_26 F
theorem FGo6_27 (F : Nat) : Fits2 Try.prog (tD (TGo6_27 F)) (tS (TGo6_27 F)) := fits_cons (o67 (FGo6_26 F) ⟨⟩) (FGo6_26 F) (.inl rfl)
def TGo6_28 (F : Nat) : List Ent := e132 F :: TGo6_27 F
theorem FGo6_28 (F : Nat) : Fits2 Try.prog (tD (TGo6_28 F)) (tS (TGo6_28 F)) := fits_cons (o132 (FGo6_27 F) ⟨fun _ _ _ r h => p62 h, rfl⟩) (FGo6_27 F) (.inl rfl)
def TGo6_29 (F : Nat) : List Ent := e116 F :: TGo6_28 F
theorem FGo6_29 (F : Nat) : Fits2 Try.prog (tD (TGo6_29 F)) (tS (TGo6_29 F)) := fits_cons (o116 (FGo6_28 F) ⟨fun _ r h => p53 h, rfl, fun _ _ _ r h => p132 h, rfl⟩) (FGo6_28 F) (.inl rfl)
def TGo6_30 (F : Nat) : List Ent := e117 F :: TGo6_29 F
theorem FGo6_30 (F : Nat) : Fits2 Try.prog (tD (TGo6_30 F)) (tS (TGo6_30 F)) := fits_cons (o117 (FGo6_29 F) ⟨⟩) (FGo6_29 F) (.inl rfl)
def TGo6_31 (F : Nat) : List Ent := e84 F :: TGo6_30 F
theorem FGo6_31 (F : Nat) : Fits2 Try.prog (tD (TGo6_31 F)) (tS (TGo6_31 F)) := fits_cons (o84 (FGo6_30 F) ⟨fun _ _ r h => p116 h, rfl, fun _ r h => p117 h, rfl⟩) (FGo6_30 F) (.inl rfl)
def TGo6_32 (F : Nat) : List Ent := e93 F :: TGo6_31 F
theorem FGo6_32 (F : Nat) : Fits2 Try.prog (tD (TGo6_32 F)) (tS (TGo6_32 F)) := fits_cons (o93 (FGo6_31 F) ⟨⟩) (FGo6_31 F) (.inl rfl)
def TGo6_33 (F : Nat) : List Ent := e123 F :: TGo6_32 F
theorem FGo6_33 (F : Nat) : Fits2 Try.prog (tD (TGo6_33 F)) (tS (TGo6_33 F)) := fits_cons (o123 (FGo6_32 F) ⟨⟩) (FGo6_32 F) (.inl rfl)
def TGo6_34 (F : Nat) : List Ent := e92 F :: TGo6_33 F
theorem FGo6_34 (F : Nat) : Fits2 Try.prog (tD (TGo6_34 F)) (tS (TGo6_34 F)) := fits_cons (o92 (FGo6_33 F) ⟨fun _ _ r h => p123 h, rfl⟩) (FGo6_33 F) (.inl rfl)
def TGo6_35 (F : Nat) : List Ent := e95 F :: TGo6_34 F
theorem FGo6_35 (F : Nat) : Fits2 Try.prog (tD (TGo6_35 F)) (tS (TGo6_35 F)) := fits_cons (o95 (FGo6_34 F) ⟨fun _ _ r h => p123 h, rfl⟩) (FGo6_34 F) (.inl rfl)
def TGo6_36 (F : Nat) : List Ent := e94 F :: TGo6_35 F
theorem FGo6_36 (F : Nat) : Fits2 Try.prog (tD (TGo6_36 F)) (tS (TGo6_36 F)) := fits_cons (o94 (FGo6_35 F) ⟨fun _ r h => p93 h, rfl, fun _ _ _ r h => p95 h, rfl⟩) (FGo6_35 F) (.inl rfl)
def TGo6_37 (F : Nat) : List Ent := e115s1 F :: TGo6_36 F
theorem FGo6_37 (F : Nat) : Fits2 Try.prog (tD (TGo6_37 F)) (tS (TGo6_37 F)) := fits_cons (o115s1 (FGo6_36 F) ⟨fun _ _ _ r h => p94 h, rfl⟩) (FGo6_36 F) (.inl rfl)
def TGo6_38 (F : Nat) : List Ent := e82s1 F :: TGo6_37 F
theorem FGo6_38 (F : Nat) : Fits2 Try.prog (tD (TGo6_38 F)) (tS (TGo6_38 F)) := fits_cons (o82s1 (FGo6_37 F) ⟨fun _ _ r h => p115s1 h, rfl⟩) (FGo6_37 F) (.inl rfl)
def TGo6_39 (F : Nat) : List Ent := e56 F :: TGo6_38 F
theorem FGo6_39 (F : Nat) : Fits2 Try.prog (tD (TGo6_39 F)) (tS (TGo6_39 F)) := fits_cons (o56 (FGo6_38 F) ⟨fun _ r h => p67 h, rfl, fun _ _ r h => p84 h, rfl, fun _ r h => p93 h, rfl, fun _ _ r h => p92 h, rfl, fun _ _ r h => p82s1 h, rfl⟩) (FGo6_38 F) (.inl rfl)
def TGo6_40 (F : Nat) : List Ent := e26 F :: TGo6_39 F
theorem FGo6_40 (F : Nat) : Fits2 Try.prog (tD (TGo6_40 F)) (tS (TGo6_40 F)) := fits_cons (o26 (FGo6_39 F) ⟨fun _ r h => p53 h, rfl, fun _ _ r h => p56 h, rfl⟩) (FGo6_39 F) (.inl rfl)
def TGo6_41 (F : Nat) : List Ent := e75 F :: TGo6_40 F
theorem FGo6_41 (F : Nat) : Fits2 Try.prog (tD (TGo6_41 F)) (tS (TGo6_41 F)) := fits_cons (o75 (FGo6_40 F) ⟨⟩) (FGo6_40 F) (.inl rfl)
def TGo6_42 (F : Nat) : List Ent := e48 F :: TGo6_41 F
theorem FGo6_42 (F : Nat) : Fits2 Try.prog (tD (TGo6_42 F)) (tS (TGo6_42 F)) := fits_cons (o48 (FGo6_41 F) ⟨fun _ _ r h => p75 h, rfl⟩) (FGo6_41 F) (.inl rfl)
def TGo6_43 (F : Nat) : List Ent := e16 F :: TGo6_42 F
theorem FGo6_43 (F : Nat) : Fits2 Try.prog (tD (TGo6_43 F)) (tS (TGo6_43 F)) := fits_cons (o16 (FGo6_42 F) ⟨fun _ _ r h => p48 h, rfl⟩) (FGo6_42 F) (.inl rfl)
def TGo6_44 (F : Nat) : List Ent := e17 F :: TGo6_43 F
theorem FGo6_44 (F : Nat) : Fits2 Try.prog (tD (TGo6_44 F)) (tS (TGo6_44 F)) := fits_cons (o17 (FGo6_43 F) ⟨⟩) (FGo6_43 F) (.inl rfl)
def TGo6_45 (F : Nat) : List Ent := e24 F :: TGo6_44 F
theorem FGo6_45 (F : Nat) : Fits2 Try.prog (tD (TGo6_45 F)) (tS (TGo6_45 F)) := fits_cons (o24 (FGo6_44 F) ⟨fun _ _ r h => p17 h, rfl⟩) (FGo6_44 F) (.inl rfl)
def TGo6_46 (F : Nat) : List Ent := e6 F :: TGo6_45 F
theorem FGo6_46 (F : Nat) : Fits2 Try.prog (tD (TGo6_46 F)) (tS (TGo6_46 F)) := fits_cons (o6 (FGo6_45 F) ⟨fun _ _ r h => p11 h, rfl, fun _ _ r h => p20 h, rfl, fun _ r h => p13 h, rfl, fun _ r h => p22 h, rfl, fun _ _ r h => p25 h, rfl, fun _ _ r h => p26 h, rfl, fun _ _ r h => p16 h, rfl, fun _ _ r h => p24 h, rfl⟩) (FGo6_45 F) (.inl rfl)
theorem law6 (F : Nat) (x0 : (Int × (List (Int × Int)))) (x1 : (List (List Int))) (h : w_FnExactIsBramble F x0 x1 = some true) : Contract Try.prog 6 0 false [Enc.enc x0, Enc.enc x1] (.bool true) := (FGo6_46 F).con 6 _ _ 0 false (p6 h) rfl
end Go.Zq
