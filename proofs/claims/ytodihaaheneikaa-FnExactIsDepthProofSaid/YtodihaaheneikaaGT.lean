/- The table of the functions' contracts. No further condition. -/
import Derived.Test.YtodihaaheneikaaK2
import Derived.Test.YtodihaaheneikaaProg
import Derived.Test.YtodihaaheneikaaChecked
import Derived.KernelRfl
import Derived.Test.YtodihaaheneikaaG4
set_option linter.unusedVariables false
set_option linter.unusedSimpArgs false
/- Functions of the program, as typed functions, and that the machine runs as they say. -/
namespace Go.Zq
open Go.Proofs
def TGo9_0 (F : Nat) : List Ent := e41 F :: []
theorem FGo9_0 (F : Nat) : Fits2 Try.prog (tD (TGo9_0 F)) (tS (TGo9_0 F)) := fits_cons (o41 (fits_nil) ⟨⟩) (fits_nil) (.inl rfl)
def TGo9_1 (F : Nat) : List Ent := e11 F :: TGo9_0 F
theorem FGo9_1 (F : Nat) : Fits2 Try.prog (tD (TGo9_1 F)) (tS (TGo9_1 F)) := fits_cons (o11 (FGo9_0 F) ⟨fun _ _ r h => p41 h, rfl⟩) (FGo9_0 F) (.inl rfl)
def TGo9_2 (F : Nat) : List Ent := e51 F :: TGo9_1 F
theorem FGo9_2 (F : Nat) : Fits2 Try.prog (tD (TGo9_2 F)) (tS (TGo9_2 F)) := fits_cons (o51 (FGo9_1 F) ⟨⟩) (FGo9_1 F) (.inl rfl)
def TGo9_3 (F : Nat) : List Ent := e59 F :: TGo9_2 F
theorem FGo9_3 (F : Nat) : Fits2 Try.prog (tD (TGo9_3 F)) (tS (TGo9_3 F)) := fits_cons (o59 (FGo9_2 F) ⟨fun _ _ r h => p51 h, rfl⟩) (FGo9_2 F) (.inl rfl)
def TGo9_4 (F : Nat) : List Ent := e34 F :: TGo9_3 F
theorem FGo9_4 (F : Nat) : Fits2 Try.prog (tD (TGo9_4 F)) (tS (TGo9_4 F)) := fits_cons (o34 (FGo9_3 F) ⟨fun _ _ r h => p59 h, rfl⟩) (FGo9_3 F) (.inl rfl)
def TGo9_5 (F : Nat) : List Ent := e73 F :: TGo9_4 F
theorem FGo9_5 (F : Nat) : Fits2 Try.prog (tD (TGo9_5 F)) (tS (TGo9_5 F)) := fits_cons (o73 (FGo9_4 F) ⟨⟩) (FGo9_4 F) (.inl rfl)
def TGo9_6 (F : Nat) : List Ent := e46 F :: TGo9_5 F
theorem FGo9_6 (F : Nat) : Fits2 Try.prog (tD (TGo9_6 F)) (tS (TGo9_6 F)) := fits_cons (o46 (FGo9_5 F) ⟨fun _ r h => p73 h, rfl⟩) (FGo9_5 F) (.inl rfl)
def TGo9_7 (F : Nat) : List Ent := e13 F :: TGo9_6 F
theorem FGo9_7 (F : Nat) : Fits2 Try.prog (tD (TGo9_7 F)) (tS (TGo9_7 F)) := fits_cons (o13 (FGo9_6 F) ⟨fun _ r h => p46 h, rfl⟩) (FGo9_6 F) (.inl rfl)
def TGo9_8 (F : Nat) : List Ent := e14 F :: TGo9_7 F
theorem FGo9_8 (F : Nat) : Fits2 Try.prog (tD (TGo9_8 F)) (tS (TGo9_8 F)) := fits_cons (o14 (FGo9_7 F) ⟨⟩) (FGo9_7 F) (.inl rfl)
def TGo9_9 (F : Nat) : List Ent := e61 F :: TGo9_8 F
theorem FGo9_9 (F : Nat) : Fits2 Try.prog (tD (TGo9_9 F)) (tS (TGo9_9 F)) := fits_cons (o61 (FGo9_8 F) ⟨fun _ r h => p14 h, rfl⟩) (FGo9_8 F) (.inl rfl)
def TGo9_10 (F : Nat) : List Ent := e36 F :: TGo9_9 F
theorem FGo9_10 (F : Nat) : Fits2 Try.prog (tD (TGo9_10 F)) (tS (TGo9_10 F)) := fits_cons (o36 (FGo9_9 F) ⟨fun _ r h => p61 h, rfl⟩) (FGo9_9 F) (.inl rfl)
def TGo9_11 (F : Nat) : List Ent := e65 F :: TGo9_10 F
theorem FGo9_11 (F : Nat) : Fits2 Try.prog (tD (TGo9_11 F)) (tS (TGo9_11 F)) := fits_cons (o65 (FGo9_10 F) ⟨⟩) (FGo9_10 F) (.inl rfl)
def TGo9_12 (F : Nat) : List Ent := e69 F :: TGo9_11 F
theorem FGo9_12 (F : Nat) : Fits2 Try.prog (tD (TGo9_12 F)) (tS (TGo9_12 F)) := fits_cons (o69 (FGo9_11 F) ⟨⟩) (FGo9_11 F) (.inl rfl)
def TGo9_13 (F : Nat) : List Ent := e42 F :: TGo9_12 F
theorem FGo9_13 (F : Nat) : Fits2 Try.prog (tD (TGo9_13 F)) (tS (TGo9_13 F)) := fits_cons (o42 (FGo9_12 F) ⟨fun _ _ _ r h => p65 h, rfl, fun _ _ r h => p69 h, rfl⟩) (FGo9_12 F) (.inl rfl)
def TGo9_14 (F : Nat) : List Ent := e120 F :: TGo9_13 F
theorem FGo9_14 (F : Nat) : Fits2 Try.prog (tD (TGo9_14 F)) (tS (TGo9_14 F)) := fits_cons (o120 (FGo9_13 F) ⟨fun _ _ _ r h => p65 h, rfl⟩) (FGo9_13 F) (.inl rfl)
def TGo9_15 (F : Nat) : List Ent := e89 F :: TGo9_14 F
theorem FGo9_15 (F : Nat) : Fits2 Try.prog (tD (TGo9_15 F)) (tS (TGo9_15 F)) := fits_cons (o89 (FGo9_14 F) ⟨fun _ _ _ r h => p120 h, rfl⟩) (FGo9_14 F) (.inl rfl)
def TGo9_16 (F : Nat) : List Ent := e45 F :: TGo9_15 F
theorem FGo9_16 (F : Nat) : Fits2 Try.prog (tD (TGo9_16 F)) (tS (TGo9_16 F)) := fits_cons (o45 (FGo9_15 F) ⟨⟩) (FGo9_15 F) (.inl rfl)
def TGo9_17 (F : Nat) : List Ent := e122 F :: TGo9_16 F
theorem FGo9_17 (F : Nat) : Fits2 Try.prog (tD (TGo9_17 F)) (tS (TGo9_17 F)) := fits_cons (o122 (FGo9_16 F) ⟨⟩) (FGo9_16 F) (.inl rfl)
def TGo9_18 (F : Nat) : List Ent := e110 F :: TGo9_17 F
theorem FGo9_18 (F : Nat) : Fits2 Try.prog (tD (TGo9_18 F)) (tS (TGo9_18 F)) := fits_cons (o110 (FGo9_17 F) ⟨⟩) (FGo9_17 F) (.inl rfl)
def TGo9_19 (F : Nat) : List Ent := e121 F :: TGo9_18 F
theorem FGo9_19 (F : Nat) : Fits2 Try.prog (tD (TGo9_19 F)) (tS (TGo9_19 F)) := fits_cons (o121 (FGo9_18 F) ⟨fun _ _ r h => p45 h, rfl, fun _ _ _ r h => p122 h, rfl, fun _ _ r h => p110 h, rfl⟩) (FGo9_18 F) (.inl rfl)
def TGo9_20 (F : Nat) : List Ent := e90 F :: TGo9_19 F
theorem FGo9_20 (F : Nat) : Fits2 Try.prog (tD (TGo9_20 F)) (tS (TGo9_20 F)) := fits_cons (o90 (FGo9_19 F) ⟨fun _ _ r h => p45 h, rfl, fun _ _ _ r h => p121 h, rfl, fun _ _ r h => p110 h, rfl⟩) (FGo9_19 F) (.inl rfl)
def TGo9_21 (F : Nat) : List Ent := e126 F :: TGo9_20 F
theorem FGo9_21 (F : Nat) : Fits2 Try.prog (tD (TGo9_21 F)) (tS (TGo9_21 F)) := fits_cons (o126 (FGo9_20 F) ⟨fun _ _ r h => p45 h, rfl⟩) (FGo9_20 F) (.inl rfl)
def TGo9_22 (F : Nat) : List Ent := e102 F :: TGo9_21 F
theorem FGo9_22 (F : Nat) : Fits2 Try.prog (tD (TGo9_22 F)) (tS (TGo9_22 F)) := fits_cons (o102 (FGo9_21 F) ⟨fun _ _ r h => p89 h, rfl, fun _ _ r h => p90 h, rfl, fun _ _ _ r h => p65 h, rfl, fun _ _ r h => p126 h, rfl, fun _ _ r h => p45 h, rfl⟩) (FGo9_21 F) (.inl rfl)
def TGo9_23 (F : Nat) : List Ent := e60 F :: TGo9_22 F
theorem FGo9_23 (F : Nat) : Fits2 Try.prog (tD (TGo9_23 F)) (tS (TGo9_23 F)) := fits_cons (o60 (FGo9_22 F) ⟨fun _ _ _ r h => p65 h, rfl, fun _ _ _ r h => p102 h, rfl⟩) (FGo9_22 F) (.inl rfl)
def TGo9_24 (F : Nat) : List Ent := e35 F :: TGo9_23 F
theorem FGo9_24 (F : Nat) : Fits2 Try.prog (tD (TGo9_24 F)) (tS (TGo9_24 F)) := fits_cons (o35 (FGo9_23 F) ⟨fun _ r h => p42 h, rfl, fun _ _ r h => p60 h, rfl⟩) (FGo9_23 F) (.inl rfl)
def TGo9_25 (F : Nat) : List Ent := e62 F :: TGo9_24 F
theorem FGo9_25 (F : Nat) : Fits2 Try.prog (tD (TGo9_25 F)) (tS (TGo9_25 F)) := fits_cons (o62 (FGo9_24 F) ⟨⟩) (FGo9_24 F) (.inl rfl)
def TGo9_26 (F : Nat) : List Ent := e131 F :: TGo9_25 F
theorem FGo9_26 (F : Nat) : Fits2 Try.prog (tD (TGo9_26 F)) (tS (TGo9_26 F)) := fits_cons (o131 (FGo9_25 F) ⟨⟩) (FGo9_25 F) (.inl rfl)
def TGo9_27 (F : Nat) : List Ent := e114 F :: TGo9_26 F
theorem FGo9_27 (F : Nat) : Fits2 Try.prog (tD (TGo9_27 F)) (tS (TGo9_27 F)) := fits_cons (o114 (FGo9_26 F) ⟨fun _ r h => p131 h, rfl⟩) (FGo9_26 F) (.inl rfl)
def TGo9_28 (F : Nat) : List Ent := e81 F :: TGo9_27 F
theorem FGo9_28 (F : Nat) : Fits2 Try.prog (tD (TGo9_28 F)) (tS (TGo9_28 F)) := fits_cons (o81 (FGo9_27 F) ⟨fun _ _ r h => p114 h, rfl⟩) (FGo9_27 F) (.inl rfl)
def TGo9_29 (F : Nat) : List Ent := e53 F :: TGo9_28 F
theorem FGo9_29 (F : Nat) : Fits2 Try.prog (tD (TGo9_29 F)) (tS (TGo9_29 F)) := fits_cons (o53 (FGo9_28 F) ⟨fun _ _ _ r h => p62 h, rfl, fun _ _ r h => p81 h, rfl⟩) (FGo9_28 F) (.inl rfl)
def TGo9_30 (F : Nat) : List Ent := e132 F :: TGo9_29 F
theorem FGo9_30 (F : Nat) : Fits2 Try.prog (tD (TGo9_30 F)) (tS (TGo9_30 F)) := fits_cons (o132 (FGo9_29 F) ⟨fun _ _ _ r h => p62 h, rfl⟩) (FGo9_29 F) (.inl rfl)
def TGo9_31 (F : Nat) : List Ent := e116 F :: TGo9_30 F
theorem FGo9_31 (F : Nat) : Fits2 Try.prog (tD (TGo9_31 F)) (tS (TGo9_31 F)) := fits_cons (o116 (FGo9_30 F) ⟨fun _ r h => p53 h, rfl, fun _ _ _ r h => p132 h, rfl⟩) (FGo9_30 F) (.inl rfl)
def TGo9_32 (F : Nat) : List Ent := e117 F :: TGo9_31 F
theorem FGo9_32 (F : Nat) : Fits2 Try.prog (tD (TGo9_32 F)) (tS (TGo9_32 F)) := fits_cons (o117 (FGo9_31 F) ⟨⟩) (FGo9_31 F) (.inl rfl)
def TGo9_33 (F : Nat) : List Ent := e84 F :: TGo9_32 F
theorem FGo9_33 (F : Nat) : Fits2 Try.prog (tD (TGo9_33 F)) (tS (TGo9_33 F)) := fits_cons (o84 (FGo9_32 F) ⟨fun _ _ r h => p116 h, rfl, fun _ r h => p117 h, rfl⟩) (FGo9_32 F) (.inl rfl)
def TGo9_34 (F : Nat) : List Ent := e67 F :: TGo9_33 F
theorem FGo9_34 (F : Nat) : Fits2 Try.prog (tD (TGo9_34 F)) (tS (TGo9_34 F)) := fits_cons (o67 (FGo9_33 F) ⟨⟩) (FGo9_33 F) (.inl rfl)
def TGo9_35 (F : Nat) : List Ent := e93 F :: TGo9_34 F
theorem FGo9_35 (F : Nat) : Fits2 Try.prog (tD (TGo9_35 F)) (tS (TGo9_35 F)) := fits_cons (o93 (FGo9_34 F) ⟨⟩) (FGo9_34 F) (.inl rfl)
def TGo9_36 (F : Nat) : List Ent := e123 F :: TGo9_35 F
theorem FGo9_36 (F : Nat) : Fits2 Try.prog (tD (TGo9_36 F)) (tS (TGo9_36 F)) := fits_cons (o123 (FGo9_35 F) ⟨⟩) (FGo9_35 F) (.inl rfl)
def TGo9_37 (F : Nat) : List Ent := e92 F :: TGo9_36 F
theorem FGo9_37 (F : Nat) : Fits2 Try.prog (tD (TGo9_37 F)) (tS (TGo9_37 F)) := fits_cons (o92 (FGo9_36 F) ⟨fun _ _ r h => p123 h, rfl⟩) (FGo9_36 F) (.inl rfl)
def TGo9_38 (F : Nat) : List Ent := e63 F :: TGo9_37 F
theorem FGo9_38 (F : Nat) : Fits2 Try.prog (tD (TGo9_38 F)) (tS (TGo9_38 F)) := fits_cons (o63 (FGo9_37 F) ⟨fun _ _ r h => p84 h, rfl, fun _ r h => p67 h, rfl, fun _ r h => p93 h, rfl, fun _ _ r h => p92 h, rfl, fun _ _ _ r h => p62 h, rfl⟩) (FGo9_37 F) (.inl rfl)
def TGo9_39 (F : Nat) : List Ent := e37 F :: TGo9_38 F
theorem FGo9_39 (F : Nat) : Fits2 Try.prog (tD (TGo9_39 F)) (tS (TGo9_39 F)) := fits_cons (o37 (FGo9_38 F) ⟨fun _ r h => p53 h, rfl, fun _ _ _ r h => p62 h, rfl, fun _ _ _ r h => p63 h, rfl⟩) (FGo9_38 F) (.inl rfl)
def TGo9_40 (F : Nat) : List Ent := e75 F :: TGo9_39 F
theorem FGo9_40 (F : Nat) : Fits2 Try.prog (tD (TGo9_40 F)) (tS (TGo9_40 F)) := fits_cons (o75 (FGo9_39 F) ⟨⟩) (FGo9_39 F) (.inl rfl)
def TGo9_41 (F : Nat) : List Ent := e48 F :: TGo9_40 F
theorem FGo9_41 (F : Nat) : Fits2 Try.prog (tD (TGo9_41 F)) (tS (TGo9_41 F)) := fits_cons (o48 (FGo9_40 F) ⟨fun _ _ r h => p75 h, rfl⟩) (FGo9_40 F) (.inl rfl)
def TGo9_42 (F : Nat) : List Ent := e16 F :: TGo9_41 F
theorem FGo9_42 (F : Nat) : Fits2 Try.prog (tD (TGo9_42 F)) (tS (TGo9_42 F)) := fits_cons (o16 (FGo9_41 F) ⟨fun _ _ r h => p48 h, rfl⟩) (FGo9_41 F) (.inl rfl)
def TGo9_43 (F : Nat) : List Ent := e17 F :: TGo9_42 F
theorem FGo9_43 (F : Nat) : Fits2 Try.prog (tD (TGo9_43 F)) (tS (TGo9_43 F)) := fits_cons (o17 (FGo9_42 F) ⟨⟩) (FGo9_42 F) (.inl rfl)
def TGo9_44 (F : Nat) : List Ent := e64 F :: TGo9_43 F
theorem FGo9_44 (F : Nat) : Fits2 Try.prog (tD (TGo9_44 F)) (tS (TGo9_44 F)) := fits_cons (o64 (FGo9_43 F) ⟨fun _ _ r h => p17 h, rfl⟩) (FGo9_43 F) (.inl rfl)
def TGo9_45 (F : Nat) : List Ent := e38 F :: TGo9_44 F
theorem FGo9_45 (F : Nat) : Fits2 Try.prog (tD (TGo9_45 F)) (tS (TGo9_45 F)) := fits_cons (o38 (FGo9_44 F) ⟨fun _ _ r h => p64 h, rfl⟩) (FGo9_44 F) (.inl rfl)
def TGo9_46 (F : Nat) : List Ent := e9 F :: TGo9_45 F
theorem FGo9_46 (F : Nat) : Fits2 Try.prog (tD (TGo9_46 F)) (tS (TGo9_46 F)) := fits_cons (o9 (FGo9_45 F) ⟨fun _ _ r h => p11 h, rfl, fun _ _ r h => p34 h, rfl, fun _ r h => p13 h, rfl, fun _ r h => p36 h, rfl, fun _ _ r h => p35 h, rfl, fun _ _ r h => p37 h, rfl, fun _ _ r h => p16 h, rfl, fun _ _ r h => p38 h, rfl⟩) (FGo9_45 F) (.inl rfl)
theorem law9 (F : Nat) (x0 : (Int × (List (Int × Int)))) (x1 : (List (S3 (List Int) Int (List Int)))) (h : w_FnExactIsDepthProof F x0 x1 = some true) : Contract Try.prog 9 0 false [Enc.enc x0, Enc.enc x1] (.bool true) := (FGo9_46 F).con 9 _ _ 0 false (p9 h) rfl
end Go.Zq
