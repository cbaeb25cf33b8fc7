/- The table of the functions' contracts. No further condition. -/
import Derived.Test.YtdhbhaaiohkpdaaK3
import Derived.Test.YtdhbhaaiohkpdaaProg
import Derived.Test.YtdhbhaaiohkpdaaChecked
import Derived.KernelRfl
import Derived.Test.YtdhbhaaiohkpdaaG2
set_option linter.unusedVariables false
set_option linter.unusedSimpArgs false
/- Functions of the program, as typed functions, and that the machine runs as they say. -/
namespace Go.Zq
open Go.Proofs
def TGCH_0 (F : Nat) : List Ent := e59 F :: []
theorem FGCH_0 (F : Nat) : Fits2 Try.prog (tD (TGCH_0 F)) (tS (TGCH_0 F)) := fits_cons (o59 (fits_nil) ⟨⟩) (fits_nil) (.inl rfl)
def TGCH_1 (F : Nat) : List Ent := e15 F :: TGCH_0 F
theorem FGCH_1 (F : Nat) : Fits2 Try.prog (tD (TGCH_1 F)) (tS (TGCH_1 F)) := fits_cons (o15 (FGCH_0 F) ⟨fun _ _ r h => p59 h, rfl⟩) (FGCH_0 F) (.inl rfl)
def TGCH_2 (F : Nat) : List Ent := e123 F :: TGCH_1 F
theorem FGCH_2 (F : Nat) : Fits2 Try.prog (tD (TGCH_2 F)) (tS (TGCH_2 F)) := fits_cons (o123 (FGCH_1 F) ⟨⟩) (FGCH_1 F) (.inl rfl)
def TGCH_3 (F : Nat) : List Ent := e62 F :: TGCH_2 F
theorem FGCH_3 (F : Nat) : Fits2 Try.prog (tD (TGCH_3 F)) (tS (TGCH_3 F)) := fits_cons (o62 (FGCH_2 F) ⟨fun _ r h => p123 h, rfl⟩) (FGCH_2 F) (.inl rfl)
def TGCH_4 (F : Nat) : List Ent := e17 F :: TGCH_3 F
theorem FGCH_4 (F : Nat) : Fits2 Try.prog (tD (TGCH_4 F)) (tS (TGCH_4 F)) := fits_cons (o17 (FGCH_3 F) ⟨fun _ r h => p62 h, rfl⟩) (FGCH_3 F) (.inl rfl)
def TGCH_5 (F : Nat) : List Ent := e103 F :: TGCH_4 F
theorem FGCH_5 (F : Nat) : Fits2 Try.prog (tD (TGCH_5 F)) (tS (TGCH_5 F)) := fits_cons (o103 (FGCH_4 F) ⟨⟩) (FGCH_4 F) (.inl rfl)
def TGCH_6 (F : Nat) : List Ent := e130 F :: TGCH_5 F
theorem FGCH_6 (F : Nat) : Fits2 Try.prog (tD (TGCH_6 F)) (tS (TGCH_6 F)) := fits_cons (o130 (FGCH_5 F) ⟨⟩) (FGCH_5 F) (.inl rfl)
def TGCH_7 (F : Nat) : List Ent := e72 F :: TGCH_6 F
theorem FGCH_7 (F : Nat) : Fits2 Try.prog (tD (TGCH_7 F)) (tS (TGCH_7 F)) := fits_cons (o72 (FGCH_6 F) ⟨fun _ _ _ r h => p103 h, rfl, fun _ _ r h => p130 h, rfl⟩) (FGCH_6 F) (.inl rfl)
def TGCH_8 (F : Nat) : List Ent := e87 F :: TGCH_7 F
theorem FGCH_8 (F : Nat) : Fits2 Try.prog (tD (TGCH_8 F)) (tS (TGCH_8 F)) := fits_cons (o87 (FGCH_7 F) ⟨⟩) (FGCH_7 F) (.inl rfl)
def TGCH_9 (F : Nat) : List Ent := e86 F :: TGCH_8 F
theorem FGCH_9 (F : Nat) : Fits2 Try.prog (tD (TGCH_9 F)) (tS (TGCH_9 F)) := fits_cons (o86 (FGCH_8 F) ⟨fun _ _ r h => p87 h, rfl⟩) (FGCH_8 F) (.inl rfl)
def TGCH_10 (F : Nat) : List Ent := e154 F :: TGCH_9 F
theorem FGCH_10 (F : Nat) : Fits2 Try.prog (tD (TGCH_10 F)) (tS (TGCH_10 F)) := fits_cons (o154 (FGCH_9 F) ⟨fun _ r h => p86 h, rfl⟩) (FGCH_9 F) (.inl rfl)
def TGCH_11 (F : Nat) : List Ent := e181 F :: TGCH_10 F
theorem FGCH_11 (F : Nat) : Fits2 Try.prog (tD (TGCH_11 F)) (tS (TGCH_11 F)) := fits_cons (o181 (FGCH_10 F) ⟨fun _ _ _ r h => p103 h, rfl⟩) (FGCH_10 F) (.inl rfl)
def TGCH_12 (F : Nat) : List Ent := e74 F :: TGCH_11 F
theorem FGCH_12 (F : Nat) : Fits2 Try.prog (tD (TGCH_12 F)) (tS (TGCH_12 F)) := fits_cons (o74 (FGCH_11 F) ⟨⟩) (FGCH_11 F) (.inl rfl)
def TGCH_13 (F : Nat) : List Ent := e155 F :: TGCH_12 F
theorem FGCH_13 (F : Nat) : Fits2 Try.prog (tD (TGCH_13 F)) (tS (TGCH_13 F)) := fits_cons (o155 (FGCH_12 F) ⟨fun _ _ r h => p181 h, rfl, fun _ _ r h => p74 h, rfl⟩) (FGCH_12 F) (.inl rfl)
def TGCH_14 (F : Nat) : List Ent := e109 F :: TGCH_13 F
theorem FGCH_14 (F : Nat) : Fits2 Try.prog (tD (TGCH_14 F)) (tS (TGCH_14 F)) := fits_cons (o109 (FGCH_13 F) ⟨⟩) (FGCH_13 F) (.inl rfl)
def TGCH_15 (F : Nat) : List Ent := e146 F :: TGCH_14 F
theorem FGCH_15 (F : Nat) : Fits2 Try.prog (tD (TGCH_15 F)) (tS (TGCH_15 F)) := fits_cons (o146 (FGCH_14 F) ⟨⟩) (FGCH_14 F) (.inl rfl)
def TGCH_16 (F : Nat) : List Ent := e145 F :: TGCH_15 F
theorem FGCH_16 (F : Nat) : Fits2 Try.prog (tD (TGCH_16 F)) (tS (TGCH_16 F)) := fits_cons (o145 (FGCH_15 F) ⟨⟩) (FGCH_15 F) (.inl rfl)
def TGCH_17 (F : Nat) : List Ent := e179 F :: TGCH_16 F
theorem FGCH_17 (F : Nat) : Fits2 Try.prog (tD (TGCH_17 F)) (tS (TGCH_17 F)) := fits_cons (o179 (FGCH_16 F) ⟨fun _ _ r h => p74 h, rfl, fun _ _ _ r h => p145 h, rfl, fun _ _ r h => p146 h, rfl⟩) (FGCH_16 F) (.inl rfl)
def TGCH_18 (F : Nat) : List Ent := e182 F :: TGCH_17 F
theorem FGCH_18 (F : Nat) : Fits2 Try.prog (tD (TGCH_18 F)) (tS (TGCH_18 F)) := fits_cons (o182 (FGCH_17 F) ⟨fun _ _ r h => p74 h, rfl, fun _ _ _ r h => p179 h, rfl, fun _ _ r h => p146 h, rfl⟩) (FGCH_17 F) (.inl rfl)
def TGCH_19 (F : Nat) : List Ent := e156 F :: TGCH_18 F
theorem FGCH_19 (F : Nat) : Fits2 Try.prog (tD (TGCH_19 F)) (tS (TGCH_19 F)) := fits_cons (o156 (FGCH_18 F) ⟨fun _ _ r h => p109 h, rfl, fun _ _ r h => p146 h, rfl, fun _ _ _ r h => p182 h, rfl⟩) (FGCH_18 F) (.inl rfl)
def TGCH_20 (F : Nat) : List Ent := e158 F :: TGCH_19 F
theorem FGCH_20 (F : Nat) : Fits2 Try.prog (tD (TGCH_20 F)) (tS (TGCH_20 F)) := fits_cons (o158 (FGCH_19 F) ⟨⟩) (FGCH_19 F) (.inl rfl)
def TGCH_21 (F : Nat) : List Ent := e97o F :: TGCH_20 F
theorem FGCH_21 (F : Nat) : Fits2 Try.prog (tD (TGCH_21 F)) (tS (TGCH_21 F)) := fits_cons (o97o (FGCH_20 F) ⟨⟩) (FGCH_20 F) (.inl rfl)
def TGCH_22 (F : Nat) : List Ent := e104 F :: TGCH_21 F
theorem FGCH_22 (F : Nat) : Fits2 Try.prog (tD (TGCH_22 F)) (tS (TGCH_22 F)) := fits_cons (o104 (FGCH_21 F) ⟨fun _ r h => p154 h, rfl, fun _ _ _ r h => p155 h, rfl, fun _ _ _ r h => p156 h, rfl, fun _ r h => p158 h, rfl, fun _ r h => p97o h, rfl⟩) (FGCH_21 F) (.inl rfl)
def TGCH_23 (F : Nat) : List Ent := e55 F :: TGCH_22 F
theorem FGCH_23 (F : Nat) : Fits2 Try.prog (tD (TGCH_23 F)) (tS (TGCH_23 F)) := fits_cons (o55 (FGCH_22 F) ⟨fun _ r h => p72 h, rfl, fun _ _ r h => p104 h, rfl⟩) (FGCH_22 F) (.inl rfl)
def TGCH_24 (F : Nat) : List Ent := e105 F :: TGCH_23 F
theorem FGCH_24 (F : Nat) : Fits2 Try.prog (tD (TGCH_24 F)) (tS (TGCH_24 F)) := fits_cons (o105 (FGCH_23 F) ⟨⟩) (FGCH_23 F) (.inl rfl)
def TGCH_25 (F : Nat) : List Ent := e180 F :: TGCH_24 F
theorem FGCH_25 (F : Nat) : Fits2 Try.prog (tD (TGCH_25 F)) (tS (TGCH_25 F)) := fits_cons (o180 (FGCH_24 F) ⟨⟩) (FGCH_24 F) (.inl rfl)
def TGCH_26 (F : Nat) : List Ent := e153 F :: TGCH_25 F
theorem FGCH_26 (F : Nat) : Fits2 Try.prog (tD (TGCH_26 F)) (tS (TGCH_26 F)) := fits_cons (o153 (FGCH_25 F) ⟨fun _ r h => p180 h, rfl⟩) (FGCH_25 F) (.inl rfl)
def TGCH_27 (F : Nat) : List Ent := e94 F :: TGCH_26 F
theorem FGCH_27 (F : Nat) : Fits2 Try.prog (tD (TGCH_27 F)) (tS (TGCH_27 F)) := fits_cons (o94 (FGCH_26 F) ⟨fun _ _ r h => p153 h, rfl⟩) (FGCH_26 F) (.inl rfl)
def TGCH_28 (F : Nat) : List Ent := e63 F :: TGCH_27 F
theorem FGCH_28 (F : Nat) : Fits2 Try.prog (tD (TGCH_28 F)) (tS (TGCH_28 F)) := fits_cons (o63 (FGCH_27 F) ⟨fun _ _ _ r h => p105 h, rfl, fun _ _ r h => p94 h, rfl⟩) (FGCH_27 F) (.inl rfl)
def TGCH_29 (F : Nat) : List Ent := e65 F :: TGCH_28 F
theorem FGCH_29 (F : Nat) : Fits2 Try.prog (tD (TGCH_29 F)) (tS (TGCH_29 F)) := fits_cons (o65 (FGCH_28 F) ⟨⟩) (FGCH_28 F) (.inl rfl)
def TGCH_30 (F : Nat) : List Ent := e113 F :: TGCH_29 F
theorem FGCH_30 (F : Nat) : Fits2 Try.prog (tD (TGCH_30 F)) (tS (TGCH_30 F)) := fits_cons (o113 (FGCH_29 F) ⟨⟩) (FGCH_29 F) (.inl rfl)
def TGCH_31 (F : Nat) : List Ent := e83 F :: TGCH_30 F
theorem FGCH_31 (F : Nat) : Fits2 Try.prog (tD (TGCH_31 F)) (tS (TGCH_31 F)) := fits_cons (o83 (FGCH_30 F) ⟨⟩) (FGCH_30 F) (.inl rfl)
def TGCH_32 (F : Nat) : List Ent := e84 F :: TGCH_31 F
theorem FGCH_32 (F : Nat) : Fits2 Try.prog (tD (TGCH_32 F)) (tS (TGCH_32 F)) := fits_cons (o84 (FGCH_31 F) ⟨fun _ r h => p83 h, rfl⟩) (FGCH_31 F) (.inl rfl)
def TGCH_33 (F : Nat) : List Ent := e184 F :: TGCH_32 F
theorem FGCH_33 (F : Nat) : Fits2 Try.prog (tD (TGCH_33 F)) (tS (TGCH_33 F)) := fits_cons (o184 (FGCH_32 F) ⟨⟩) (FGCH_32 F) (.inl rfl)
def TGCH_34 (F : Nat) : List Ent := e161 F :: TGCH_33 F
theorem FGCH_34 (F : Nat) : Fits2 Try.prog (tD (TGCH_34 F)) (tS (TGCH_34 F)) := fits_cons (o161 (FGCH_33 F) ⟨fun _ r h => p184 h, rfl⟩) (FGCH_33 F) (.inl rfl)
def TGCH_35 (F : Nat) : List Ent := e165 F :: TGCH_34 F
theorem FGCH_35 (F : Nat) : Fits2 Try.prog (tD (TGCH_35 F)) (tS (TGCH_35 F)) := fits_cons (o165 (FGCH_34 F) ⟨fun _ _ r h => p84 h, rfl, fun _ r h => p161 h, rfl⟩) (FGCH_34 F) (.inl rfl)
def TGCH_36 (F : Nat) : List Ent := e164s1 F :: TGCH_35 F
theorem FGCH_36 (F : Nat) : Fits2 Try.prog (tD (TGCH_36 F)) (tS (TGCH_36 F)) := fits_cons (o164s1 (FGCH_35 F) ⟨fun _ r h => p113 h, rfl, fun _ r h => p83 h, rfl, fun _ _ _ r h => p165 h, rfl⟩) (FGCH_35 F) (.inl rfl)
def TGCH_37 (F : Nat) : List Ent := e116 F :: TGCH_36 F
theorem FGCH_37 (F : Nat) : Fits2 Try.prog (tD (TGCH_37 F)) (tS (TGCH_37 F)) := fits_cons (o116 (FGCH_36 F) ⟨fun _ _ _ r h => p164s1 h, rfl⟩) (FGCH_36 F) (.inl rfl)
def TGCH_38 (F : Nat) : List Ent := e56 F :: TGCH_37 F
theorem FGCH_38 (F : Nat) : Fits2 Try.prog (tD (TGCH_38 F)) (tS (TGCH_38 F)) := fits_cons (o56 (FGCH_37 F) ⟨fun _ r h => p63 h, rfl, fun _ r h => p65 h, rfl, fun _ r h => p116 h, rfl⟩) (FGCH_37 F) (.inl rfl)
def TGCH_39 (F : Nat) : List Ent := e129 F :: TGCH_38 F
theorem FGCH_39 (F : Nat) : Fits2 Try.prog (tD (TGCH_39 F)) (tS (TGCH_39 F)) := fits_cons (o129 (FGCH_38 F) ⟨⟩) (FGCH_38 F) (.inl rfl)
def TGCH_40 (F : Nat) : List Ent := e68 F :: TGCH_39 F
theorem FGCH_40 (F : Nat) : Fits2 Try.prog (tD (TGCH_40 F)) (tS (TGCH_40 F)) := fits_cons (o68 (FGCH_39 F) ⟨fun _ _ r h => p129 h, rfl⟩) (FGCH_39 F) (.inl rfl)
def TGCH_41 (F : Nat) : List Ent := e20 F :: TGCH_40 F
theorem FGCH_41 (F : Nat) : Fits2 Try.prog (tD (TGCH_41 F)) (tS (TGCH_41 F)) := fits_cons (o20 (FGCH_40 F) ⟨fun _ _ r h => p68 h, rfl⟩) (FGCH_40 F) (.inl rfl)
def TGCH_42 (F : Nat) : List Ent := e13 F :: TGCH_41 F
theorem FGCH_42 (F : Nat) : Fits2 Try.prog (tD (TGCH_42 F)) (tS (TGCH_42 F)) := fits_cons (o13 (FGCH_41 F) ⟨fun _ _ r h => p15 h, rfl, fun _ r h => p17 h, rfl, fun _ r h => p55 h, rfl, fun _ r h => p56 h, rfl, fun _ _ r h => p20 h, rfl⟩) (FGCH_41 F) (.inl rfl)
theorem law13 (F : Nat) (x0 : (Int × (List (Int × Int)))) (h : w_FnExactSearchNumber F x0 = some true) : Contract Try.prog 13 0 false [Enc.enc x0] (.bool true) := contract_plain ((FGCH_42 F).con 13 _ _ 0 false (p13 h) rfl) rfl rfl
end Go.Zq
