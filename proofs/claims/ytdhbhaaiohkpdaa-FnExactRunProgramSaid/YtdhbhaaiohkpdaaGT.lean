/- The table of the functions' contracts. No further condition. -/
import Derived.Test.YtdhbhaaiohkpdaaK3
import Derived.Test.YtdhbhaaiohkpdaaProg
import Derived.Test.YtdhbhaaiohkpdaaChecked
import Derived.KernelRfl
import Derived.Test.YtdhbhaaiohkpdaaG3
set_option linter.unusedVariables false
set_option linter.unusedSimpArgs false
/- Functions of the program, as typed functions, and that the machine runs as they say. -/
namespace Go.Zq
open Go.Proofs
def TGC9_0 (F : Nat) : List Ent := e59 F :: []
theorem FGC9_0 (F : Nat) : Fits2 Try.prog (tD (TGC9_0 F)) (tS (TGC9_0 F)) := fits_cons (o59 (fits_nil) ⟨⟩) (fits_nil) (.inl rfl)
def TGC9_1 (F : Nat) : List Ent := e15 F :: TGC9_0 F
theorem FGC9_1 (F : Nat) : Fits2 Try.prog (tD (TGC9_1 F)) (tS (TGC9_1 F)) := fits_cons (o15 (FGC9_0 F) ⟨fun _ _ r h => p59 h, rfl⟩) (FGC9_0 F) (.inl rfl)
def TGC9_2 (F : Nat) : List Ent := e123 F :: TGC9_1 F
theorem FGC9_2 (F : Nat) : Fits2 Try.prog (tD (TGC9_2 F)) (tS (TGC9_2 F)) := fits_cons (o123 (FGC9_1 F) ⟨⟩) (FGC9_1 F) (.inl rfl)
def TGC9_3 (F : Nat) : List Ent := e62 F :: TGC9_2 F
theorem FGC9_3 (F : Nat) : Fits2 Try.prog (tD (TGC9_3 F)) (tS (TGC9_3 F)) := fits_cons (o62 (FGC9_2 F) ⟨fun _ r h => p123 h, rfl⟩) (FGC9_2 F) (.inl rfl)
def TGC9_4 (F : Nat) : List Ent := e17 F :: TGC9_3 F
theorem FGC9_4 (F : Nat) : Fits2 Try.prog (tD (TGC9_4 F)) (tS (TGC9_4 F)) := fits_cons (o17 (FGC9_3 F) ⟨fun _ r h => p62 h, rfl⟩) (FGC9_3 F) (.inl rfl)
def TGC9_5 (F : Nat) : List Ent := e18 F :: TGC9_4 F
theorem FGC9_5 (F : Nat) : Fits2 Try.prog (tD (TGC9_5 F)) (tS (TGC9_5 F)) := fits_cons (o18 (FGC9_4 F) ⟨⟩) (FGC9_4 F) (.inl rfl)
def TGC9_6 (F : Nat) : List Ent := e103 F :: TGC9_5 F
theorem FGC9_6 (F : Nat) : Fits2 Try.prog (tD (TGC9_6 F)) (tS (TGC9_6 F)) := fits_cons (o103 (FGC9_5 F) ⟨⟩) (FGC9_5 F) (.inl rfl)
def TGC9_7 (F : Nat) : List Ent := e130 F :: TGC9_6 F
theorem FGC9_7 (F : Nat) : Fits2 Try.prog (tD (TGC9_7 F)) (tS (TGC9_7 F)) := fits_cons (o130 (FGC9_6 F) ⟨⟩) (FGC9_6 F) (.inl rfl)
def TGC9_8 (F : Nat) : List Ent := e72 F :: TGC9_7 F
theorem FGC9_8 (F : Nat) : Fits2 Try.prog (tD (TGC9_8 F)) (tS (TGC9_8 F)) := fits_cons (o72 (FGC9_7 F) ⟨fun _ _ _ r h => p103 h, rfl, fun _ _ r h => p130 h, rfl⟩) (FGC9_7 F) (.inl rfl)
def TGC9_9 (F : Nat) : List Ent := e87 F :: TGC9_8 F
theorem FGC9_9 (F : Nat) : Fits2 Try.prog (tD (TGC9_9 F)) (tS (TGC9_9 F)) := fits_cons (o87 (FGC9_8 F) ⟨⟩) (FGC9_8 F) (.inl rfl)
def TGC9_10 (F : Nat) : List Ent := e86 F :: TGC9_9 F
theorem FGC9_10 (F : Nat) : Fits2 Try.prog (tD (TGC9_10 F)) (tS (TGC9_10 F)) := fits_cons (o86 (FGC9_9 F) ⟨fun _ _ r h => p87 h, rfl⟩) (FGC9_9 F) (.inl rfl)
def TGC9_11 (F : Nat) : List Ent := e154 F :: TGC9_10 F
theorem FGC9_11 (F : Nat) : Fits2 Try.prog (tD (TGC9_11 F)) (tS (TGC9_11 F)) := fits_cons (o154 (FGC9_10 F) ⟨fun _ r h => p86 h, rfl⟩) (FGC9_10 F) (.inl rfl)
def TGC9_12 (F : Nat) : List Ent := e181 F :: TGC9_11 F
theorem FGC9_12 (F : Nat) : Fits2 Try.prog (tD (TGC9_12 F)) (tS (TGC9_12 F)) := fits_cons (o181 (FGC9_11 F) ⟨fun _ _ _ r h => p103 h, rfl⟩) (FGC9_11 F) (.inl rfl)
def TGC9_13 (F : Nat) : List Ent := e74 F :: TGC9_12 F
theorem FGC9_13 (F : Nat) : Fits2 Try.prog (tD (TGC9_13 F)) (tS (TGC9_13 F)) := fits_cons (o74 (FGC9_12 F) ⟨⟩) (FGC9_12 F) (.inl rfl)
def TGC9_14 (F : Nat) : List Ent := e155 F :: TGC9_13 F
theorem FGC9_14 (F : Nat) : Fits2 Try.prog (tD (TGC9_14 F)) (tS (TGC9_14 F)) := fits_cons (o155 (FGC9_13 F) ⟨fun _ _ r h => p181 h, rfl, fun _ _ r h => p74 h, rfl⟩) (FGC9_13 F) (.inl rfl)
def TGC9_15 (F : Nat) : List Ent := e109 F :: TGC9_14 F
theorem FGC9_15 (F : Nat) : Fits2 Try.prog (tD (TGC9_15 F)) (tS (TGC9_15 F)) := fits_cons (o109 (FGC9_14 F) ⟨⟩) (FGC9_14 F) (.inl rfl)
def TGC9_16 (F : Nat) : List Ent := e146 F :: TGC9_15 F
theorem FGC9_16 (F : Nat) : Fits2 Try.prog (tD (TGC9_16 F)) (tS (TGC9_16 F)) := fits_cons (o146 (FGC9_15 F) ⟨⟩) (FGC9_15 F) (.inl rfl)
def TGC9_17 (F : Nat) : List Ent := e145 F :: TGC9_16 F
theorem FGC9_17 (F : Nat) : Fits2 Try.prog (tD (TGC9_17 F)) (tS (TGC9_17 F)) := fits_cons (o145 (FGC9_16 F) ⟨⟩) (FGC9_16 F) (.inl rfl)
def TGC9_18 (F : Nat) : List Ent := e179 F :: TGC9_17 F
theorem FGC9_18 (F : Nat) : Fits2 Try.prog (tD (TGC9_18 F)) (tS (TGC9_18 F)) := fits_cons (o179 (FGC9_17 F) ⟨fun _ _ r h => p74 h, rfl, fun _ _ _ r h => p145 h, rfl, fun _ _ r h => p146 h, rfl⟩) (FGC9_17 F) (.inl rfl)
def TGC9_19 (F : Nat) : List Ent := e182 F :: TGC9_18 F
theorem FGC9_19 (F : Nat) : Fits2 Try.prog (tD (TGC9_19 F)) (tS (TGC9_19 F)) := fits_cons (o182 (FGC9_18 F) ⟨fun _ _ r h => p74 h, rfl, fun _ _ _ r h => p179 h, rfl, fun _ _ r h => p146 h, rfl⟩) (FGC9_18 F) (.inl rfl)
def TGC9_20 (F : Nat) : List Ent := e156 F :: TGC9_19 F
theorem FGC9_20 (F : Nat) : Fits2 Try.prog (tD (TGC9_20 F)) (tS (TGC9_20 F)) := fits_cons (o156 (FGC9_19 F) ⟨fun _ _ r h => p109 h, rfl, fun _ _ r h => p146 h, rfl, fun _ _ _ r h => p182 h, rfl⟩) (FGC9_19 F) (.inl rfl)
def TGC9_21 (F : Nat) : List Ent := e95 F :: TGC9_20 F
theorem FGC9_21 (F : Nat) : Fits2 Try.prog (tD (TGC9_21 F)) (tS (TGC9_21 F)) := fits_cons (o95 (FGC9_20 F) ⟨fun _ r h => p154 h, rfl, fun _ _ _ r h => p155 h, rfl, fun _ _ _ r h => p156 h, rfl⟩) (FGC9_20 F) (.inl rfl)
def TGC9_22 (F : Nat) : List Ent := e96 F :: TGC9_21 F
theorem FGC9_22 (F : Nat) : Fits2 Try.prog (tD (TGC9_22 F)) (tS (TGC9_22 F)) := fits_cons (o96 (FGC9_21 F) ⟨fun _ r h => p154 h, rfl, fun _ _ _ r h => p156 h, rfl⟩) (FGC9_21 F) (.inl rfl)
def TGC9_23 (F : Nat) : List Ent := e97 F :: TGC9_22 F
theorem FGC9_23 (F : Nat) : Fits2 Try.prog (tD (TGC9_23 F)) (tS (TGC9_23 F)) := fits_cons (o97 (FGC9_22 F) ⟨⟩) (FGC9_22 F) (.inl rfl)
def TGC9_24 (F : Nat) : List Ent := e41 F :: TGC9_23 F
theorem FGC9_24 (F : Nat) : Fits2 Try.prog (tD (TGC9_24 F)) (tS (TGC9_24 F)) := fits_cons (o41 (FGC9_23 F) ⟨fun _ r h => p72 h, rfl, fun _ _ r h => p95 h, rfl, fun _ _ r h => p96 h, rfl, fun _ r h => p97 h, rfl⟩) (FGC9_23 F) (.inl rfl)
def TGC9_25 (F : Nat) : List Ent := e105 F :: TGC9_24 F
theorem FGC9_25 (F : Nat) : Fits2 Try.prog (tD (TGC9_25 F)) (tS (TGC9_25 F)) := fits_cons (o105 (FGC9_24 F) ⟨⟩) (FGC9_24 F) (.inl rfl)
def TGC9_26 (F : Nat) : List Ent := e180 F :: TGC9_25 F
theorem FGC9_26 (F : Nat) : Fits2 Try.prog (tD (TGC9_26 F)) (tS (TGC9_26 F)) := fits_cons (o180 (FGC9_25 F) ⟨⟩) (FGC9_25 F) (.inl rfl)
def TGC9_27 (F : Nat) : List Ent := e153 F :: TGC9_26 F
theorem FGC9_27 (F : Nat) : Fits2 Try.prog (tD (TGC9_27 F)) (tS (TGC9_27 F)) := fits_cons (o153 (FGC9_26 F) ⟨fun _ r h => p180 h, rfl⟩) (FGC9_26 F) (.inl rfl)
def TGC9_28 (F : Nat) : List Ent := e94 F :: TGC9_27 F
theorem FGC9_28 (F : Nat) : Fits2 Try.prog (tD (TGC9_28 F)) (tS (TGC9_28 F)) := fits_cons (o94 (FGC9_27 F) ⟨fun _ _ r h => p153 h, rfl⟩) (FGC9_27 F) (.inl rfl)
def TGC9_29 (F : Nat) : List Ent := e63 F :: TGC9_28 F
theorem FGC9_29 (F : Nat) : Fits2 Try.prog (tD (TGC9_29 F)) (tS (TGC9_29 F)) := fits_cons (o63 (FGC9_28 F) ⟨fun _ _ _ r h => p105 h, rfl, fun _ _ r h => p94 h, rfl⟩) (FGC9_28 F) (.inl rfl)
def TGC9_30 (F : Nat) : List Ent := e65 F :: TGC9_29 F
theorem FGC9_30 (F : Nat) : Fits2 Try.prog (tD (TGC9_30 F)) (tS (TGC9_30 F)) := fits_cons (o65 (FGC9_29 F) ⟨⟩) (FGC9_29 F) (.inl rfl)
def TGC9_31 (F : Nat) : List Ent := e113 F :: TGC9_30 F
theorem FGC9_31 (F : Nat) : Fits2 Try.prog (tD (TGC9_31 F)) (tS (TGC9_31 F)) := fits_cons (o113 (FGC9_30 F) ⟨⟩) (FGC9_30 F) (.inl rfl)
def TGC9_32 (F : Nat) : List Ent := e127 F :: TGC9_31 F
theorem FGC9_32 (F : Nat) : Fits2 Try.prog (tD (TGC9_32 F)) (tS (TGC9_32 F)) := fits_cons (o127 (FGC9_31 F) ⟨⟩) (FGC9_31 F) (.inl rfl)
def TGC9_33 (F : Nat) : List Ent := e175 F :: TGC9_32 F
theorem FGC9_33 (F : Nat) : Fits2 Try.prog (tD (TGC9_33 F)) (tS (TGC9_33 F)) := fits_cons (o175 (FGC9_32 F) ⟨⟩) (FGC9_32 F) (.inl rfl)
def TGC9_34 (F : Nat) : List Ent := e160 F :: TGC9_33 F
theorem FGC9_34 (F : Nat) : Fits2 Try.prog (tD (TGC9_34 F)) (tS (TGC9_34 F)) := fits_cons (o160 (FGC9_33 F) ⟨fun _ r h => p127 h, rfl, fun _ _ _ r h => p105 h, rfl, fun _ _ r h => p175 h, rfl⟩) (FGC9_33 F) (.inl rfl)
def TGC9_35 (F : Nat) : List Ent := e157 F :: TGC9_34 F
theorem FGC9_35 (F : Nat) : Fits2 Try.prog (tD (TGC9_35 F)) (tS (TGC9_35 F)) := fits_cons (o157 (FGC9_34 F) ⟨fun _ r h => p113 h, rfl, fun _ _ _ r h => p160 h, rfl⟩) (FGC9_34 F) (.inl rfl)
def TGC9_36 (F : Nat) : List Ent := e98 F :: TGC9_35 F
theorem FGC9_36 (F : Nat) : Fits2 Try.prog (tD (TGC9_36 F)) (tS (TGC9_36 F)) := fits_cons (o98 (FGC9_35 F) ⟨fun _ r h => p63 h, rfl, fun _ r h => p65 h, rfl, fun _ _ r h => p157 h, rfl⟩) (FGC9_35 F) (.inl rfl)
def TGC9_37 (F : Nat) : List Ent := e83o F :: TGC9_36 F
theorem FGC9_37 (F : Nat) : Fits2 Try.prog (tD (TGC9_37 F)) (tS (TGC9_37 F)) := fits_cons (o83o (FGC9_36 F) ⟨⟩) (FGC9_36 F) (.inl rfl)
def TGC9_38 (F : Nat) : List Ent := e42o F :: TGC9_37 F
theorem FGC9_38 (F : Nat) : Fits2 Try.prog (tD (TGC9_38 F)) (tS (TGC9_38 F)) := fits_cons (o42o (FGC9_37 F) ⟨fun _ _ r h => p98 h, rfl, fun _ r h => p83o h, rfl⟩) (FGC9_37 F) (.inl rfl)
def TGC9_39 (F : Nat) : List Ent := e21 F :: TGC9_38 F
theorem FGC9_39 (F : Nat) : Fits2 Try.prog (tD (TGC9_39 F)) (tS (TGC9_39 F)) := fits_cons (o21 (FGC9_38 F) ⟨⟩) (FGC9_38 F) (.inl rfl)
def TGC9_40 (F : Nat) : List Ent := e29 F :: TGC9_39 F
theorem FGC9_40 (F : Nat) : Fits2 Try.prog (tD (TGC9_40 F)) (tS (TGC9_40 F)) := fits_cons (o29 (FGC9_39 F) ⟨fun _ _ r h => p21 h, rfl⟩) (FGC9_39 F) (.inl rfl)
def TGC9_41 (F : Nat) : List Ent := e129 F :: TGC9_40 F
theorem FGC9_41 (F : Nat) : Fits2 Try.prog (tD (TGC9_41 F)) (tS (TGC9_41 F)) := fits_cons (o129 (FGC9_40 F) ⟨⟩) (FGC9_40 F) (.inl rfl)
def TGC9_42 (F : Nat) : List Ent := e68 F :: TGC9_41 F
theorem FGC9_42 (F : Nat) : Fits2 Try.prog (tD (TGC9_42 F)) (tS (TGC9_42 F)) := fits_cons (o68 (FGC9_41 F) ⟨fun _ _ r h => p129 h, rfl⟩) (FGC9_41 F) (.inl rfl)
def TGC9_43 (F : Nat) : List Ent := e20 F :: TGC9_42 F
theorem FGC9_43 (F : Nat) : Fits2 Try.prog (tD (TGC9_43 F)) (tS (TGC9_43 F)) := fits_cons (o20 (FGC9_42 F) ⟨fun _ _ r h => p68 h, rfl⟩) (FGC9_42 F) (.inl rfl)
def TGC9_44 (F : Nat) : List Ent := e62o F :: TGC9_43 F
theorem FGC9_44 (F : Nat) : Fits2 Try.prog (tD (TGC9_44 F)) (tS (TGC9_44 F)) := fits_cons (o62o (FGC9_43 F) ⟨fun _ r h => p123 h, rfl⟩) (FGC9_43 F) (.inl rfl)
def TGC9_45 (F : Nat) : List Ent := e17o F :: TGC9_44 F
theorem FGC9_45 (F : Nat) : Fits2 Try.prog (tD (TGC9_45 F)) (tS (TGC9_45 F)) := fits_cons (o17o (FGC9_44 F) ⟨fun _ r h => p62o h, rfl⟩) (FGC9_44 F) (.inl rfl)
def TGC9_46 (F : Nat) : List Ent := e69 F :: TGC9_45 F
theorem FGC9_46 (F : Nat) : Fits2 Try.prog (tD (TGC9_46 F)) (tS (TGC9_46 F)) := fits_cons (o69 (FGC9_45 F) ⟨⟩) (FGC9_45 F) (.inl rfl)
def TGC9_47 (F : Nat) : List Ent := e22 F :: TGC9_46 F
theorem FGC9_47 (F : Nat) : Fits2 Try.prog (tD (TGC9_47 F)) (tS (TGC9_47 F)) := fits_cons (o22 (FGC9_46 F) ⟨fun _ _ r h => p69 h, rfl⟩) (FGC9_46 F) (.inl rfl)
def TGC9_48 (F : Nat) : List Ent := e18o F :: TGC9_47 F
theorem FGC9_48 (F : Nat) : Fits2 Try.prog (tD (TGC9_48 F)) (tS (TGC9_48 F)) := fits_cons (o18o (FGC9_47 F) ⟨⟩) (FGC9_47 F) (.inl rfl)
def TGC9_49 (F : Nat) : List Ent := e23 F :: TGC9_48 F
theorem FGC9_49 (F : Nat) : Fits2 Try.prog (tD (TGC9_49 F)) (tS (TGC9_49 F)) := fits_cons (o23 (FGC9_48 F) ⟨⟩) (FGC9_48 F) (.inl rfl)
def TGC9_50 (F : Nat) : List Ent := e30 F :: TGC9_49 F
theorem FGC9_50 (F : Nat) : Fits2 Try.prog (tD (TGC9_50 F)) (tS (TGC9_50 F)) := fits_cons (o30 (FGC9_49 F) ⟨fun _ _ r h => p23 h, rfl⟩) (FGC9_49 F) (.inl rfl)
def TGC9_51 (F : Nat) : List Ent := e31 F :: TGC9_50 F
theorem FGC9_51 (F : Nat) : Fits2 Try.prog (tD (TGC9_51 F)) (tS (TGC9_51 F)) := fits_cons (o31 (FGC9_50 F) ⟨⟩) (FGC9_50 F) (.inl rfl)
def TGC9_52 (F : Nat) : List Ent := e38 F :: TGC9_51 F
theorem FGC9_52 (F : Nat) : Fits2 Try.prog (tD (TGC9_52 F)) (tS (TGC9_52 F)) := fits_cons (o38 (FGC9_51 F) ⟨fun _ _ r h => p31 h, rfl⟩) (FGC9_51 F) (.inl rfl)
def TGC9_53 (F : Nat) : List Ent := e9 F :: TGC9_52 F
theorem FGC9_53 (F : Nat) : Fits2 Try.prog (tD (TGC9_53 F)) (tS (TGC9_53 F)) := fits_cons (o9 (FGC9_52 F) ⟨fun _ _ r h => p15 h, rfl, fun _ r h => p17 h, rfl, fun _ r h => p18 h, rfl, fun _ _ r h => p41 h, rfl, fun _ r h => p17o h, rfl, fun _ r h => p18o h, rfl, fun _ _ r h => p42o h, rfl, fun _ _ r h => p29 h, rfl, fun _ _ r h => p20 h, rfl, fun _ _ r h => p21 h, rfl, fun _ _ r h => p22 h, rfl, fun _ _ r h => p23 h, rfl, fun _ _ r h => p30 h, rfl, fun _ _ r h => p38 h, rfl⟩) (FGC9_52 F) (.inl rfl)
theorem law9 (F : Nat) (x0 : (Int × (List (Int × Int)))) (x1 : (List Int)) (h : w_FnExactRunProgram F x0 x1 = some true) : Contract Try.prog 9 0 false [Enc.enc x0, Enc.enc x1] (.bool true) := contract_plain ((FGC9_53 F).con 9 _ _ 0 false (p9 h) rfl) rfl rfl
end Go.Zq
