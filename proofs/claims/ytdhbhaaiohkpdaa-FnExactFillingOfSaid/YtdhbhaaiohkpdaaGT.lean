/- The table of the functions' contracts. No further condition. -/
import Derived.Test.YtdhbhaaiohkpdaaK3
import Derived.Test.YtdhbhaaiohkpdaaKC
import Derived.Test.YtdhbhaaiohkpdaaProg
import Derived.Test.YtdhbhaaiohkpdaaChecked
import Derived.KernelRfl
import Derived.Test.YtdhbhaaiohkpdaaG3
set_option linter.unusedVariables false
set_option linter.unusedSimpArgs false
/- Functions of the program, as typed functions, and that the machine runs as they say. -/
namespace Go.Zq
open Go.Proofs Go.Shelf
def TGCG_0 (F : Nat) : List Ent := e59 F :: []
theorem FGCG_0 (F : Nat) : Fits2 Try.prog (tD (TGCG_0 F)) (tS (TGCG_0 F)) := fits_cons (o59 (fits_nil) ⟨⟩) (fits_nil) (.inl rfl)
def TGCG_1 (F : Nat) : List Ent := e15 F :: TGCG_0 F
theorem FGCG_1 (F : Nat) : Fits2 Try.prog (tD (TGCG_1 F)) (tS (TGCG_1 F)) := fits_cons (o15 (FGCG_0 F) ⟨fun _ _ r h => p59 h, rfl⟩) (FGCG_0 F) (.inl rfl)
def TGCG_2 (F : Nat) : List Ent := e123 F :: TGCG_1 F
theorem FGCG_2 (F : Nat) : Fits2 Try.prog (tD (TGCG_2 F)) (tS (TGCG_2 F)) := fits_cons (o123 (FGCG_1 F) ⟨⟩) (FGCG_1 F) (.inl rfl)
def TGCG_3 (F : Nat) : List Ent := e62 F :: TGCG_2 F
theorem FGCG_3 (F : Nat) : Fits2 Try.prog (tD (TGCG_3 F)) (tS (TGCG_3 F)) := fits_cons (o62 (FGCG_2 F) ⟨fun _ r h => p123 h, rfl⟩) (FGCG_2 F) (.inl rfl)
def TGCG_4 (F : Nat) : List Ent := e17 F :: TGCG_3 F
theorem FGCG_4 (F : Nat) : Fits2 Try.prog (tD (TGCG_4 F)) (tS (TGCG_4 F)) := fits_cons (o17 (FGCG_3 F) ⟨fun _ r h => p62 h, rfl⟩) (FGCG_3 F) (.inl rfl)
def TGCG_5 (F : Nat) : List Ent := e18 F :: TGCG_4 F
theorem FGCG_5 (F : Nat) : Fits2 Try.prog (tD (TGCG_5 F)) (tS (TGCG_5 F)) := fits_cons (o18 (FGCG_4 F) ⟨⟩) (FGCG_4 F) (.inl rfl)
def TGCG_6 (F : Nat) : List Ent := e103 F :: TGCG_5 F
theorem FGCG_6 (F : Nat) : Fits2 Try.prog (tD (TGCG_6 F)) (tS (TGCG_6 F)) := fits_cons (o103 (FGCG_5 F) ⟨⟩) (FGCG_5 F) (.inl rfl)
def TGCG_7 (F : Nat) : List Ent := e130 F :: TGCG_6 F
theorem FGCG_7 (F : Nat) : Fits2 Try.prog (tD (TGCG_7 F)) (tS (TGCG_7 F)) := fits_cons (o130 (FGCG_6 F) ⟨⟩) (FGCG_6 F) (.inl rfl)
def TGCG_8 (F : Nat) : List Ent := e72 F :: TGCG_7 F
theorem FGCG_8 (F : Nat) : Fits2 Try.prog (tD (TGCG_8 F)) (tS (TGCG_8 F)) := fits_cons (o72 (FGCG_7 F) ⟨fun _ _ _ r h => p103 h, rfl, fun _ _ r h => p130 h, rfl⟩) (FGCG_7 F) (.inl rfl)
def TGCG_9 (F : Nat) : List Ent := e74 F :: TGCG_8 F
theorem FGCG_9 (F : Nat) : Fits2 Try.prog (tD (TGCG_9 F)) (tS (TGCG_9 F)) := fits_cons (o74 (FGCG_8 F) ⟨⟩) (FGCG_8 F) (.inl rfl)
def TGCG_10 (F : Nat) : List Ent := e119 F :: TGCG_9 F
theorem FGCG_10 (F : Nat) : Fits2 Try.prog (tD (TGCG_10 F)) (tS (TGCG_10 F)) := fits_cons (o119 (FGCG_9 F) ⟨fun _ _ r h => p74 h, rfl⟩) (FGCG_9 F) (.inl rfl)
def TGCG_11 (F : Nat) : List Ent := e60 F :: TGCG_10 F
theorem FGCG_11 (F : Nat) : Fits2 Try.prog (tD (TGCG_11 F)) (tS (TGCG_11 F)) := fits_cons (o60 (FGCG_10 F) ⟨fun _ r h => p72 h, rfl, fun _ _ r h => p119 h, rfl⟩) (FGCG_10 F) (.inl rfl)
def TGCG_12 (F : Nat) : List Ent := e145 F :: TGCG_11 F
theorem FGCG_12 (F : Nat) : Fits2 Try.prog (tD (TGCG_12 F)) (tS (TGCG_12 F)) := fits_cons (o145 (FGCG_11 F) ⟨⟩) (FGCG_11 F) (.inl rfl)
def TGCG_13 (F : Nat) : List Ent := e169 F :: TGCG_12 F
theorem FGCG_13 (F : Nat) : Fits2 Try.prog (tD (TGCG_13 F)) (tS (TGCG_13 F)) := fits_cons (o169 (FGCG_12 F) ⟨fun _ _ _ r h => p145 h, rfl⟩) (FGCG_12 F) (.inl rfl)
def TGCG_14 (F : Nat) : List Ent := e146o F :: TGCG_13 F
theorem FGCG_14 (F : Nat) : Fits2 Try.prog (tD (TGCG_14 F)) (tS (TGCG_14 F)) := fits_cons (o146o (FGCG_13 F) ⟨⟩) (FGCG_13 F) (.inl rfl)
def TGCG_15 (F : Nat) : List Ent := e120o F :: TGCG_14 F
theorem FGCG_15 (F : Nat) : Fits2 Try.prog (tD (TGCG_15 F)) (tS (TGCG_15 F)) := fits_cons (o120o (FGCG_14 F) ⟨fun _ _ r h => p169 h, rfl, fun _ _ r h => p74 h, rfl, fun _ _ r h => p146o h, rfl⟩) (FGCG_14 F) (.inl rfl)
def TGCG_16 (F : Nat) : List Ent := e122 F :: TGCG_15 F
theorem FGCG_16 (F : Nat) : Fits2 Try.prog (tD (TGCG_16 F)) (tS (TGCG_16 F)) := fits_cons (o122 (FGCG_15 F) ⟨⟩) (FGCG_15 F) (.inl rfl)
def TGCG_17 (F : Nat) : List Ent := e78 F :: TGCG_16 F
theorem FGCG_17 (F : Nat) : Fits2 Try.prog (tD (TGCG_17 F)) (tS (TGCG_17 F)) := fits_cons (o78 (FGCG_16 F) ⟨⟩) (FGCG_16 F) (.inl rfl)
def TGCG_18 (F : Nat) : List Ent := e121o F :: TGCG_17 F
theorem FGCG_18 (F : Nat) : Fits2 Try.prog (tD (TGCG_18 F)) (tS (TGCG_18 F)) := fits_cons (o121o (FGCG_17 F) ⟨fun _ _ r h => p130 h, rfl⟩) (FGCG_17 F) (.inl rfl)
def TGCG_19 (F : Nat) : List Ent := e61 F :: TGCG_18 F
theorem FGCG_19 (F : Nat) : Fits2 Try.prog (tD (TGCG_19 F)) (tS (TGCG_19 F)) := fits_cons (o61 (FGCG_18 F) ⟨fun _ _ _ r h => p120o h, rfl, fun _ _ r h => p122 h, rfl, fun _ _ r h => p78 h, rfl, fun _ _ r h => p121o h, rfl⟩) (FGCG_18 F) (.inl rfl)
def TGCG_20 (F : Nat) : List Ent := e16 F :: TGCG_19 F
theorem FGCG_20 (F : Nat) : Fits2 Try.prog (tD (TGCG_20 F)) (tS (TGCG_20 F)) := fits_cons (o16 (FGCG_19 F) ⟨fun _ _ r h => p60 h, rfl, fun _ _ r h => p61 h, rfl⟩) (FGCG_19 F) (.inl rfl)
def TGCG_21 (F : Nat) : List Ent := e105 F :: TGCG_20 F
theorem FGCG_21 (F : Nat) : Fits2 Try.prog (tD (TGCG_21 F)) (tS (TGCG_21 F)) := fits_cons (o105 (FGCG_20 F) ⟨⟩) (FGCG_20 F) (.inl rfl)
def TGCG_22 (F : Nat) : List Ent := e180 F :: TGCG_21 F
theorem FGCG_22 (F : Nat) : Fits2 Try.prog (tD (TGCG_22 F)) (tS (TGCG_22 F)) := fits_cons (o180 (FGCG_21 F) ⟨⟩) (FGCG_21 F) (.inl rfl)
def TGCG_23 (F : Nat) : List Ent := e153 F :: TGCG_22 F
theorem FGCG_23 (F : Nat) : Fits2 Try.prog (tD (TGCG_23 F)) (tS (TGCG_23 F)) := fits_cons (o153 (FGCG_22 F) ⟨fun _ r h => p180 h, rfl⟩) (FGCG_22 F) (.inl rfl)
def TGCG_24 (F : Nat) : List Ent := e94 F :: TGCG_23 F
theorem FGCG_24 (F : Nat) : Fits2 Try.prog (tD (TGCG_24 F)) (tS (TGCG_24 F)) := fits_cons (o94 (FGCG_23 F) ⟨fun _ _ r h => p153 h, rfl⟩) (FGCG_23 F) (.inl rfl)
def TGCG_25 (F : Nat) : List Ent := e63 F :: TGCG_24 F
theorem FGCG_25 (F : Nat) : Fits2 Try.prog (tD (TGCG_25 F)) (tS (TGCG_25 F)) := fits_cons (o63 (FGCG_24 F) ⟨fun _ _ _ r h => p105 h, rfl, fun _ _ r h => p94 h, rfl⟩) (FGCG_24 F) (.inl rfl)
def TGCG_26 (F : Nat) : List Ent := e124 F :: TGCG_25 F
theorem FGCG_26 (F : Nat) : Fits2 Try.prog (tD (TGCG_26 F)) (tS (TGCG_26 F)) := fits_cons (o124 (FGCG_25 F) ⟨fun _ _ _ r h => p105 h, rfl⟩) (FGCG_25 F) (.inl rfl)
def TGCG_27 (F : Nat) : List Ent := e93 F :: TGCG_26 F
theorem FGCG_27 (F : Nat) : Fits2 Try.prog (tD (TGCG_27 F)) (tS (TGCG_27 F)) := fits_cons (o93 (FGCG_26 F) ⟨⟩) (FGCG_26 F) (.inl rfl)
def TGCG_28 (F : Nat) : List Ent := e64 F :: TGCG_27 F
theorem FGCG_28 (F : Nat) : Fits2 Try.prog (tD (TGCG_28 F)) (tS (TGCG_28 F)) := fits_cons (o64 (FGCG_27 F) ⟨fun _ _ _ r h => p124 h, rfl, fun _ r h => p93 h, rfl⟩) (FGCG_27 F) (.inl rfl)
def TGCG_29 (F : Nat) : List Ent := e65 F :: TGCG_28 F
theorem FGCG_29 (F : Nat) : Fits2 Try.prog (tD (TGCG_29 F)) (tS (TGCG_29 F)) := fits_cons (o65 (FGCG_28 F) ⟨⟩) (FGCG_28 F) (.inl rfl)
def TGCG_30 (F : Nat) : List Ent := e113 F :: TGCG_29 F
theorem FGCG_30 (F : Nat) : Fits2 Try.prog (tD (TGCG_30 F)) (tS (TGCG_30 F)) := fits_cons (o113 (FGCG_29 F) ⟨⟩) (FGCG_29 F) (.inl rfl)
def TGCG_31 (F : Nat) : List Ent := e83 F :: TGCG_30 F
theorem FGCG_31 (F : Nat) : Fits2 Try.prog (tD (TGCG_31 F)) (tS (TGCG_31 F)) := fits_cons (o83 (FGCG_30 F) ⟨⟩) (FGCG_30 F) (.inl rfl)
def TGCG_32 (F : Nat) : List Ent := e170o F :: TGCG_31 F
theorem FGCG_32 (F : Nat) : Fits2 Try.prog (tD (TGCG_32 F)) (tS (TGCG_32 F)) := fits_cons (o170o (FGCG_31 F) ⟨⟩) (FGCG_31 F) (.inl rfl)
def TGCG_33 (F : Nat) : List Ent := e125o F :: TGCG_32 F
theorem FGCG_33 (F : Nat) : Fits2 Try.prog (tD (TGCG_33 F)) (tS (TGCG_33 F)) := fits_cons (o125o (FGCG_32 F) ⟨fun _ r h => p170o h, rfl⟩) (FGCG_32 F) (.inl rfl)
def TGCG_34 (F : Nat) : List Ent := e66 F :: TGCG_33 F
theorem FGCG_34 (F : Nat) : Fits2 Try.prog (tD (TGCG_34 F)) (tS (TGCG_34 F)) := fits_cons (o66 (FGCG_33 F) ⟨fun _ r h => p125o h, rfl, fun _ r h => p113 h, rfl, fun _ r h => p83 h, rfl⟩) (FGCG_33 F) (.inl rfl)
def TGCG_35 (F : Nat) : List Ent := e127 F :: TGCG_34 F
theorem FGCG_35 (F : Nat) : Fits2 Try.prog (tD (TGCG_35 F)) (tS (TGCG_35 F)) := fits_cons (o127 (FGCG_34 F) ⟨⟩) (FGCG_34 F) (.inl rfl)
def TGCG_36 (F : Nat) : List Ent := e128 F :: TGCG_35 F
theorem FGCG_36 (F : Nat) : Fits2 Try.prog (tD (TGCG_36 F)) (tS (TGCG_36 F)) := fits_cons (o128 (FGCG_35 F) ⟨⟩) (FGCG_35 F) (.inl rfl)
def TGCG_37 (F : Nat) : List Ent := e126s2o F :: TGCG_36 F
theorem FGCG_37 (F : Nat) : Fits2 Try.prog (tD (TGCG_37 F)) (tS (TGCG_37 F)) := fits_cons (o126s2o (FGCG_36 F) ⟨fun _ _ _ r h => p128 h, rfl⟩) (FGCG_36 F) (.inl rfl)
def TGCG_38 (F : Nat) : List Ent := e67o F :: TGCG_37 F
theorem FGCG_38 (F : Nat) : Fits2 Try.prog (tD (TGCG_38 F)) (tS (TGCG_38 F)) := fits_cons (o67o (FGCG_37 F) ⟨fun _ r h => p127 h, rfl, fun _ _ r h => p126s2o h, rfl⟩) (FGCG_37 F) (.inl rfl)
def TGCG_39 (F : Nat) : List Ent := e19o F :: TGCG_38 F
theorem FGCG_39 (F : Nat) : Fits2 Try.prog (tD (TGCG_39 F)) (tS (TGCG_39 F)) := fits_cons (o19o (FGCG_38 F) ⟨fun _ r h => p63 h, rfl, fun _ _ r h => p64 h, rfl, fun _ r h => p65 h, rfl, fun _ _ r h => p66 h, rfl, fun _ r h => p67o h, rfl⟩) (FGCG_38 F) (.inl rfl)
def TGCG_40 (F : Nat) : List Ent := e129 F :: TGCG_39 F
theorem FGCG_40 (F : Nat) : Fits2 Try.prog (tD (TGCG_40 F)) (tS (TGCG_40 F)) := fits_cons (o129 (FGCG_39 F) ⟨⟩) (FGCG_39 F) (.inl rfl)
def TGCG_41 (F : Nat) : List Ent := e68 F :: TGCG_40 F
theorem FGCG_41 (F : Nat) : Fits2 Try.prog (tD (TGCG_41 F)) (tS (TGCG_41 F)) := fits_cons (o68 (FGCG_40 F) ⟨fun _ _ r h => p129 h, rfl⟩) (FGCG_40 F) (.inl rfl)
def TGCG_42 (F : Nat) : List Ent := e20 F :: TGCG_41 F
theorem FGCG_42 (F : Nat) : Fits2 Try.prog (tD (TGCG_42 F)) (tS (TGCG_42 F)) := fits_cons (o20 (FGCG_41 F) ⟨fun _ _ r h => p68 h, rfl⟩) (FGCG_41 F) (.inl rfl)
def TGCG_43 (F : Nat) : List Ent := e21 F :: TGCG_42 F
theorem FGCG_43 (F : Nat) : Fits2 Try.prog (tD (TGCG_43 F)) (tS (TGCG_43 F)) := fits_cons (o21 (FGCG_42 F) ⟨⟩) (FGCG_42 F) (.inl rfl)
def TGCG_44 (F : Nat) : List Ent := e62o F :: TGCG_43 F
theorem FGCG_44 (F : Nat) : Fits2 Try.prog (tD (TGCG_44 F)) (tS (TGCG_44 F)) := fits_cons (o62o (FGCG_43 F) ⟨fun _ r h => p123 h, rfl⟩) (FGCG_43 F) (.inl rfl)
def TGCG_45 (F : Nat) : List Ent := e17o F :: TGCG_44 F
theorem FGCG_45 (F : Nat) : Fits2 Try.prog (tD (TGCG_45 F)) (tS (TGCG_45 F)) := fits_cons (o17o (FGCG_44 F) ⟨fun _ r h => p62o h, rfl⟩) (FGCG_44 F) (.inl rfl)
def TGCG_46 (F : Nat) : List Ent := e69 F :: TGCG_45 F
theorem FGCG_46 (F : Nat) : Fits2 Try.prog (tD (TGCG_46 F)) (tS (TGCG_46 F)) := fits_cons (o69 (FGCG_45 F) ⟨⟩) (FGCG_45 F) (.inl rfl)
def TGCG_47 (F : Nat) : List Ent := e22 F :: TGCG_46 F
theorem FGCG_47 (F : Nat) : Fits2 Try.prog (tD (TGCG_47 F)) (tS (TGCG_47 F)) := fits_cons (o22 (FGCG_46 F) ⟨fun _ _ r h => p69 h, rfl⟩) (FGCG_46 F) (.inl rfl)
def TGCG_48 (F : Nat) : List Ent := e18o F :: TGCG_47 F
theorem FGCG_48 (F : Nat) : Fits2 Try.prog (tD (TGCG_48 F)) (tS (TGCG_48 F)) := fits_cons (o18o (FGCG_47 F) ⟨⟩) (FGCG_47 F) (.inl rfl)
def TGCG_49 (F : Nat) : List Ent := e23 F :: TGCG_48 F
theorem FGCG_49 (F : Nat) : Fits2 Try.prog (tD (TGCG_49 F)) (tS (TGCG_49 F)) := fits_cons (o23 (FGCG_48 F) ⟨⟩) (FGCG_48 F) (.inl rfl)
def TGCG_50 (F : Nat) : List Ent := e70 F :: TGCG_49 F
theorem FGCG_50 (F : Nat) : Fits2 Try.prog (tD (TGCG_50 F)) (tS (TGCG_50 F)) := fits_cons (o70 (FGCG_49 F) ⟨⟩) (FGCG_49 F) (.inl rfl)
def TGCG_51 (F : Nat) : List Ent := e24 F :: TGCG_50 F
theorem FGCG_51 (F : Nat) : Fits2 Try.prog (tD (TGCG_51 F)) (tS (TGCG_51 F)) := fits_cons (o24 (FGCG_50 F) ⟨fun _ _ r h => p70 h, rfl⟩) (FGCG_50 F) (.inl rfl)
def TGCG_52 (F : Nat) : List Ent := e3 F :: TGCG_51 F
theorem FGCG_52 (F : Nat) : Fits2 Try.prog (tD (TGCG_52 F)) (tS (TGCG_52 F)) := fits_cons (o3 (FGCG_51 F) ⟨fun _ _ r h => p15 h, rfl, fun _ r h => p17 h, rfl, fun _ r h => p18 h, rfl, fun _ _ r h => p16 h, rfl, fun _ r h => p17o h, rfl, fun _ r h => p18o h, rfl, fun _ _ r h => p19o h, rfl, fun _ _ r h => p20 h, rfl, fun _ _ r h => p21 h, rfl, fun _ _ r h => p22 h, rfl, fun _ _ r h => p23 h, rfl, fun _ _ r h => p24 h, rfl⟩) (FGCG_51 F) (.inl rfl)
theorem law3 (F : Nat) (x0 : (Int × (List (Int × Int)))) (x1 : (List Int)) (h : w_FnExactFillingOf F x0 x1 = some true) : Contract Try.prog 3 0 false [Enc.enc x0, Enc.enc x1] (.bool true) := contract_plain ((FGCG_52 F).con 3 _ _ 0 false (p3 h) rfl) rfl rfl
end Go.Zq
