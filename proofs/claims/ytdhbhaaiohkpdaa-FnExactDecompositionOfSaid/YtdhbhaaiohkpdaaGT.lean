/- The table of the functions' contracts. No further condition. -/
import Derived.Test.YtdhbhaaiohkpdaaK3
import Derived.Test.YtdhbhaaiohkpdaaKC
import Derived.Test.YtdhbhaaiohkpdaaProg
import Derived.Test.YtdhbhaaiohkpdaaChecked
import Derived.KernelRfl
import Derived.Test.YtdhbhaaiohkpdaaG3
set_option linter.unusedVariables false
set_option linter.unusedSimpArgs false
/- Functions of the program, as typed functions, and that the machine runs as they say. -/
namespace Go.Zq
open Go.Proofs Go.Shelf
def TGCI_0 (F : Nat) : List Ent := e59 F :: []
theorem FGCI_0 (F : Nat) : Fits2 Try.prog (tD (TGCI_0 F)) (tS (TGCI_0 F)) := fits_cons (o59 (fits_nil) ⟨⟩) (fits_nil) (.inl rfl)
def TGCI_1 (F : Nat) : List Ent := e15 F :: TGCI_0 F
theorem FGCI_1 (F : Nat) : Fits2 Try.prog (tD (TGCI_1 F)) (tS (TGCI_1 F)) := fits_cons (o15 (FGCI_0 F) ⟨fun _ _ r h => p59 h, rfl⟩) (FGCI_0 F) (.inl rfl)
def TGCI_2 (F : Nat) : List Ent := e123 F :: TGCI_1 F
theorem FGCI_2 (F : Nat) : Fits2 Try.prog (tD (TGCI_2 F)) (tS (TGCI_2 F)) := fits_cons (o123 (FGCI_1 F) ⟨⟩) (FGCI_1 F) (.inl rfl)
def TGCI_3 (F : Nat) : List Ent := e62 F :: TGCI_2 F
theorem FGCI_3 (F : Nat) : Fits2 Try.prog (tD (TGCI_3 F)) (tS (TGCI_3 F)) := fits_cons (o62 (FGCI_2 F) ⟨fun _ r h => p123 h, rfl⟩) (FGCI_2 F) (.inl rfl)
def TGCI_4 (F : Nat) : List Ent := e17 F :: TGCI_3 F
theorem FGCI_4 (F : Nat) : Fits2 Try.prog (tD (TGCI_4 F)) (tS (TGCI_4 F)) := fits_cons (o17 (FGCI_3 F) ⟨fun _ r h => p62 h, rfl⟩) (FGCI_3 F) (.inl rfl)
def TGCI_5 (F : Nat) : List Ent := e18 F :: TGCI_4 F
theorem FGCI_5 (F : Nat) : Fits2 Try.prog (tD (TGCI_5 F)) (tS (TGCI_5 F)) := fits_cons (o18 (FGCI_4 F) ⟨⟩) (FGCI_4 F) (.inl rfl)
def TGCI_6 (F : Nat) : List Ent := e103 F :: TGCI_5 F
theorem FGCI_6 (F : Nat) : Fits2 Try.prog (tD (TGCI_6 F)) (tS (TGCI_6 F)) := fits_cons (o103 (FGCI_5 F) ⟨⟩) (FGCI_5 F) (.inl rfl)
def TGCI_7 (F : Nat) : List Ent := e130 F :: TGCI_6 F
theorem FGCI_7 (F : Nat) : Fits2 Try.prog (tD (TGCI_7 F)) (tS (TGCI_7 F)) := fits_cons (o130 (FGCI_6 F) ⟨⟩) (FGCI_6 F) (.inl rfl)
def TGCI_8 (F : Nat) : List Ent := e72 F :: TGCI_7 F
theorem FGCI_8 (F : Nat) : Fits2 Try.prog (tD (TGCI_8 F)) (tS (TGCI_8 F)) := fits_cons (o72 (FGCI_7 F) ⟨fun _ _ _ r h => p103 h, rfl, fun _ _ r h => p130 h, rfl⟩) (FGCI_7 F) (.inl rfl)
def TGCI_9 (F : Nat) : List Ent := e74 F :: TGCI_8 F
theorem FGCI_9 (F : Nat) : Fits2 Try.prog (tD (TGCI_9 F)) (tS (TGCI_9 F)) := fits_cons (o74 (FGCI_8 F) ⟨⟩) (FGCI_8 F) (.inl rfl)
def TGCI_10 (F : Nat) : List Ent := e119 F :: TGCI_9 F
theorem FGCI_10 (F : Nat) : Fits2 Try.prog (tD (TGCI_10 F)) (tS (TGCI_10 F)) := fits_cons (o119 (FGCI_9 F) ⟨fun _ _ r h => p74 h, rfl⟩) (FGCI_9 F) (.inl rfl)
def TGCI_11 (F : Nat) : List Ent := e60 F :: TGCI_10 F
theorem FGCI_11 (F : Nat) : Fits2 Try.prog (tD (TGCI_11 F)) (tS (TGCI_11 F)) := fits_cons (o60 (FGCI_10 F) ⟨fun _ r h => p72 h, rfl, fun _ _ r h => p119 h, rfl⟩) (FGCI_10 F) (.inl rfl)
def TGCI_12 (F : Nat) : List Ent := e145 F :: TGCI_11 F
theorem FGCI_12 (F : Nat) : Fits2 Try.prog (tD (TGCI_12 F)) (tS (TGCI_12 F)) := fits_cons (o145 (FGCI_11 F) ⟨⟩) (FGCI_11 F) (.inl rfl)
def TGCI_13 (F : Nat) : List Ent := e169 F :: TGCI_12 F
theorem FGCI_13 (F : Nat) : Fits2 Try.prog (tD (TGCI_13 F)) (tS (TGCI_13 F)) := fits_cons (o169 (FGCI_12 F) ⟨fun _ _ _ r h => p145 h, rfl⟩) (FGCI_12 F) (.inl rfl)
def TGCI_14 (F : Nat) : List Ent := e146 F :: TGCI_13 F
theorem FGCI_14 (F : Nat) : Fits2 Try.prog (tD (TGCI_14 F)) (tS (TGCI_14 F)) := fits_cons (o146 (FGCI_13 F) ⟨⟩) (FGCI_13 F) (.inl rfl)
def TGCI_15 (F : Nat) : List Ent := e120 F :: TGCI_14 F
theorem FGCI_15 (F : Nat) : Fits2 Try.prog (tD (TGCI_15 F)) (tS (TGCI_15 F)) := fits_cons (o120 (FGCI_14 F) ⟨fun _ _ r h => p169 h, rfl, fun _ _ r h => p74 h, rfl, fun _ _ r h => p146 h, rfl⟩) (FGCI_14 F) (.inl rfl)
def TGCI_16 (F : Nat) : List Ent := e99 F :: TGCI_15 F
theorem FGCI_16 (F : Nat) : Fits2 Try.prog (tD (TGCI_16 F)) (tS (TGCI_16 F)) := fits_cons (o99 (FGCI_15 F) ⟨fun _ _ _ r h => p120 h, rfl, fun _ _ r h => p146 h, rfl, fun _ _ r h => p74 h, rfl⟩) (FGCI_15 F) (.inl rfl)
def TGCI_17 (F : Nat) : List Ent := e43 F :: TGCI_16 F
theorem FGCI_17 (F : Nat) : Fits2 Try.prog (tD (TGCI_17 F)) (tS (TGCI_17 F)) := fits_cons (o43 (FGCI_16 F) ⟨fun _ _ r h => p60 h, rfl, fun _ _ r h => p99 h, rfl⟩) (FGCI_16 F) (.inl rfl)
def TGCI_18 (F : Nat) : List Ent := e105 F :: TGCI_17 F
theorem FGCI_18 (F : Nat) : Fits2 Try.prog (tD (TGCI_18 F)) (tS (TGCI_18 F)) := fits_cons (o105 (FGCI_17 F) ⟨⟩) (FGCI_17 F) (.inl rfl)
def TGCI_19 (F : Nat) : List Ent := e180 F :: TGCI_18 F
theorem FGCI_19 (F : Nat) : Fits2 Try.prog (tD (TGCI_19 F)) (tS (TGCI_19 F)) := fits_cons (o180 (FGCI_18 F) ⟨⟩) (FGCI_18 F) (.inl rfl)
def TGCI_20 (F : Nat) : List Ent := e153 F :: TGCI_19 F
theorem FGCI_20 (F : Nat) : Fits2 Try.prog (tD (TGCI_20 F)) (tS (TGCI_20 F)) := fits_cons (o153 (FGCI_19 F) ⟨fun _ r h => p180 h, rfl⟩) (FGCI_19 F) (.inl rfl)
def TGCI_21 (F : Nat) : List Ent := e94 F :: TGCI_20 F
theorem FGCI_21 (F : Nat) : Fits2 Try.prog (tD (TGCI_21 F)) (tS (TGCI_21 F)) := fits_cons (o94 (FGCI_20 F) ⟨fun _ _ r h => p153 h, rfl⟩) (FGCI_20 F) (.inl rfl)
def TGCI_22 (F : Nat) : List Ent := e63 F :: TGCI_21 F
theorem FGCI_22 (F : Nat) : Fits2 Try.prog (tD (TGCI_22 F)) (tS (TGCI_22 F)) := fits_cons (o63 (FGCI_21 F) ⟨fun _ _ _ r h => p105 h, rfl, fun _ _ r h => p94 h, rfl⟩) (FGCI_21 F) (.inl rfl)
def TGCI_23 (F : Nat) : List Ent := e124 F :: TGCI_22 F
theorem FGCI_23 (F : Nat) : Fits2 Try.prog (tD (TGCI_23 F)) (tS (TGCI_23 F)) := fits_cons (o124 (FGCI_22 F) ⟨fun _ _ _ r h => p105 h, rfl⟩) (FGCI_22 F) (.inl rfl)
def TGCI_24 (F : Nat) : List Ent := e93 F :: TGCI_23 F
theorem FGCI_24 (F : Nat) : Fits2 Try.prog (tD (TGCI_24 F)) (tS (TGCI_24 F)) := fits_cons (o93 (FGCI_23 F) ⟨⟩) (FGCI_23 F) (.inl rfl)
def TGCI_25 (F : Nat) : List Ent := e64 F :: TGCI_24 F
theorem FGCI_25 (F : Nat) : Fits2 Try.prog (tD (TGCI_25 F)) (tS (TGCI_25 F)) := fits_cons (o64 (FGCI_24 F) ⟨fun _ _ _ r h => p124 h, rfl, fun _ r h => p93 h, rfl⟩) (FGCI_24 F) (.inl rfl)
def TGCI_26 (F : Nat) : List Ent := e65 F :: TGCI_25 F
theorem FGCI_26 (F : Nat) : Fits2 Try.prog (tD (TGCI_26 F)) (tS (TGCI_26 F)) := fits_cons (o65 (FGCI_25 F) ⟨⟩) (FGCI_25 F) (.inl rfl)
def TGCI_27 (F : Nat) : List Ent := e113 F :: TGCI_26 F
theorem FGCI_27 (F : Nat) : Fits2 Try.prog (tD (TGCI_27 F)) (tS (TGCI_27 F)) := fits_cons (o113 (FGCI_26 F) ⟨⟩) (FGCI_26 F) (.inl rfl)
def TGCI_28 (F : Nat) : List Ent := e83 F :: TGCI_27 F
theorem FGCI_28 (F : Nat) : Fits2 Try.prog (tD (TGCI_28 F)) (tS (TGCI_28 F)) := fits_cons (o83 (FGCI_27 F) ⟨⟩) (FGCI_27 F) (.inl rfl)
def TGCI_29 (F : Nat) : List Ent := e170o F :: TGCI_28 F
theorem FGCI_29 (F : Nat) : Fits2 Try.prog (tD (TGCI_29 F)) (tS (TGCI_29 F)) := fits_cons (o170o (FGCI_28 F) ⟨⟩) (FGCI_28 F) (.inl rfl)
def TGCI_30 (F : Nat) : List Ent := e125o F :: TGCI_29 F
theorem FGCI_30 (F : Nat) : Fits2 Try.prog (tD (TGCI_30 F)) (tS (TGCI_30 F)) := fits_cons (o125o (FGCI_29 F) ⟨fun _ r h => p170o h, rfl⟩) (FGCI_29 F) (.inl rfl)
def TGCI_31 (F : Nat) : List Ent := e66 F :: TGCI_30 F
theorem FGCI_31 (F : Nat) : Fits2 Try.prog (tD (TGCI_31 F)) (tS (TGCI_31 F)) := fits_cons (o66 (FGCI_30 F) ⟨fun _ r h => p125o h, rfl, fun _ r h => p113 h, rfl, fun _ r h => p83 h, rfl⟩) (FGCI_30 F) (.inl rfl)
def TGCI_32 (F : Nat) : List Ent := e100 F :: TGCI_31 F
theorem FGCI_32 (F : Nat) : Fits2 Try.prog (tD (TGCI_32 F)) (tS (TGCI_32 F)) := fits_cons (o100 (FGCI_31 F) ⟨fun _ _ r h => p66 h, rfl, fun _ r h => p113 h, rfl⟩) (FGCI_31 F) (.inl rfl)
def TGCI_33 (F : Nat) : List Ent := e83o F :: TGCI_32 F
theorem FGCI_33 (F : Nat) : Fits2 Try.prog (tD (TGCI_33 F)) (tS (TGCI_33 F)) := fits_cons (o83o (FGCI_32 F) ⟨⟩) (FGCI_32 F) (.inl rfl)
def TGCI_34 (F : Nat) : List Ent := e102 F :: TGCI_33 F
theorem FGCI_34 (F : Nat) : Fits2 Try.prog (tD (TGCI_34 F)) (tS (TGCI_34 F)) := fits_cons (o102 (FGCI_33 F) ⟨⟩) (FGCI_33 F) (.inl rfl)
def TGCI_35 (F : Nat) : List Ent := e101s1 F :: TGCI_34 F
theorem FGCI_35 (F : Nat) : Fits2 Try.prog (tD (TGCI_35 F)) (tS (TGCI_35 F)) := fits_cons (o101s1 (FGCI_34 F) ⟨fun _ _ r h => p102 h, rfl⟩) (FGCI_34 F) (.inl rfl)
def TGCI_36 (F : Nat) : List Ent := e44o F :: TGCI_35 F
theorem FGCI_36 (F : Nat) : Fits2 Try.prog (tD (TGCI_36 F)) (tS (TGCI_36 F)) := fits_cons (o44o (FGCI_35 F) ⟨fun _ r h => p63 h, rfl, fun _ _ r h => p64 h, rfl, fun _ r h => p65 h, rfl, fun _ _ r h => p100 h, rfl, fun _ r h => p83o h, rfl, fun _ _ r h => p101s1 h, rfl⟩) (FGCI_35 F) (.inl rfl)
def TGCI_37 (F : Nat) : List Ent := e21 F :: TGCI_36 F
theorem FGCI_37 (F : Nat) : Fits2 Try.prog (tD (TGCI_37 F)) (tS (TGCI_37 F)) := fits_cons (o21 (FGCI_36 F) ⟨⟩) (FGCI_36 F) (.inl rfl)
def TGCI_38 (F : Nat) : List Ent := e29 F :: TGCI_37 F
theorem FGCI_38 (F : Nat) : Fits2 Try.prog (tD (TGCI_38 F)) (tS (TGCI_38 F)) := fits_cons (o29 (FGCI_37 F) ⟨fun _ _ r h => p21 h, rfl⟩) (FGCI_37 F) (.inl rfl)
def TGCI_39 (F : Nat) : List Ent := e129 F :: TGCI_38 F
theorem FGCI_39 (F : Nat) : Fits2 Try.prog (tD (TGCI_39 F)) (tS (TGCI_39 F)) := fits_cons (o129 (FGCI_38 F) ⟨⟩) (FGCI_38 F) (.inl rfl)
def TGCI_40 (F : Nat) : List Ent := e68 F :: TGCI_39 F
theorem FGCI_40 (F : Nat) : Fits2 Try.prog (tD (TGCI_40 F)) (tS (TGCI_40 F)) := fits_cons (o68 (FGCI_39 F) ⟨fun _ _ r h => p129 h, rfl⟩) (FGCI_39 F) (.inl rfl)
def TGCI_41 (F : Nat) : List Ent := e45 F :: TGCI_40 F
theorem FGCI_41 (F : Nat) : Fits2 Try.prog (tD (TGCI_41 F)) (tS (TGCI_41 F)) := fits_cons (o45 (FGCI_40 F) ⟨fun _ _ r h => p29 h, rfl, fun _ _ r h => p68 h, rfl⟩) (FGCI_40 F) (.inl rfl)
def TGCI_42 (F : Nat) : List Ent := e20 F :: TGCI_41 F
theorem FGCI_42 (F : Nat) : Fits2 Try.prog (tD (TGCI_42 F)) (tS (TGCI_42 F)) := fits_cons (o20 (FGCI_41 F) ⟨fun _ _ r h => p68 h, rfl⟩) (FGCI_41 F) (.inl rfl)
def TGCI_43 (F : Nat) : List Ent := e62o F :: TGCI_42 F
theorem FGCI_43 (F : Nat) : Fits2 Try.prog (tD (TGCI_43 F)) (tS (TGCI_43 F)) := fits_cons (o62o (FGCI_42 F) ⟨fun _ r h => p123 h, rfl⟩) (FGCI_42 F) (.inl rfl)
def TGCI_44 (F : Nat) : List Ent := e17o F :: TGCI_43 F
theorem FGCI_44 (F : Nat) : Fits2 Try.prog (tD (TGCI_44 F)) (tS (TGCI_44 F)) := fits_cons (o17o (FGCI_43 F) ⟨fun _ r h => p62o h, rfl⟩) (FGCI_43 F) (.inl rfl)
def TGCI_45 (F : Nat) : List Ent := e69 F :: TGCI_44 F
theorem FGCI_45 (F : Nat) : Fits2 Try.prog (tD (TGCI_45 F)) (tS (TGCI_45 F)) := fits_cons (o69 (FGCI_44 F) ⟨⟩) (FGCI_44 F) (.inl rfl)
def TGCI_46 (F : Nat) : List Ent := e22 F :: TGCI_45 F
theorem FGCI_46 (F : Nat) : Fits2 Try.prog (tD (TGCI_46 F)) (tS (TGCI_46 F)) := fits_cons (o22 (FGCI_45 F) ⟨fun _ _ r h => p69 h, rfl⟩) (FGCI_45 F) (.inl rfl)
def TGCI_47 (F : Nat) : List Ent := e18o F :: TGCI_46 F
theorem FGCI_47 (F : Nat) : Fits2 Try.prog (tD (TGCI_47 F)) (tS (TGCI_47 F)) := fits_cons (o18o (FGCI_46 F) ⟨⟩) (FGCI_46 F) (.inl rfl)
def TGCI_48 (F : Nat) : List Ent := e23 F :: TGCI_47 F
theorem FGCI_48 (F : Nat) : Fits2 Try.prog (tD (TGCI_48 F)) (tS (TGCI_48 F)) := fits_cons (o23 (FGCI_47 F) ⟨⟩) (FGCI_47 F) (.inl rfl)
def TGCI_49 (F : Nat) : List Ent := e30 F :: TGCI_48 F
theorem FGCI_49 (F : Nat) : Fits2 Try.prog (tD (TGCI_49 F)) (tS (TGCI_49 F)) := fits_cons (o30 (FGCI_48 F) ⟨fun _ _ r h => p23 h, rfl⟩) (FGCI_48 F) (.inl rfl)
def TGCI_50 (F : Nat) : List Ent := e46 F :: TGCI_49 F
theorem FGCI_50 (F : Nat) : Fits2 Try.prog (tD (TGCI_50 F)) (tS (TGCI_50 F)) := fits_cons (o46 (FGCI_49 F) ⟨fun _ _ r h => p30 h, rfl, fun _ _ r h => p69 h, rfl⟩) (FGCI_49 F) (.inl rfl)
def TGCI_51 (F : Nat) : List Ent := e31 F :: TGCI_50 F
theorem FGCI_51 (F : Nat) : Fits2 Try.prog (tD (TGCI_51 F)) (tS (TGCI_51 F)) := fits_cons (o31 (FGCI_50 F) ⟨⟩) (FGCI_50 F) (.inl rfl)
def TGCI_52 (F : Nat) : List Ent := e38 F :: TGCI_51 F
theorem FGCI_52 (F : Nat) : Fits2 Try.prog (tD (TGCI_52 F)) (tS (TGCI_52 F)) := fits_cons (o38 (FGCI_51 F) ⟨fun _ _ r h => p31 h, rfl⟩) (FGCI_51 F) (.inl rfl)
def TGCI_53 (F : Nat) : List Ent := e70 F :: TGCI_52 F
theorem FGCI_53 (F : Nat) : Fits2 Try.prog (tD (TGCI_53 F)) (tS (TGCI_53 F)) := fits_cons (o70 (FGCI_52 F) ⟨⟩) (FGCI_52 F) (.inl rfl)
def TGCI_54 (F : Nat) : List Ent := e47 F :: TGCI_53 F
theorem FGCI_54 (F : Nat) : Fits2 Try.prog (tD (TGCI_54 F)) (tS (TGCI_54 F)) := fits_cons (o47 (FGCI_53 F) ⟨fun _ _ r h => p38 h, rfl, fun _ _ r h => p70 h, rfl⟩) (FGCI_53 F) (.inl rfl)
def TGCI_55 (F : Nat) : List Ent := e10 F :: TGCI_54 F
theorem FGCI_55 (F : Nat) : Fits2 Try.prog (tD (TGCI_55 F)) (tS (TGCI_55 F)) := fits_cons (o10 (FGCI_54 F) ⟨fun _ _ r h => p15 h, rfl, fun _ r h => p17 h, rfl, fun _ r h => p18 h, rfl, fun _ _ r h => p43 h, rfl, fun _ r h => p17o h, rfl, fun _ r h => p18o h, rfl, fun _ _ r h => p44o h, rfl, fun _ _ r h => p45 h, rfl, fun _ _ r h => p20 h, rfl, fun _ _ r h => p21 h, rfl, fun _ _ r h => p22 h, rfl, fun _ _ r h => p23 h, rfl, fun _ _ r h => p46 h, rfl, fun _ _ r h => p47 h, rfl⟩) (FGCI_54 F) (.inl rfl)
theorem law10 (F : Nat) (x0 : (Int × (List (Int × Int)))) (x1 : (List Int)) (h : w_FnExactDecompositionOf F x0 x1 = some true) : Contract Try.prog 10 0 false [Enc.enc x0, Enc.enc x1] (.bool true) := contract_plain ((FGCI_55 F).con 10 _ _ 0 false (p10 h) rfl) rfl rfl
end Go.Zq
