/- The table of the functions' contracts. No further condition. -/
import Derived.Test.YtdhbhaaiohkpdaaK3
import Derived.Test.YtdhbhaaiohkpdaaProg
import Derived.Test.YtdhbhaaiohkpdaaChecked
import Derived.KernelRfl
import Derived.Test.YtdhbhaaiohkpdaaG3
set_option linter.unusedVariables false
set_option linter.unusedSimpArgs false
/- Functions of the program, as typed functions, and that the machine runs as they say. -/
namespace Go.Zq
open Go.Proofs
def TGC8_0 (F : Nat) : List Ent := e59 F :: []
theorem FGC8_0 (F : Nat) : Fits2 Try.prog (tD (TGC8_0 F)) (tS (TGC8_0 F)) := fits_cons (o59 (fits_nil) ⟨⟩) (fits_nil) (.inl rfl)
def TGC8_1 (F : Nat) : List Ent := e15 F :: TGC8_0 F
theorem FGC8_1 (F : Nat) : Fits2 Try.prog (tD (TGC8_1 F)) (tS (TGC8_1 F)) := fits_cons (o15 (FGC8_0 F) ⟨fun _ _ r h => p59 h, rfl⟩) (FGC8_0 F) (.inl rfl)
def TGC8_2 (F : Nat) : List Ent := e71 F :: TGC8_1 F
theorem FGC8_2 (F : Nat) : Fits2 Try.prog (tD (TGC8_2 F)) (tS (TGC8_2 F)) := fits_cons (o71 (FGC8_1 F) ⟨⟩) (FGC8_1 F) (.inl rfl)
def TGC8_3 (F : Nat) : List Ent := e25 F :: TGC8_2 F
theorem FGC8_3 (F : Nat) : Fits2 Try.prog (tD (TGC8_3 F)) (tS (TGC8_3 F)) := fits_cons (o25 (FGC8_2 F) ⟨fun _ _ r h => p71 h, rfl⟩) (FGC8_2 F) (.inl rfl)
def TGC8_4 (F : Nat) : List Ent := e123 F :: TGC8_3 F
theorem FGC8_4 (F : Nat) : Fits2 Try.prog (tD (TGC8_4 F)) (tS (TGC8_4 F)) := fits_cons (o123 (FGC8_3 F) ⟨⟩) (FGC8_3 F) (.inl rfl)
def TGC8_5 (F : Nat) : List Ent := e62 F :: TGC8_4 F
theorem FGC8_5 (F : Nat) : Fits2 Try.prog (tD (TGC8_5 F)) (tS (TGC8_5 F)) := fits_cons (o62 (FGC8_4 F) ⟨fun _ r h => p123 h, rfl⟩) (FGC8_4 F) (.inl rfl)
def TGC8_6 (F : Nat) : List Ent := e17 F :: TGC8_5 F
theorem FGC8_6 (F : Nat) : Fits2 Try.prog (tD (TGC8_6 F)) (tS (TGC8_6 F)) := fits_cons (o17 (FGC8_5 F) ⟨fun _ r h => p62 h, rfl⟩) (FGC8_5 F) (.inl rfl)
def TGC8_7 (F : Nat) : List Ent := e18 F :: TGC8_6 F
theorem FGC8_7 (F : Nat) : Fits2 Try.prog (tD (TGC8_7 F)) (tS (TGC8_7 F)) := fits_cons (o18 (FGC8_6 F) ⟨⟩) (FGC8_6 F) (.inl rfl)
def TGC8_8 (F : Nat) : List Ent := e27 F :: TGC8_7 F
theorem FGC8_8 (F : Nat) : Fits2 Try.prog (tD (TGC8_8 F)) (tS (TGC8_8 F)) := fits_cons (o27 (FGC8_7 F) ⟨fun _ r h => p18 h, rfl⟩) (FGC8_7 F) (.inl rfl)
def TGC8_9 (F : Nat) : List Ent := e103 F :: TGC8_8 F
theorem FGC8_9 (F : Nat) : Fits2 Try.prog (tD (TGC8_9 F)) (tS (TGC8_9 F)) := fits_cons (o103 (FGC8_8 F) ⟨⟩) (FGC8_8 F) (.inl rfl)
def TGC8_10 (F : Nat) : List Ent := e130 F :: TGC8_9 F
theorem FGC8_10 (F : Nat) : Fits2 Try.prog (tD (TGC8_10 F)) (tS (TGC8_10 F)) := fits_cons (o130 (FGC8_9 F) ⟨⟩) (FGC8_9 F) (.inl rfl)
def TGC8_11 (F : Nat) : List Ent := e72 F :: TGC8_10 F
theorem FGC8_11 (F : Nat) : Fits2 Try.prog (tD (TGC8_11 F)) (tS (TGC8_11 F)) := fits_cons (o72 (FGC8_10 F) ⟨fun _ _ _ r h => p103 h, rfl, fun _ _ r h => p130 h, rfl⟩) (FGC8_10 F) (.inl rfl)
def TGC8_12 (F : Nat) : List Ent := e178 F :: TGC8_11 F
theorem FGC8_12 (F : Nat) : Fits2 Try.prog (tD (TGC8_12 F)) (tS (TGC8_12 F)) := fits_cons (o178 (FGC8_11 F) ⟨fun _ _ _ r h => p103 h, rfl⟩) (FGC8_11 F) (.inl rfl)
def TGC8_13 (F : Nat) : List Ent := e147 F :: TGC8_12 F
theorem FGC8_13 (F : Nat) : Fits2 Try.prog (tD (TGC8_13 F)) (tS (TGC8_13 F)) := fits_cons (o147 (FGC8_12 F) ⟨fun _ _ _ r h => p178 h, rfl⟩) (FGC8_12 F) (.inl rfl)
def TGC8_14 (F : Nat) : List Ent := e74 F :: TGC8_13 F
theorem FGC8_14 (F : Nat) : Fits2 Try.prog (tD (TGC8_14 F)) (tS (TGC8_14 F)) := fits_cons (o74 (FGC8_13 F) ⟨⟩) (FGC8_13 F) (.inl rfl)
def TGC8_15 (F : Nat) : List Ent := e145 F :: TGC8_14 F
theorem FGC8_15 (F : Nat) : Fits2 Try.prog (tD (TGC8_15 F)) (tS (TGC8_15 F)) := fits_cons (o145 (FGC8_14 F) ⟨⟩) (FGC8_14 F) (.inl rfl)
def TGC8_16 (F : Nat) : List Ent := e146 F :: TGC8_15 F
theorem FGC8_16 (F : Nat) : Fits2 Try.prog (tD (TGC8_16 F)) (tS (TGC8_16 F)) := fits_cons (o146 (FGC8_15 F) ⟨⟩) (FGC8_15 F) (.inl rfl)
def TGC8_17 (F : Nat) : List Ent := e179 F :: TGC8_16 F
theorem FGC8_17 (F : Nat) : Fits2 Try.prog (tD (TGC8_17 F)) (tS (TGC8_17 F)) := fits_cons (o179 (FGC8_16 F) ⟨fun _ _ r h => p74 h, rfl, fun _ _ _ r h => p145 h, rfl, fun _ _ r h => p146 h, rfl⟩) (FGC8_16 F) (.inl rfl)
def TGC8_18 (F : Nat) : List Ent := e148 F :: TGC8_17 F
theorem FGC8_18 (F : Nat) : Fits2 Try.prog (tD (TGC8_18 F)) (tS (TGC8_18 F)) := fits_cons (o148 (FGC8_17 F) ⟨fun _ _ r h => p74 h, rfl, fun _ _ _ r h => p179 h, rfl, fun _ _ r h => p146 h, rfl⟩) (FGC8_17 F) (.inl rfl)
def TGC8_19 (F : Nat) : List Ent := e149 F :: TGC8_18 F
theorem FGC8_19 (F : Nat) : Fits2 Try.prog (tD (TGC8_19 F)) (tS (TGC8_19 F)) := fits_cons (o149 (FGC8_18 F) ⟨fun _ _ _ r h => p145 h, rfl⟩) (FGC8_18 F) (.inl rfl)
def TGC8_20 (F : Nat) : List Ent := e85 F :: TGC8_19 F
theorem FGC8_20 (F : Nat) : Fits2 Try.prog (tD (TGC8_20 F)) (tS (TGC8_20 F)) := fits_cons (o85 (FGC8_19 F) ⟨fun _ _ r h => p147 h, rfl, fun _ _ r h => p148 h, rfl, fun _ _ _ r h => p149 h, rfl⟩) (FGC8_19 F) (.inl rfl)
def TGC8_21 (F : Nat) : List Ent := e87 F :: TGC8_20 F
theorem FGC8_21 (F : Nat) : Fits2 Try.prog (tD (TGC8_21 F)) (tS (TGC8_21 F)) := fits_cons (o87 (FGC8_20 F) ⟨⟩) (FGC8_20 F) (.inl rfl)
def TGC8_22 (F : Nat) : List Ent := e86 F :: TGC8_21 F
theorem FGC8_22 (F : Nat) : Fits2 Try.prog (tD (TGC8_22 F)) (tS (TGC8_22 F)) := fits_cons (o86 (FGC8_21 F) ⟨fun _ _ r h => p87 h, rfl⟩) (FGC8_21 F) (.inl rfl)
def TGC8_23 (F : Nat) : List Ent := e89 F :: TGC8_22 F
theorem FGC8_23 (F : Nat) : Fits2 Try.prog (tD (TGC8_23 F)) (tS (TGC8_23 F)) := fits_cons (o89 (FGC8_22 F) ⟨fun _ _ r h => p74 h, rfl⟩) (FGC8_22 F) (.inl rfl)
def TGC8_24 (F : Nat) : List Ent := e88 F :: TGC8_23 F
theorem FGC8_24 (F : Nat) : Fits2 Try.prog (tD (TGC8_24 F)) (tS (TGC8_24 F)) := fits_cons (o88 (FGC8_23 F) ⟨⟩) (FGC8_23 F) (.inl rfl)
def TGC8_25 (F : Nat) : List Ent := e39 F :: TGC8_24 F
theorem FGC8_25 (F : Nat) : Fits2 Try.prog (tD (TGC8_25 F)) (tS (TGC8_25 F)) := fits_cons (o39 (FGC8_24 F) ⟨fun _ r h => p72 h, rfl, fun _ _ r h => p85 h, rfl, fun _ r h => p86 h, rfl, fun _ _ r h => p87 h, rfl, fun _ _ r h => p89 h, rfl, fun _ _ r h => p88 h, rfl⟩) (FGC8_24 F) (.inl rfl)
def TGC8_26 (F : Nat) : List Ent := e105 F :: TGC8_25 F
theorem FGC8_26 (F : Nat) : Fits2 Try.prog (tD (TGC8_26 F)) (tS (TGC8_26 F)) := fits_cons (o105 (FGC8_25 F) ⟨⟩) (FGC8_25 F) (.inl rfl)
def TGC8_27 (F : Nat) : List Ent := e180 F :: TGC8_26 F
theorem FGC8_27 (F : Nat) : Fits2 Try.prog (tD (TGC8_27 F)) (tS (TGC8_27 F)) := fits_cons (o180 (FGC8_26 F) ⟨⟩) (FGC8_26 F) (.inl rfl)
def TGC8_28 (F : Nat) : List Ent := e153 F :: TGC8_27 F
theorem FGC8_28 (F : Nat) : Fits2 Try.prog (tD (TGC8_28 F)) (tS (TGC8_28 F)) := fits_cons (o153 (FGC8_27 F) ⟨fun _ r h => p180 h, rfl⟩) (FGC8_27 F) (.inl rfl)
def TGC8_29 (F : Nat) : List Ent := e94 F :: TGC8_28 F
theorem FGC8_29 (F : Nat) : Fits2 Try.prog (tD (TGC8_29 F)) (tS (TGC8_29 F)) := fits_cons (o94 (FGC8_28 F) ⟨fun _ _ r h => p153 h, rfl⟩) (FGC8_28 F) (.inl rfl)
def TGC8_30 (F : Nat) : List Ent := e63 F :: TGC8_29 F
theorem FGC8_30 (F : Nat) : Fits2 Try.prog (tD (TGC8_30 F)) (tS (TGC8_30 F)) := fits_cons (o63 (FGC8_29 F) ⟨fun _ _ _ r h => p105 h, rfl, fun _ _ r h => p94 h, rfl⟩) (FGC8_29 F) (.inl rfl)
def TGC8_31 (F : Nat) : List Ent := e65 F :: TGC8_30 F
theorem FGC8_31 (F : Nat) : Fits2 Try.prog (tD (TGC8_31 F)) (tS (TGC8_31 F)) := fits_cons (o65 (FGC8_30 F) ⟨⟩) (FGC8_30 F) (.inl rfl)
def TGC8_32 (F : Nat) : List Ent := e124 F :: TGC8_31 F
theorem FGC8_32 (F : Nat) : Fits2 Try.prog (tD (TGC8_32 F)) (tS (TGC8_32 F)) := fits_cons (o124 (FGC8_31 F) ⟨fun _ _ _ r h => p105 h, rfl⟩) (FGC8_31 F) (.inl rfl)
def TGC8_33 (F : Nat) : List Ent := e171 F :: TGC8_32 F
theorem FGC8_33 (F : Nat) : Fits2 Try.prog (tD (TGC8_33 F)) (tS (TGC8_33 F)) := fits_cons (o171 (FGC8_32 F) ⟨fun _ r h => p63 h, rfl, fun _ _ _ r h => p124 h, rfl⟩) (FGC8_32 F) (.inl rfl)
def TGC8_34 (F : Nat) : List Ent := e172 F :: TGC8_33 F
theorem FGC8_34 (F : Nat) : Fits2 Try.prog (tD (TGC8_34 F)) (tS (TGC8_34 F)) := fits_cons (o172 (FGC8_33 F) ⟨⟩) (FGC8_33 F) (.inl rfl)
def TGC8_35 (F : Nat) : List Ent := e135 F :: TGC8_34 F
theorem FGC8_35 (F : Nat) : Fits2 Try.prog (tD (TGC8_35 F)) (tS (TGC8_35 F)) := fits_cons (o135 (FGC8_34 F) ⟨fun _ _ r h => p171 h, rfl, fun _ r h => p172 h, rfl⟩) (FGC8_34 F) (.inl rfl)
def TGC8_36 (F : Nat) : List Ent := e93 F :: TGC8_35 F
theorem FGC8_36 (F : Nat) : Fits2 Try.prog (tD (TGC8_36 F)) (tS (TGC8_36 F)) := fits_cons (o93 (FGC8_35 F) ⟨⟩) (FGC8_35 F) (.inl rfl)
def TGC8_37 (F : Nat) : List Ent := e175 F :: TGC8_36 F
theorem FGC8_37 (F : Nat) : Fits2 Try.prog (tD (TGC8_37 F)) (tS (TGC8_37 F)) := fits_cons (o175 (FGC8_36 F) ⟨⟩) (FGC8_36 F) (.inl rfl)
def TGC8_38 (F : Nat) : List Ent := e142 F :: TGC8_37 F
theorem FGC8_38 (F : Nat) : Fits2 Try.prog (tD (TGC8_38 F)) (tS (TGC8_38 F)) := fits_cons (o142 (FGC8_37 F) ⟨fun _ _ r h => p175 h, rfl⟩) (FGC8_37 F) (.inl rfl)
def TGC8_39 (F : Nat) : List Ent := e151 F :: TGC8_38 F
theorem FGC8_39 (F : Nat) : Fits2 Try.prog (tD (TGC8_39 F)) (tS (TGC8_39 F)) := fits_cons (o151 (FGC8_38 F) ⟨fun _ _ r h => p175 h, rfl⟩) (FGC8_38 F) (.inl rfl)
def TGC8_40 (F : Nat) : List Ent := e150 F :: TGC8_39 F
theorem FGC8_40 (F : Nat) : Fits2 Try.prog (tD (TGC8_40 F)) (tS (TGC8_40 F)) := fits_cons (o150 (FGC8_39 F) ⟨fun _ r h => p93 h, rfl, fun _ _ _ r h => p151 h, rfl⟩) (FGC8_39 F) (.inl rfl)
def TGC8_41 (F : Nat) : List Ent := e152s1 F :: TGC8_40 F
theorem FGC8_41 (F : Nat) : Fits2 Try.prog (tD (TGC8_41 F)) (tS (TGC8_41 F)) := fits_cons (o152s1 (FGC8_40 F) ⟨fun _ _ _ r h => p150 h, rfl⟩) (FGC8_40 F) (.inl rfl)
def TGC8_42 (F : Nat) : List Ent := e91s1 F :: TGC8_41 F
theorem FGC8_42 (F : Nat) : Fits2 Try.prog (tD (TGC8_42 F)) (tS (TGC8_42 F)) := fits_cons (o91s1 (FGC8_41 F) ⟨fun _ _ r h => p152s1 h, rfl⟩) (FGC8_41 F) (.inl rfl)
def TGC8_43 (F : Nat) : List Ent := e90 F :: TGC8_42 F
theorem FGC8_43 (F : Nat) : Fits2 Try.prog (tD (TGC8_43 F)) (tS (TGC8_43 F)) := fits_cons (o90 (FGC8_42 F) ⟨fun _ r h => p65 h, rfl, fun _ _ r h => p135 h, rfl, fun _ r h => p93 h, rfl, fun _ _ r h => p142 h, rfl, fun _ _ r h => p91s1 h, rfl⟩) (FGC8_42 F) (.inl rfl)
def TGC8_44 (F : Nat) : List Ent := e92 F :: TGC8_43 F
theorem FGC8_44 (F : Nat) : Fits2 Try.prog (tD (TGC8_44 F)) (tS (TGC8_44 F)) := fits_cons (o92 (FGC8_43 F) ⟨fun _ r h => p93 h, rfl⟩) (FGC8_43 F) (.inl rfl)
def TGC8_45 (F : Nat) : List Ent := e152s2 F :: TGC8_44 F
theorem FGC8_45 (F : Nat) : Fits2 Try.prog (tD (TGC8_45 F)) (tS (TGC8_45 F)) := fits_cons (o152s2 (FGC8_44 F) ⟨fun _ _ r h => p92 h, rfl⟩) (FGC8_44 F) (.inr rfl)
def TGC8_46 (F : Nat) : List Ent := e91s2 F :: TGC8_45 F
theorem FGC8_46 (F : Nat) : Fits2 Try.prog (tD (TGC8_46 F)) (tS (TGC8_46 F)) := fits_cons (o91s2 (FGC8_45 F) ⟨fun _ _ r h => p152s2 h, rfl⟩) (FGC8_45 F) (.inr rfl)
def TGC8_47 (F : Nat) : List Ent := e83o F :: TGC8_46 F
theorem FGC8_47 (F : Nat) : Fits2 Try.prog (tD (TGC8_47 F)) (tS (TGC8_47 F)) := fits_cons (o83o (FGC8_46 F) ⟨⟩) (FGC8_46 F) (.inl rfl)
def TGC8_48 (F : Nat) : List Ent := e40o F :: TGC8_47 F
theorem FGC8_48 (F : Nat) : Fits2 Try.prog (tD (TGC8_48 F)) (tS (TGC8_48 F)) := fits_cons (o40o (FGC8_47 F) ⟨fun _ r h => p63 h, rfl, fun _ _ r h => p90 h, rfl, fun _ r h => p83o h, rfl, fun _ _ r h => p91s2 h, rfl, fun _ _ r h => p94 h, rfl⟩) (FGC8_47 F) (.inl rfl)
def TGC8_49 (F : Nat) : List Ent := e21 F :: TGC8_48 F
theorem FGC8_49 (F : Nat) : Fits2 Try.prog (tD (TGC8_49 F)) (tS (TGC8_49 F)) := fits_cons (o21 (FGC8_48 F) ⟨⟩) (FGC8_48 F) (.inl rfl)
def TGC8_50 (F : Nat) : List Ent := e129 F :: TGC8_49 F
theorem FGC8_50 (F : Nat) : Fits2 Try.prog (tD (TGC8_50 F)) (tS (TGC8_50 F)) := fits_cons (o129 (FGC8_49 F) ⟨⟩) (FGC8_49 F) (.inl rfl)
def TGC8_51 (F : Nat) : List Ent := e68 F :: TGC8_50 F
theorem FGC8_51 (F : Nat) : Fits2 Try.prog (tD (TGC8_51 F)) (tS (TGC8_51 F)) := fits_cons (o68 (FGC8_50 F) ⟨fun _ _ r h => p129 h, rfl⟩) (FGC8_50 F) (.inl rfl)
def TGC8_52 (F : Nat) : List Ent := e20 F :: TGC8_51 F
theorem FGC8_52 (F : Nat) : Fits2 Try.prog (tD (TGC8_52 F)) (tS (TGC8_52 F)) := fits_cons (o20 (FGC8_51 F) ⟨fun _ _ r h => p68 h, rfl⟩) (FGC8_51 F) (.inl rfl)
def TGC8_53 (F : Nat) : List Ent := e29 F :: TGC8_52 F
theorem FGC8_53 (F : Nat) : Fits2 Try.prog (tD (TGC8_53 F)) (tS (TGC8_53 F)) := fits_cons (o29 (FGC8_52 F) ⟨fun _ _ r h => p21 h, rfl⟩) (FGC8_52 F) (.inl rfl)
def TGC8_54 (F : Nat) : List Ent := e62o F :: TGC8_53 F
theorem FGC8_54 (F : Nat) : Fits2 Try.prog (tD (TGC8_54 F)) (tS (TGC8_54 F)) := fits_cons (o62o (FGC8_53 F) ⟨fun _ r h => p123 h, rfl⟩) (FGC8_53 F) (.inl rfl)
def TGC8_55 (F : Nat) : List Ent := e17o F :: TGC8_54 F
theorem FGC8_55 (F : Nat) : Fits2 Try.prog (tD (TGC8_55 F)) (tS (TGC8_55 F)) := fits_cons (o17o (FGC8_54 F) ⟨fun _ r h => p62o h, rfl⟩) (FGC8_54 F) (.inl rfl)
def TGC8_56 (F : Nat) : List Ent := e69 F :: TGC8_55 F
theorem FGC8_56 (F : Nat) : Fits2 Try.prog (tD (TGC8_56 F)) (tS (TGC8_56 F)) := fits_cons (o69 (FGC8_55 F) ⟨⟩) (FGC8_55 F) (.inl rfl)
def TGC8_57 (F : Nat) : List Ent := e22 F :: TGC8_56 F
theorem FGC8_57 (F : Nat) : Fits2 Try.prog (tD (TGC8_57 F)) (tS (TGC8_57 F)) := fits_cons (o22 (FGC8_56 F) ⟨fun _ _ r h => p69 h, rfl⟩) (FGC8_56 F) (.inl rfl)
def TGC8_58 (F : Nat) : List Ent := e18o F :: TGC8_57 F
theorem FGC8_58 (F : Nat) : Fits2 Try.prog (tD (TGC8_58 F)) (tS (TGC8_58 F)) := fits_cons (o18o (FGC8_57 F) ⟨⟩) (FGC8_57 F) (.inl rfl)
def TGC8_59 (F : Nat) : List Ent := e27o F :: TGC8_58 F
theorem FGC8_59 (F : Nat) : Fits2 Try.prog (tD (TGC8_59 F)) (tS (TGC8_59 F)) := fits_cons (o27o (FGC8_58 F) ⟨fun _ r h => p18o h, rfl⟩) (FGC8_58 F) (.inl rfl)
def TGC8_60 (F : Nat) : List Ent := e23 F :: TGC8_59 F
theorem FGC8_60 (F : Nat) : Fits2 Try.prog (tD (TGC8_60 F)) (tS (TGC8_60 F)) := fits_cons (o23 (FGC8_59 F) ⟨⟩) (FGC8_59 F) (.inl rfl)
def TGC8_61 (F : Nat) : List Ent := e30 F :: TGC8_60 F
theorem FGC8_61 (F : Nat) : Fits2 Try.prog (tD (TGC8_61 F)) (tS (TGC8_61 F)) := fits_cons (o30 (FGC8_60 F) ⟨fun _ _ r h => p23 h, rfl⟩) (FGC8_60 F) (.inl rfl)
def TGC8_62 (F : Nat) : List Ent := e31 F :: TGC8_61 F
theorem FGC8_62 (F : Nat) : Fits2 Try.prog (tD (TGC8_62 F)) (tS (TGC8_62 F)) := fits_cons (o31 (FGC8_61 F) ⟨⟩) (FGC8_61 F) (.inl rfl)
def TGC8_63 (F : Nat) : List Ent := e8 F :: TGC8_62 F
theorem FGC8_63 (F : Nat) : Fits2 Try.prog (tD (TGC8_63 F)) (tS (TGC8_63 F)) := fits_cons (o8 (FGC8_62 F) ⟨fun _ _ r h => p15 h, rfl, fun _ _ r h => p25 h, rfl, fun _ r h => p17 h, rfl, fun _ r h => p27 h, rfl, fun _ _ r h => p39 h, rfl, fun _ r h => p17o h, rfl, fun _ r h => p27o h, rfl, fun _ _ r h => p40o h, rfl, fun _ _ r h => p21 h, rfl, fun _ _ r h => p20 h, rfl, fun _ _ r h => p29 h, rfl, fun _ _ r h => p22 h, rfl, fun _ _ r h => p30 h, rfl, fun _ _ r h => p23 h, rfl, fun _ _ r h => p31 h, rfl⟩) (FGC8_62 F) (.inl rfl)
theorem law8 (F : Nat) (x0 : (Int × (List (Int × Int)))) (x1 : (List (List Int))) (h : w_FnExactBrambleCover F x0 x1 = some true) : Contract Try.prog 8 0 false [Enc.enc x0, Enc.enc x1] (.bool true) := contract_plain ((FGC8_63 F).con 8 _ _ 0 false (p8 h) rfl) rfl rfl
end Go.Zq
