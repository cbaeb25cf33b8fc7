/- The table of the functions' contracts. No further condition. -/
import Derived.Test.YtdhbhaaiohkpdaaK3
import Derived.Test.YtdhbhaaiohkpdaaProg
import Derived.Test.YtdhbhaaiohkpdaaChecked
import Derived.KernelRfl
import Derived.Test.YtdhbhaaiohkpdaaG3
set_option linter.unusedVariables false
set_option linter.unusedSimpArgs false
/- Functions of the program, as typed functions, and that the machine runs as they say. -/
namespace Go.Zq
open Go.Proofs
def TGC4_0 (F : Nat) : List Ent := e59 F :: []
theorem FGC4_0 (F : Nat) : Fits2 Try.prog (tD (TGC4_0 F)) (tS (TGC4_0 F)) := fits_cons (o59 (fits_nil) ⟨⟩) (fits_nil) (.inl rfl)
def TGC4_1 (F : Nat) : List Ent := e15 F :: TGC4_0 F
theorem FGC4_1 (F : Nat) : Fits2 Try.prog (tD (TGC4_1 F)) (tS (TGC4_1 F)) := fits_cons (o15 (FGC4_0 F) ⟨fun _ _ r h => p59 h, rfl⟩) (FGC4_0 F) (.inl rfl)
def TGC4_2 (F : Nat) : List Ent := e71 F :: TGC4_1 F
theorem FGC4_2 (F : Nat) : Fits2 Try.prog (tD (TGC4_2 F)) (tS (TGC4_2 F)) := fits_cons (o71 (FGC4_1 F) ⟨⟩) (FGC4_1 F) (.inl rfl)
def TGC4_3 (F : Nat) : List Ent := e25 F :: TGC4_2 F
theorem FGC4_3 (F : Nat) : Fits2 Try.prog (tD (TGC4_3 F)) (tS (TGC4_3 F)) := fits_cons (o25 (FGC4_2 F) ⟨fun _ _ r h => p71 h, rfl⟩) (FGC4_2 F) (.inl rfl)
def TGC4_4 (F : Nat) : List Ent := e123 F :: TGC4_3 F
theorem FGC4_4 (F : Nat) : Fits2 Try.prog (tD (TGC4_4 F)) (tS (TGC4_4 F)) := fits_cons (o123 (FGC4_3 F) ⟨⟩) (FGC4_3 F) (.inl rfl)
def TGC4_5 (F : Nat) : List Ent := e62 F :: TGC4_4 F
theorem FGC4_5 (F : Nat) : Fits2 Try.prog (tD (TGC4_5 F)) (tS (TGC4_5 F)) := fits_cons (o62 (FGC4_4 F) ⟨fun _ r h => p123 h, rfl⟩) (FGC4_4 F) (.inl rfl)
def TGC4_6 (F : Nat) : List Ent := e17 F :: TGC4_5 F
theorem FGC4_6 (F : Nat) : Fits2 Try.prog (tD (TGC4_6 F)) (tS (TGC4_6 F)) := fits_cons (o17 (FGC4_5 F) ⟨fun _ r h => p62 h, rfl⟩) (FGC4_5 F) (.inl rfl)
def TGC4_7 (F : Nat) : List Ent := e18 F :: TGC4_6 F
theorem FGC4_7 (F : Nat) : Fits2 Try.prog (tD (TGC4_7 F)) (tS (TGC4_7 F)) := fits_cons (o18 (FGC4_6 F) ⟨⟩) (FGC4_6 F) (.inl rfl)
def TGC4_8 (F : Nat) : List Ent := e27 F :: TGC4_7 F
theorem FGC4_8 (F : Nat) : Fits2 Try.prog (tD (TGC4_8 F)) (tS (TGC4_8 F)) := fits_cons (o27 (FGC4_7 F) ⟨fun _ r h => p18 h, rfl⟩) (FGC4_7 F) (.inl rfl)
def TGC4_9 (F : Nat) : List Ent := e103 F :: TGC4_8 F
theorem FGC4_9 (F : Nat) : Fits2 Try.prog (tD (TGC4_9 F)) (tS (TGC4_9 F)) := fits_cons (o103 (FGC4_8 F) ⟨⟩) (FGC4_8 F) (.inl rfl)
def TGC4_10 (F : Nat) : List Ent := e130 F :: TGC4_9 F
theorem FGC4_10 (F : Nat) : Fits2 Try.prog (tD (TGC4_10 F)) (tS (TGC4_10 F)) := fits_cons (o130 (FGC4_9 F) ⟨⟩) (FGC4_9 F) (.inl rfl)
def TGC4_11 (F : Nat) : List Ent := e72 F :: TGC4_10 F
theorem FGC4_11 (F : Nat) : Fits2 Try.prog (tD (TGC4_11 F)) (tS (TGC4_11 F)) := fits_cons (o72 (FGC4_10 F) ⟨fun _ _ _ r h => p103 h, rfl, fun _ _ r h => p130 h, rfl⟩) (FGC4_10 F) (.inl rfl)
def TGC4_12 (F : Nat) : List Ent := e178 F :: TGC4_11 F
theorem FGC4_12 (F : Nat) : Fits2 Try.prog (tD (TGC4_12 F)) (tS (TGC4_12 F)) := fits_cons (o178 (FGC4_11 F) ⟨fun _ _ _ r h => p103 h, rfl⟩) (FGC4_11 F) (.inl rfl)
def TGC4_13 (F : Nat) : List Ent := e147 F :: TGC4_12 F
theorem FGC4_13 (F : Nat) : Fits2 Try.prog (tD (TGC4_13 F)) (tS (TGC4_13 F)) := fits_cons (o147 (FGC4_12 F) ⟨fun _ _ _ r h => p178 h, rfl⟩) (FGC4_12 F) (.inl rfl)
def TGC4_14 (F : Nat) : List Ent := e131 F :: TGC4_13 F
theorem FGC4_14 (F : Nat) : Fits2 Try.prog (tD (TGC4_14 F)) (tS (TGC4_14 F)) := fits_cons (o131 (FGC4_13 F) ⟨fun _ _ r h => p147 h, rfl⟩) (FGC4_13 F) (.inl rfl)
def TGC4_15 (F : Nat) : List Ent := e74 F :: TGC4_14 F
theorem FGC4_15 (F : Nat) : Fits2 Try.prog (tD (TGC4_15 F)) (tS (TGC4_15 F)) := fits_cons (o74 (FGC4_14 F) ⟨⟩) (FGC4_14 F) (.inl rfl)
def TGC4_16 (F : Nat) : List Ent := e132 F :: TGC4_15 F
theorem FGC4_16 (F : Nat) : Fits2 Try.prog (tD (TGC4_16 F)) (tS (TGC4_16 F)) := fits_cons (o132 (FGC4_15 F) ⟨fun _ _ r h => p74 h, rfl⟩) (FGC4_15 F) (.inl rfl)
def TGC4_17 (F : Nat) : List Ent := e133 F :: TGC4_16 F
theorem FGC4_17 (F : Nat) : Fits2 Try.prog (tD (TGC4_17 F)) (tS (TGC4_17 F)) := fits_cons (o133 (FGC4_16 F) ⟨fun _ _ r h => p74 h, rfl⟩) (FGC4_16 F) (.inl rfl)
def TGC4_18 (F : Nat) : List Ent := e73 F :: TGC4_17 F
theorem FGC4_18 (F : Nat) : Fits2 Try.prog (tD (TGC4_18 F)) (tS (TGC4_18 F)) := fits_cons (o73 (FGC4_17 F) ⟨fun _ _ r h => p131 h, rfl, fun _ _ r h => p132 h, rfl, fun _ _ _ r h => p133 h, rfl⟩) (FGC4_17 F) (.inl rfl)
def TGC4_19 (F : Nat) : List Ent := e26 F :: TGC4_18 F
theorem FGC4_19 (F : Nat) : Fits2 Try.prog (tD (TGC4_19 F)) (tS (TGC4_19 F)) := fits_cons (o26 (FGC4_18 F) ⟨fun _ r h => p72 h, rfl, fun _ _ r h => p73 h, rfl, fun _ _ r h => p74 h, rfl⟩) (FGC4_18 F) (.inl rfl)
def TGC4_20 (F : Nat) : List Ent := e105 F :: TGC4_19 F
theorem FGC4_20 (F : Nat) : Fits2 Try.prog (tD (TGC4_20 F)) (tS (TGC4_20 F)) := fits_cons (o105 (FGC4_19 F) ⟨⟩) (FGC4_19 F) (.inl rfl)
def TGC4_21 (F : Nat) : List Ent := e180 F :: TGC4_20 F
theorem FGC4_21 (F : Nat) : Fits2 Try.prog (tD (TGC4_21 F)) (tS (TGC4_21 F)) := fits_cons (o180 (FGC4_20 F) ⟨⟩) (FGC4_20 F) (.inl rfl)
def TGC4_22 (F : Nat) : List Ent := e153 F :: TGC4_21 F
theorem FGC4_22 (F : Nat) : Fits2 Try.prog (tD (TGC4_22 F)) (tS (TGC4_22 F)) := fits_cons (o153 (FGC4_21 F) ⟨fun _ r h => p180 h, rfl⟩) (FGC4_21 F) (.inl rfl)
def TGC4_23 (F : Nat) : List Ent := e94 F :: TGC4_22 F
theorem FGC4_23 (F : Nat) : Fits2 Try.prog (tD (TGC4_23 F)) (tS (TGC4_23 F)) := fits_cons (o94 (FGC4_22 F) ⟨fun _ _ r h => p153 h, rfl⟩) (FGC4_22 F) (.inl rfl)
def TGC4_24 (F : Nat) : List Ent := e63 F :: TGC4_23 F
theorem FGC4_24 (F : Nat) : Fits2 Try.prog (tD (TGC4_24 F)) (tS (TGC4_24 F)) := fits_cons (o63 (FGC4_23 F) ⟨fun _ _ _ r h => p105 h, rfl, fun _ _ r h => p94 h, rfl⟩) (FGC4_23 F) (.inl rfl)
def TGC4_25 (F : Nat) : List Ent := e124 F :: TGC4_24 F
theorem FGC4_25 (F : Nat) : Fits2 Try.prog (tD (TGC4_25 F)) (tS (TGC4_25 F)) := fits_cons (o124 (FGC4_24 F) ⟨fun _ _ _ r h => p105 h, rfl⟩) (FGC4_24 F) (.inl rfl)
def TGC4_26 (F : Nat) : List Ent := e171 F :: TGC4_25 F
theorem FGC4_26 (F : Nat) : Fits2 Try.prog (tD (TGC4_26 F)) (tS (TGC4_26 F)) := fits_cons (o171 (FGC4_25 F) ⟨fun _ r h => p63 h, rfl, fun _ _ _ r h => p124 h, rfl⟩) (FGC4_25 F) (.inl rfl)
def TGC4_27 (F : Nat) : List Ent := e172 F :: TGC4_26 F
theorem FGC4_27 (F : Nat) : Fits2 Try.prog (tD (TGC4_27 F)) (tS (TGC4_27 F)) := fits_cons (o172 (FGC4_26 F) ⟨⟩) (FGC4_26 F) (.inl rfl)
def TGC4_28 (F : Nat) : List Ent := e135 F :: TGC4_27 F
theorem FGC4_28 (F : Nat) : Fits2 Try.prog (tD (TGC4_28 F)) (tS (TGC4_28 F)) := fits_cons (o135 (FGC4_27 F) ⟨fun _ _ r h => p171 h, rfl, fun _ r h => p172 h, rfl⟩) (FGC4_27 F) (.inl rfl)
def TGC4_29 (F : Nat) : List Ent := e134 F :: TGC4_28 F
theorem FGC4_29 (F : Nat) : Fits2 Try.prog (tD (TGC4_29 F)) (tS (TGC4_29 F)) := fits_cons (o134 (FGC4_28 F) ⟨fun _ _ r h => p135 h, rfl⟩) (FGC4_28 F) (.inl rfl)
def TGC4_30 (F : Nat) : List Ent := e152s1 F :: TGC4_29 F
theorem FGC4_30 (F : Nat) : Fits2 Try.prog (tD (TGC4_30 F)) (tS (TGC4_30 F)) := fits_cons (o152s1 (FGC4_29 F) ⟨fun _ _ r h => p134 h, rfl⟩) (FGC4_29 F) (.inl rfl)
def TGC4_31 (F : Nat) : List Ent := e91s1 F :: TGC4_30 F
theorem FGC4_31 (F : Nat) : Fits2 Try.prog (tD (TGC4_31 F)) (tS (TGC4_31 F)) := fits_cons (o91s1 (FGC4_30 F) ⟨fun _ _ r h => p152s1 h, rfl⟩) (FGC4_30 F) (.inl rfl)
def TGC4_32 (F : Nat) : List Ent := e139 F :: TGC4_31 F
theorem FGC4_32 (F : Nat) : Fits2 Try.prog (tD (TGC4_32 F)) (tS (TGC4_32 F)) := fits_cons (o139 (FGC4_31 F) ⟨⟩) (FGC4_31 F) (.inl rfl)
def TGC4_33 (F : Nat) : List Ent := e76 F :: TGC4_32 F
theorem FGC4_33 (F : Nat) : Fits2 Try.prog (tD (TGC4_33 F)) (tS (TGC4_33 F)) := fits_cons (o76 (FGC4_32 F) ⟨fun _ _ r h => p139 h, rfl⟩) (FGC4_32 F) (.inl rfl)
def TGC4_34 (F : Nat) : List Ent := e138 F :: TGC4_33 F
theorem FGC4_34 (F : Nat) : Fits2 Try.prog (tD (TGC4_34 F)) (tS (TGC4_34 F)) := fits_cons (o138 (FGC4_33 F) ⟨fun _ _ r h => p76 h, rfl⟩) (FGC4_33 F) (.inl rfl)
def TGC4_35 (F : Nat) : List Ent := e152s2 F :: TGC4_34 F
theorem FGC4_35 (F : Nat) : Fits2 Try.prog (tD (TGC4_35 F)) (tS (TGC4_35 F)) := fits_cons (o152s2 (FGC4_34 F) ⟨fun _ _ r h => p138 h, rfl⟩) (FGC4_34 F) (.inr rfl)
def TGC4_36 (F : Nat) : List Ent := e91s2 F :: TGC4_35 F
theorem FGC4_36 (F : Nat) : Fits2 Try.prog (tD (TGC4_36 F)) (tS (TGC4_36 F)) := fits_cons (o91s2 (FGC4_35 F) ⟨fun _ _ r h => p152s2 h, rfl⟩) (FGC4_35 F) (.inr rfl)
def TGC4_37 (F : Nat) : List Ent := e137 F :: TGC4_36 F
theorem FGC4_37 (F : Nat) : Fits2 Try.prog (tD (TGC4_37 F)) (tS (TGC4_37 F)) := fits_cons (o137 (FGC4_36 F) ⟨fun _ _ r h => p91s2 h, rfl⟩) (FGC4_36 F) (.inl rfl)
def TGC4_38 (F : Nat) : List Ent := e173s1 F :: TGC4_37 F
theorem FGC4_38 (F : Nat) : Fits2 Try.prog (tD (TGC4_38 F)) (tS (TGC4_38 F)) := fits_cons (o173s1 (FGC4_37 F) ⟨fun _ _ r h => p137 h, rfl⟩) (FGC4_37 F) (.inl rfl)
def TGC4_39 (F : Nat) : List Ent := e136s1 F :: TGC4_38 F
theorem FGC4_39 (F : Nat) : Fits2 Try.prog (tD (TGC4_39 F)) (tS (TGC4_39 F)) := fits_cons (o136s1 (FGC4_38 F) ⟨fun _ _ r h => p173s1 h, rfl⟩) (FGC4_38 F) (.inl rfl)
def TGC4_40 (F : Nat) : List Ent := e75 F :: TGC4_39 F
theorem FGC4_40 (F : Nat) : Fits2 Try.prog (tD (TGC4_40 F)) (tS (TGC4_40 F)) := fits_cons (o75 (FGC4_39 F) ⟨fun _ _ r h => p91s1 h, rfl, fun _ _ r h => p76 h, rfl, fun _ _ r h => p136s1 h, rfl⟩) (FGC4_39 F) (.inl rfl)
def TGC4_41 (F : Nat) : List Ent := e28o F :: TGC4_40 F
theorem FGC4_41 (F : Nat) : Fits2 Try.prog (tD (TGC4_41 F)) (tS (TGC4_41 F)) := fits_cons (o28o (FGC4_40 F) ⟨fun _ r h => p63 h, rfl, fun _ _ r h => p75 h, rfl, fun _ _ r h => p76 h, rfl⟩) (FGC4_40 F) (.inl rfl)
def TGC4_42 (F : Nat) : List Ent := e21 F :: TGC4_41 F
theorem FGC4_42 (F : Nat) : Fits2 Try.prog (tD (TGC4_42 F)) (tS (TGC4_42 F)) := fits_cons (o21 (FGC4_41 F) ⟨⟩) (FGC4_41 F) (.inl rfl)
def TGC4_43 (F : Nat) : List Ent := e129 F :: TGC4_42 F
theorem FGC4_43 (F : Nat) : Fits2 Try.prog (tD (TGC4_43 F)) (tS (TGC4_43 F)) := fits_cons (o129 (FGC4_42 F) ⟨⟩) (FGC4_42 F) (.inl rfl)
def TGC4_44 (F : Nat) : List Ent := e68 F :: TGC4_43 F
theorem FGC4_44 (F : Nat) : Fits2 Try.prog (tD (TGC4_44 F)) (tS (TGC4_44 F)) := fits_cons (o68 (FGC4_43 F) ⟨fun _ _ r h => p129 h, rfl⟩) (FGC4_43 F) (.inl rfl)
def TGC4_45 (F : Nat) : List Ent := e20 F :: TGC4_44 F
theorem FGC4_45 (F : Nat) : Fits2 Try.prog (tD (TGC4_45 F)) (tS (TGC4_45 F)) := fits_cons (o20 (FGC4_44 F) ⟨fun _ _ r h => p68 h, rfl⟩) (FGC4_44 F) (.inl rfl)
def TGC4_46 (F : Nat) : List Ent := e29 F :: TGC4_45 F
theorem FGC4_46 (F : Nat) : Fits2 Try.prog (tD (TGC4_46 F)) (tS (TGC4_46 F)) := fits_cons (o29 (FGC4_45 F) ⟨fun _ _ r h => p21 h, rfl⟩) (FGC4_45 F) (.inl rfl)
def TGC4_47 (F : Nat) : List Ent := e62o F :: TGC4_46 F
theorem FGC4_47 (F : Nat) : Fits2 Try.prog (tD (TGC4_47 F)) (tS (TGC4_47 F)) := fits_cons (o62o (FGC4_46 F) ⟨fun _ r h => p123 h, rfl⟩) (FGC4_46 F) (.inl rfl)
def TGC4_48 (F : Nat) : List Ent := e17o F :: TGC4_47 F
theorem FGC4_48 (F : Nat) : Fits2 Try.prog (tD (TGC4_48 F)) (tS (TGC4_48 F)) := fits_cons (o17o (FGC4_47 F) ⟨fun _ r h => p62o h, rfl⟩) (FGC4_47 F) (.inl rfl)
def TGC4_49 (F : Nat) : List Ent := e69 F :: TGC4_48 F
theorem FGC4_49 (F : Nat) : Fits2 Try.prog (tD (TGC4_49 F)) (tS (TGC4_49 F)) := fits_cons (o69 (FGC4_48 F) ⟨⟩) (FGC4_48 F) (.inl rfl)
def TGC4_50 (F : Nat) : List Ent := e22 F :: TGC4_49 F
theorem FGC4_50 (F : Nat) : Fits2 Try.prog (tD (TGC4_50 F)) (tS (TGC4_50 F)) := fits_cons (o22 (FGC4_49 F) ⟨fun _ _ r h => p69 h, rfl⟩) (FGC4_49 F) (.inl rfl)
def TGC4_51 (F : Nat) : List Ent := e18o F :: TGC4_50 F
theorem FGC4_51 (F : Nat) : Fits2 Try.prog (tD (TGC4_51 F)) (tS (TGC4_51 F)) := fits_cons (o18o (FGC4_50 F) ⟨⟩) (FGC4_50 F) (.inl rfl)
def TGC4_52 (F : Nat) : List Ent := e27o F :: TGC4_51 F
theorem FGC4_52 (F : Nat) : Fits2 Try.prog (tD (TGC4_52 F)) (tS (TGC4_52 F)) := fits_cons (o27o (FGC4_51 F) ⟨fun _ r h => p18o h, rfl⟩) (FGC4_51 F) (.inl rfl)
def TGC4_53 (F : Nat) : List Ent := e23 F :: TGC4_52 F
theorem FGC4_53 (F : Nat) : Fits2 Try.prog (tD (TGC4_53 F)) (tS (TGC4_53 F)) := fits_cons (o23 (FGC4_52 F) ⟨⟩) (FGC4_52 F) (.inl rfl)
def TGC4_54 (F : Nat) : List Ent := e30 F :: TGC4_53 F
theorem FGC4_54 (F : Nat) : Fits2 Try.prog (tD (TGC4_54 F)) (tS (TGC4_54 F)) := fits_cons (o30 (FGC4_53 F) ⟨fun _ _ r h => p23 h, rfl⟩) (FGC4_53 F) (.inl rfl)
def TGC4_55 (F : Nat) : List Ent := e31 F :: TGC4_54 F
theorem FGC4_55 (F : Nat) : Fits2 Try.prog (tD (TGC4_55 F)) (tS (TGC4_55 F)) := fits_cons (o31 (FGC4_54 F) ⟨⟩) (FGC4_54 F) (.inl rfl)
def TGC4_56 (F : Nat) : List Ent := e4 F :: TGC4_55 F
theorem FGC4_56 (F : Nat) : Fits2 Try.prog (tD (TGC4_56 F)) (tS (TGC4_56 F)) := fits_cons (o4 (FGC4_55 F) ⟨fun _ _ r h => p15 h, rfl, fun _ _ r h => p25 h, rfl, fun _ r h => p17 h, rfl, fun _ r h => p27 h, rfl, fun _ _ r h => p26 h, rfl, fun _ r h => p17o h, rfl, fun _ r h => p27o h, rfl, fun _ _ r h => p28o h, rfl, fun _ _ r h => p21 h, rfl, fun _ _ r h => p20 h, rfl, fun _ _ r h => p29 h, rfl, fun _ _ r h => p22 h, rfl, fun _ _ r h => p30 h, rfl, fun _ _ r h => p23 h, rfl, fun _ _ r h => p31 h, rfl⟩) (FGC4_55 F) (.inl rfl)
theorem law4 (F : Nat) (x0 : (Int × (List (Int × Int)))) (x1 : (List (List Int))) (h : w_FnExactLayoutOfBags F x0 x1 = some true) : Contract Try.prog 4 0 false [Enc.enc x0, Enc.enc x1] (.bool true) := contract_plain ((FGC4_56 F).con 4 _ _ 0 false (p4 h) rfl) rfl rfl
end Go.Zq
