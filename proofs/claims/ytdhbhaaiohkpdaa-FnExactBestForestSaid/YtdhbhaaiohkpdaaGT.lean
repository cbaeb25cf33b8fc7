/- The table of the functions' contracts. No further condition. -/
import Derived.Test.YtdhbhaaiohkpdaaK4
import Derived.Test.YtdhbhaaiohkpdaaProg
import Derived.Test.YtdhbhaaiohkpdaaChecked
import Derived.KernelRfl
import Derived.Test.YtdhbhaaiohkpdaaG3
set_option linter.unusedVariables false
set_option linter.unusedSimpArgs false
/- Functions of the program, as typed functions, and that the machine runs as they say. -/
namespace Go.Zq
open Go.Proofs
def TGCB_0 (F : Nat) : List Ent := e59 F :: []
theorem FGCB_0 (F : Nat) : Fits2 Try.prog (tD (TGCB_0 F)) (tS (TGCB_0 F)) := fits_cons (o59 (fits_nil) ⟨⟩) (fits_nil) (.inl rfl)
def TGCB_1 (F : Nat) : List Ent := e15 F :: TGCB_0 F
theorem FGCB_1 (F : Nat) : Fits2 Try.prog (tD (TGCB_1 F)) (tS (TGCB_1 F)) := fits_cons (o15 (FGCB_0 F) ⟨fun _ _ r h => p59 h, rfl⟩) (FGCB_0 F) (.inl rfl)
def TGCB_2 (F : Nat) : List Ent := e123 F :: TGCB_1 F
theorem FGCB_2 (F : Nat) : Fits2 Try.prog (tD (TGCB_2 F)) (tS (TGCB_2 F)) := fits_cons (o123 (FGCB_1 F) ⟨⟩) (FGCB_1 F) (.inl rfl)
def TGCB_3 (F : Nat) : List Ent := e62 F :: TGCB_2 F
theorem FGCB_3 (F : Nat) : Fits2 Try.prog (tD (TGCB_3 F)) (tS (TGCB_3 F)) := fits_cons (o62 (FGCB_2 F) ⟨fun _ r h => p123 h, rfl⟩) (FGCB_2 F) (.inl rfl)
def TGCB_4 (F : Nat) : List Ent := e17 F :: TGCB_3 F
theorem FGCB_4 (F : Nat) : Fits2 Try.prog (tD (TGCB_4 F)) (tS (TGCB_4 F)) := fits_cons (o17 (FGCB_3 F) ⟨fun _ r h => p62 h, rfl⟩) (FGCB_3 F) (.inl rfl)
def TGCB_5 (F : Nat) : List Ent := e103 F :: TGCB_4 F
theorem FGCB_5 (F : Nat) : Fits2 Try.prog (tD (TGCB_5 F)) (tS (TGCB_5 F)) := fits_cons (o103 (FGCB_4 F) ⟨⟩) (FGCB_4 F) (.inl rfl)
def TGCB_6 (F : Nat) : List Ent := e130 F :: TGCB_5 F
theorem FGCB_6 (F : Nat) : Fits2 Try.prog (tD (TGCB_6 F)) (tS (TGCB_6 F)) := fits_cons (o130 (FGCB_5 F) ⟨⟩) (FGCB_5 F) (.inl rfl)
def TGCB_7 (F : Nat) : List Ent := e72 F :: TGCB_6 F
theorem FGCB_7 (F : Nat) : Fits2 Try.prog (tD (TGCB_7 F)) (tS (TGCB_7 F)) := fits_cons (o72 (FGCB_6 F) ⟨fun _ _ _ r h => p103 h, rfl, fun _ _ r h => p130 h, rfl⟩) (FGCB_6 F) (.inl rfl)
def TGCB_8 (F : Nat) : List Ent := e87 F :: TGCB_7 F
theorem FGCB_8 (F : Nat) : Fits2 Try.prog (tD (TGCB_8 F)) (tS (TGCB_8 F)) := fits_cons (o87 (FGCB_7 F) ⟨⟩) (FGCB_7 F) (.inl rfl)
def TGCB_9 (F : Nat) : List Ent := e74 F :: TGCB_8 F
theorem FGCB_9 (F : Nat) : Fits2 Try.prog (tD (TGCB_9 F)) (tS (TGCB_9 F)) := fits_cons (o74 (FGCB_8 F) ⟨⟩) (FGCB_8 F) (.inl rfl)
def TGCB_10 (F : Nat) : List Ent := e145 F :: TGCB_9 F
theorem FGCB_10 (F : Nat) : Fits2 Try.prog (tD (TGCB_10 F)) (tS (TGCB_10 F)) := fits_cons (o145 (FGCB_9 F) ⟨⟩) (FGCB_9 F) (.inl rfl)
def TGCB_11 (F : Nat) : List Ent := e146 F :: TGCB_10 F
theorem FGCB_11 (F : Nat) : Fits2 Try.prog (tD (TGCB_11 F)) (tS (TGCB_11 F)) := fits_cons (o146 (FGCB_10 F) ⟨⟩) (FGCB_10 F) (.inl rfl)
def TGCB_12 (F : Nat) : List Ent := e179 F :: TGCB_11 F
theorem FGCB_12 (F : Nat) : Fits2 Try.prog (tD (TGCB_12 F)) (tS (TGCB_12 F)) := fits_cons (o179 (FGCB_11 F) ⟨fun _ _ r h => p74 h, rfl, fun _ _ _ r h => p145 h, rfl, fun _ _ r h => p146 h, rfl⟩) (FGCB_11 F) (.inl rfl)
def TGCB_13 (F : Nat) : List Ent := e148 F :: TGCB_12 F
theorem FGCB_13 (F : Nat) : Fits2 Try.prog (tD (TGCB_13 F)) (tS (TGCB_13 F)) := fits_cons (o148 (FGCB_12 F) ⟨fun _ _ r h => p74 h, rfl, fun _ _ _ r h => p179 h, rfl, fun _ _ r h => p146 h, rfl⟩) (FGCB_12 F) (.inl rfl)
def TGCB_14 (F : Nat) : List Ent := e162 F :: TGCB_13 F
theorem FGCB_14 (F : Nat) : Fits2 Try.prog (tD (TGCB_14 F)) (tS (TGCB_14 F)) := fits_cons (o162 (FGCB_13 F) ⟨⟩) (FGCB_13 F) (.inl rfl)
def TGCB_15 (F : Nat) : List Ent := e78 F :: TGCB_14 F
theorem FGCB_15 (F : Nat) : Fits2 Try.prog (tD (TGCB_15 F)) (tS (TGCB_15 F)) := fits_cons (o78 (FGCB_14 F) ⟨⟩) (FGCB_14 F) (.inl rfl)
def TGCB_16 (F : Nat) : List Ent := e122 F :: TGCB_15 F
theorem FGCB_16 (F : Nat) : Fits2 Try.prog (tD (TGCB_16 F)) (tS (TGCB_16 F)) := fits_cons (o122 (FGCB_15 F) ⟨⟩) (FGCB_15 F) (.inl rfl)
def TGCB_17 (F : Nat) : List Ent := e107 F :: TGCB_16 F
theorem FGCB_17 (F : Nat) : Fits2 Try.prog (tD (TGCB_17 F)) (tS (TGCB_17 F)) := fits_cons (o107 (FGCB_16 F) ⟨fun _ _ r h => p87 h, rfl, fun _ _ r h => p148 h, rfl, fun _ r h => p162 h, rfl, fun _ _ r h => p78 h, rfl, fun _ _ r h => p122 h, rfl⟩) (FGCB_16 F) (.inl rfl)
def TGCB_18 (F : Nat) : List Ent := e86 F :: TGCB_17 F
theorem FGCB_18 (F : Nat) : Fits2 Try.prog (tD (TGCB_18 F)) (tS (TGCB_18 F)) := fits_cons (o86 (FGCB_17 F) ⟨fun _ _ r h => p87 h, rfl⟩) (FGCB_17 F) (.inl rfl)
def TGCB_19 (F : Nat) : List Ent := e174 F :: TGCB_18 F
theorem FGCB_19 (F : Nat) : Fits2 Try.prog (tD (TGCB_19 F)) (tS (TGCB_19 F)) := fits_cons (o174 (FGCB_18 F) ⟨fun _ r h => p162 h, rfl⟩) (FGCB_18 F) (.inl rfl)
def TGCB_20 (F : Nat) : List Ent := e97o F :: TGCB_19 F
theorem FGCB_20 (F : Nat) : Fits2 Try.prog (tD (TGCB_20 F)) (tS (TGCB_20 F)) := fits_cons (o97o (FGCB_19 F) ⟨⟩) (FGCB_19 F) (.inl rfl)
def TGCB_21 (F : Nat) : List Ent := e109 F :: TGCB_20 F
theorem FGCB_21 (F : Nat) : Fits2 Try.prog (tD (TGCB_21 F)) (tS (TGCB_21 F)) := fits_cons (o109 (FGCB_20 F) ⟨⟩) (FGCB_20 F) (.inl rfl)
def TGCB_22 (F : Nat) : List Ent := e140o F F :: TGCB_21 F
theorem QGCB_22 (F : Nat) : ∀ k, Fits2 Try.prog (tD (e140o F k :: TGCB_21 F)) (tS (e140o F k :: TGCB_21 F))
  | 0 => fits_cons z140o (FGCB_21 F) (.inl rfl)
  | k + 1 => fits_cons (o140o (QGCB_22 F k) ⟨fun _ r h => p97o h, rfl, fun _ _ r h => p148 h, rfl, fun _ _ r h => p174 h, rfl, fun _ _ r h => p109 h, rfl, fun _ _ _ _ _ r h => p140o (k := k) h, rfl⟩) (FGCB_21 F) (.inl rfl)
theorem FGCB_22 (F : Nat) : Fits2 Try.prog (tD (TGCB_22 F)) (tS (TGCB_22 F)) := QGCB_22 F F
def TGCB_23 (F : Nat) : List Ent := e140 F F :: TGCB_22 F
theorem QGCB_23 (F : Nat) : ∀ k, Fits2 Try.prog (tD (e140 F k :: TGCB_22 F)) (tS (e140 F k :: TGCB_22 F))
  | 0 => fits_cons z140 (FGCB_22 F) (.inl rfl)
  | k + 1 => fits_cons (o140 (QGCB_23 F k) ⟨fun _ r h => p97o h, rfl, fun _ _ r h => p148 h, rfl, fun _ _ r h => p174 h, rfl, fun _ _ r h => p109 h, rfl, fun _ _ _ _ _ r h => p140o (k := F) h, rfl⟩) (FGCB_22 F) (.inl rfl)
theorem FGCB_23 (F : Nat) : Fits2 Try.prog (tD (TGCB_23 F)) (tS (TGCB_23 F)) := QGCB_23 F F
def TGCB_24 (F : Nat) : List Ent := e77 F :: TGCB_23 F
theorem FGCB_24 (F : Nat) : Fits2 Try.prog (tD (TGCB_24 F)) (tS (TGCB_24 F)) := fits_cons (o77 (FGCB_23 F) ⟨fun _ r h => p107 h, rfl, fun _ r h => p86 h, rfl, fun _ _ _ _ _ r h => p140 (k := F) h, rfl⟩) (FGCB_23 F) (.inl rfl)
def TGCB_25 (F : Nat) : List Ent := e34 F :: TGCB_24 F
theorem FGCB_25 (F : Nat) : Fits2 Try.prog (tD (TGCB_25 F)) (tS (TGCB_25 F)) := fits_cons (o34 (FGCB_24 F) ⟨fun _ r h => p72 h, rfl, fun _ r h => p77 h, rfl⟩) (FGCB_24 F) (.inl rfl)
def TGCB_26 (F : Nat) : List Ent := e105 F :: TGCB_25 F
theorem FGCB_26 (F : Nat) : Fits2 Try.prog (tD (TGCB_26 F)) (tS (TGCB_26 F)) := fits_cons (o105 (FGCB_25 F) ⟨⟩) (FGCB_25 F) (.inl rfl)
def TGCB_27 (F : Nat) : List Ent := e180 F :: TGCB_26 F
theorem FGCB_27 (F : Nat) : Fits2 Try.prog (tD (TGCB_27 F)) (tS (TGCB_27 F)) := fits_cons (o180 (FGCB_26 F) ⟨⟩) (FGCB_26 F) (.inl rfl)
def TGCB_28 (F : Nat) : List Ent := e153 F :: TGCB_27 F
theorem FGCB_28 (F : Nat) : Fits2 Try.prog (tD (TGCB_28 F)) (tS (TGCB_28 F)) := fits_cons (o153 (FGCB_27 F) ⟨fun _ r h => p180 h, rfl⟩) (FGCB_27 F) (.inl rfl)
def TGCB_29 (F : Nat) : List Ent := e94 F :: TGCB_28 F
theorem FGCB_29 (F : Nat) : Fits2 Try.prog (tD (TGCB_29 F)) (tS (TGCB_29 F)) := fits_cons (o94 (FGCB_28 F) ⟨fun _ _ r h => p153 h, rfl⟩) (FGCB_28 F) (.inl rfl)
def TGCB_30 (F : Nat) : List Ent := e63 F :: TGCB_29 F
theorem FGCB_30 (F : Nat) : Fits2 Try.prog (tD (TGCB_30 F)) (tS (TGCB_30 F)) := fits_cons (o63 (FGCB_29 F) ⟨fun _ _ _ r h => p105 h, rfl, fun _ _ r h => p94 h, rfl⟩) (FGCB_29 F) (.inl rfl)
def TGCB_31 (F : Nat) : List Ent := e65 F :: TGCB_30 F
theorem FGCB_31 (F : Nat) : Fits2 Try.prog (tD (TGCB_31 F)) (tS (TGCB_31 F)) := fits_cons (o65 (FGCB_30 F) ⟨⟩) (FGCB_30 F) (.inl rfl)
def TGCB_32 (F : Nat) : List Ent := e113 F :: TGCB_31 F
theorem FGCB_32 (F : Nat) : Fits2 Try.prog (tD (TGCB_32 F)) (tS (TGCB_32 F)) := fits_cons (o113 (FGCB_31 F) ⟨⟩) (FGCB_31 F) (.inl rfl)
def TGCB_33 (F : Nat) : List Ent := e175 F :: TGCB_32 F
theorem FGCB_33 (F : Nat) : Fits2 Try.prog (tD (TGCB_33 F)) (tS (TGCB_33 F)) := fits_cons (o175 (FGCB_32 F) ⟨⟩) (FGCB_32 F) (.inl rfl)
def TGCB_34 (F : Nat) : List Ent := e142 F :: TGCB_33 F
theorem FGCB_34 (F : Nat) : Fits2 Try.prog (tD (TGCB_34 F)) (tS (TGCB_34 F)) := fits_cons (o142 (FGCB_33 F) ⟨fun _ _ r h => p175 h, rfl⟩) (FGCB_33 F) (.inl rfl)
def TGCB_35 (F : Nat) : List Ent := e83 F :: TGCB_34 F
theorem FGCB_35 (F : Nat) : Fits2 Try.prog (tD (TGCB_35 F)) (tS (TGCB_35 F)) := fits_cons (o83 (FGCB_34 F) ⟨⟩) (FGCB_34 F) (.inl rfl)
def TGCB_36 (F : Nat) : List Ent := e143 F :: TGCB_35 F
theorem FGCB_36 (F : Nat) : Fits2 Try.prog (tD (TGCB_36 F)) (tS (TGCB_36 F)) := fits_cons (o143 (FGCB_35 F) ⟨fun _ r h => p83 h, rfl⟩) (FGCB_35 F) (.inl rfl)
def TGCB_37 (F : Nat) : List Ent := e111 F :: TGCB_36 F
theorem FGCB_37 (F : Nat) : Fits2 Try.prog (tD (TGCB_37 F)) (tS (TGCB_37 F)) := fits_cons (o111 (FGCB_36 F) ⟨fun _ r h => p113 h, rfl, fun _ _ r h => p142 h, rfl, fun _ _ _ r h => p143 h, rfl⟩) (FGCB_36 F) (.inl rfl)
def TGCB_38 (F : Nat) : List Ent := e127 F :: TGCB_37 F
theorem FGCB_38 (F : Nat) : Fits2 Try.prog (tD (TGCB_38 F)) (tS (TGCB_38 F)) := fits_cons (o127 (FGCB_37 F) ⟨⟩) (FGCB_37 F) (.inl rfl)
def TGCB_39 (F : Nat) : List Ent := e141 F F :: TGCB_38 F
theorem QGCB_39 (F : Nat) : ∀ k, Fits2 Try.prog (tD (e141 F k :: TGCB_38 F)) (tS (e141 F k :: TGCB_38 F))
  | 0 => fits_cons z141 (FGCB_38 F) (.inl rfl)
  | k + 1 => fits_cons (o141 (QGCB_39 F k) fun _ _ => ⟨fun _ _ r h => p142 h, rfl, fun _ _ _ r h => p143 h, rfl, fun _ _ _ _ h => p141 (k := k) h, rfl⟩) (FGCB_38 F) (.inl rfl)
theorem FGCB_39 (F : Nat) : Fits2 Try.prog (tD (TGCB_39 F)) (tS (TGCB_39 F)) := QGCB_39 F F
def TGCB_40 (F : Nat) : List Ent := e79o F :: TGCB_39 F
theorem FGCB_40 (F : Nat) : Fits2 Try.prog (tD (TGCB_40 F)) (tS (TGCB_40 F)) := fits_cons (o79o (FGCB_39 F) ⟨fun _ r h => p111 h, rfl, fun _ r h => p127 h, rfl, fun _ r h => p113 h, rfl, fun _ _ _ _ _ _ h => p141 (k := F) h, rfl⟩) (FGCB_39 F) (.inl rfl)
def TGCB_41 (F : Nat) : List Ent := e35o F :: TGCB_40 F
theorem FGCB_41 (F : Nat) : Fits2 Try.prog (tD (TGCB_41 F)) (tS (TGCB_41 F)) := fits_cons (o35o (FGCB_40 F) ⟨fun _ r h => p63 h, rfl, fun _ r h => p65 h, rfl, fun _ r h => p79o h, rfl⟩) (FGCB_40 F) (.inl rfl)
def TGCB_42 (F : Nat) : List Ent := e21 F :: TGCB_41 F
theorem FGCB_42 (F : Nat) : Fits2 Try.prog (tD (TGCB_42 F)) (tS (TGCB_42 F)) := fits_cons (o21 (FGCB_41 F) ⟨⟩) (FGCB_41 F) (.inl rfl)
def TGCB_43 (F : Nat) : List Ent := e129 F :: TGCB_42 F
theorem FGCB_43 (F : Nat) : Fits2 Try.prog (tD (TGCB_43 F)) (tS (TGCB_43 F)) := fits_cons (o129 (FGCB_42 F) ⟨⟩) (FGCB_42 F) (.inl rfl)
def TGCB_44 (F : Nat) : List Ent := e68 F :: TGCB_43 F
theorem FGCB_44 (F : Nat) : Fits2 Try.prog (tD (TGCB_44 F)) (tS (TGCB_44 F)) := fits_cons (o68 (FGCB_43 F) ⟨fun _ _ r h => p129 h, rfl⟩) (FGCB_43 F) (.inl rfl)
def TGCB_45 (F : Nat) : List Ent := e20 F :: TGCB_44 F
theorem FGCB_45 (F : Nat) : Fits2 Try.prog (tD (TGCB_45 F)) (tS (TGCB_45 F)) := fits_cons (o20 (FGCB_44 F) ⟨fun _ _ r h => p68 h, rfl⟩) (FGCB_44 F) (.inl rfl)
def TGCB_46 (F : Nat) : List Ent := e62o F :: TGCB_45 F
theorem FGCB_46 (F : Nat) : Fits2 Try.prog (tD (TGCB_46 F)) (tS (TGCB_46 F)) := fits_cons (o62o (FGCB_45 F) ⟨fun _ r h => p123 h, rfl⟩) (FGCB_45 F) (.inl rfl)
def TGCB_47 (F : Nat) : List Ent := e17o F :: TGCB_46 F
theorem FGCB_47 (F : Nat) : Fits2 Try.prog (tD (TGCB_47 F)) (tS (TGCB_47 F)) := fits_cons (o17o (FGCB_46 F) ⟨fun _ r h => p62o h, rfl⟩) (FGCB_46 F) (.inl rfl)
def TGCB_48 (F : Nat) : List Ent := e69 F :: TGCB_47 F
theorem FGCB_48 (F : Nat) : Fits2 Try.prog (tD (TGCB_48 F)) (tS (TGCB_48 F)) := fits_cons (o69 (FGCB_47 F) ⟨⟩) (FGCB_47 F) (.inl rfl)
def TGCB_49 (F : Nat) : List Ent := e22 F :: TGCB_48 F
theorem FGCB_49 (F : Nat) : Fits2 Try.prog (tD (TGCB_49 F)) (tS (TGCB_49 F)) := fits_cons (o22 (FGCB_48 F) ⟨fun _ _ r h => p69 h, rfl⟩) (FGCB_48 F) (.inl rfl)
def TGCB_50 (F : Nat) : List Ent := e23 F :: TGCB_49 F
theorem FGCB_50 (F : Nat) : Fits2 Try.prog (tD (TGCB_50 F)) (tS (TGCB_50 F)) := fits_cons (o23 (FGCB_49 F) ⟨⟩) (FGCB_49 F) (.inl rfl)
def TGCB_51 (F : Nat) : List Ent := e31 F :: TGCB_50 F
theorem FGCB_51 (F : Nat) : Fits2 Try.prog (tD (TGCB_51 F)) (tS (TGCB_51 F)) := fits_cons (o31 (FGCB_50 F) ⟨⟩) (FGCB_50 F) (.inl rfl)
def TGCB_52 (F : Nat) : List Ent := e6 F :: TGCB_51 F
theorem FGCB_52 (F : Nat) : Fits2 Try.prog (tD (TGCB_52 F)) (tS (TGCB_52 F)) := fits_cons (o6 (FGCB_51 F) ⟨fun _ _ r h => p15 h, rfl, fun _ r h => p17 h, rfl, fun _ r h => p34 h, rfl, fun _ r h => p17o h, rfl, fun _ r h => p35o h, rfl, fun _ _ r h => p21 h, rfl, fun _ _ r h => p20 h, rfl, fun _ _ r h => p22 h, rfl, fun _ _ r h => p23 h, rfl, fun _ _ r h => p31 h, rfl⟩) (FGCB_51 F) (.inl rfl)
theorem law6 (F : Nat) (x0 : (Int × (List (Int × Int)))) (h : w_FnExactBestForest F x0 = some true) : Contract Try.prog 6 0 false [Enc.enc x0] (.bool true) := contract_plain ((FGCB_52 F).con 6 _ _ 0 false (p6 h) rfl) rfl rfl
end Go.Zq
