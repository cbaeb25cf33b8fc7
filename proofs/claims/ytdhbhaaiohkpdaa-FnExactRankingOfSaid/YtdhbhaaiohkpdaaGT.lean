/- The table of the functions' contracts. No further condition. -/
import Derived.Test.YtdhbhaaiohkpdaaK4
import Derived.Test.YtdhbhaaiohkpdaaProg
import Derived.Test.YtdhbhaaiohkpdaaChecked
import Derived.KernelRfl
import Derived.Test.YtdhbhaaiohkpdaaG3
set_option linter.unusedVariables false
set_option linter.unusedSimpArgs false
/- Functions of the program, as typed functions, and that the machine runs as they say. -/
namespace Go.Zq
open Go.Proofs
def TGCC_0 (F : Nat) : List Ent := e59 F :: []
theorem FGCC_0 (F : Nat) : Fits2 Try.prog (tD (TGCC_0 F)) (tS (TGCC_0 F)) := fits_cons (o59 (fits_nil) ⟨⟩) (fits_nil) (.inl rfl)
def TGCC_1 (F : Nat) : List Ent := e15 F :: TGCC_0 F
theorem FGCC_1 (F : Nat) : Fits2 Try.prog (tD (TGCC_1 F)) (tS (TGCC_1 F)) := fits_cons (o15 (FGCC_0 F) ⟨fun _ _ r h => p59 h, rfl⟩) (FGCC_0 F) (.inl rfl)
def TGCC_2 (F : Nat) : List Ent := e123 F :: TGCC_1 F
theorem FGCC_2 (F : Nat) : Fits2 Try.prog (tD (TGCC_2 F)) (tS (TGCC_2 F)) := fits_cons (o123 (FGCC_1 F) ⟨⟩) (FGCC_1 F) (.inl rfl)
def TGCC_3 (F : Nat) : List Ent := e62 F :: TGCC_2 F
theorem FGCC_3 (F : Nat) : Fits2 Try.prog (tD (TGCC_3 F)) (tS (TGCC_3 F)) := fits_cons (o62 (FGCC_2 F) ⟨fun _ r h => p123 h, rfl⟩) (FGCC_2 F) (.inl rfl)
def TGCC_4 (F : Nat) : List Ent := e17 F :: TGCC_3 F
theorem FGCC_4 (F : Nat) : Fits2 Try.prog (tD (TGCC_4 F)) (tS (TGCC_4 F)) := fits_cons (o17 (FGCC_3 F) ⟨fun _ r h => p62 h, rfl⟩) (FGCC_3 F) (.inl rfl)
def TGCC_5 (F : Nat) : List Ent := e103 F :: TGCC_4 F
theorem FGCC_5 (F : Nat) : Fits2 Try.prog (tD (TGCC_5 F)) (tS (TGCC_5 F)) := fits_cons (o103 (FGCC_4 F) ⟨⟩) (FGCC_4 F) (.inl rfl)
def TGCC_6 (F : Nat) : List Ent := e130 F :: TGCC_5 F
theorem FGCC_6 (F : Nat) : Fits2 Try.prog (tD (TGCC_6 F)) (tS (TGCC_6 F)) := fits_cons (o130 (FGCC_5 F) ⟨⟩) (FGCC_5 F) (.inl rfl)
def TGCC_7 (F : Nat) : List Ent := e72 F :: TGCC_6 F
theorem FGCC_7 (F : Nat) : Fits2 Try.prog (tD (TGCC_7 F)) (tS (TGCC_7 F)) := fits_cons (o72 (FGCC_6 F) ⟨fun _ _ _ r h => p103 h, rfl, fun _ _ r h => p130 h, rfl⟩) (FGCC_6 F) (.inl rfl)
def TGCC_8 (F : Nat) : List Ent := e87 F :: TGCC_7 F
theorem FGCC_8 (F : Nat) : Fits2 Try.prog (tD (TGCC_8 F)) (tS (TGCC_8 F)) := fits_cons (o87 (FGCC_7 F) ⟨⟩) (FGCC_7 F) (.inl rfl)
def TGCC_9 (F : Nat) : List Ent := e74 F :: TGCC_8 F
theorem FGCC_9 (F : Nat) : Fits2 Try.prog (tD (TGCC_9 F)) (tS (TGCC_9 F)) := fits_cons (o74 (FGCC_8 F) ⟨⟩) (FGCC_8 F) (.inl rfl)
def TGCC_10 (F : Nat) : List Ent := e145 F :: TGCC_9 F
theorem FGCC_10 (F : Nat) : Fits2 Try.prog (tD (TGCC_10 F)) (tS (TGCC_10 F)) := fits_cons (o145 (FGCC_9 F) ⟨⟩) (FGCC_9 F) (.inl rfl)
def TGCC_11 (F : Nat) : List Ent := e146 F :: TGCC_10 F
theorem FGCC_11 (F : Nat) : Fits2 Try.prog (tD (TGCC_11 F)) (tS (TGCC_11 F)) := fits_cons (o146 (FGCC_10 F) ⟨⟩) (FGCC_10 F) (.inl rfl)
def TGCC_12 (F : Nat) : List Ent := e179 F :: TGCC_11 F
theorem FGCC_12 (F : Nat) : Fits2 Try.prog (tD (TGCC_12 F)) (tS (TGCC_12 F)) := fits_cons (o179 (FGCC_11 F) ⟨fun _ _ r h => p74 h, rfl, fun _ _ _ r h => p145 h, rfl, fun _ _ r h => p146 h, rfl⟩) (FGCC_11 F) (.inl rfl)
def TGCC_13 (F : Nat) : List Ent := e148 F :: TGCC_12 F
theorem FGCC_13 (F : Nat) : Fits2 Try.prog (tD (TGCC_13 F)) (tS (TGCC_13 F)) := fits_cons (o148 (FGCC_12 F) ⟨fun _ _ r h => p74 h, rfl, fun _ _ _ r h => p179 h, rfl, fun _ _ r h => p146 h, rfl⟩) (FGCC_12 F) (.inl rfl)
def TGCC_14 (F : Nat) : List Ent := e162 F :: TGCC_13 F
theorem FGCC_14 (F : Nat) : Fits2 Try.prog (tD (TGCC_14 F)) (tS (TGCC_14 F)) := fits_cons (o162 (FGCC_13 F) ⟨⟩) (FGCC_13 F) (.inl rfl)
def TGCC_15 (F : Nat) : List Ent := e78 F :: TGCC_14 F
theorem FGCC_15 (F : Nat) : Fits2 Try.prog (tD (TGCC_15 F)) (tS (TGCC_15 F)) := fits_cons (o78 (FGCC_14 F) ⟨⟩) (FGCC_14 F) (.inl rfl)
def TGCC_16 (F : Nat) : List Ent := e122 F :: TGCC_15 F
theorem FGCC_16 (F : Nat) : Fits2 Try.prog (tD (TGCC_16 F)) (tS (TGCC_16 F)) := fits_cons (o122 (FGCC_15 F) ⟨⟩) (FGCC_15 F) (.inl rfl)
def TGCC_17 (F : Nat) : List Ent := e107 F :: TGCC_16 F
theorem FGCC_17 (F : Nat) : Fits2 Try.prog (tD (TGCC_17 F)) (tS (TGCC_17 F)) := fits_cons (o107 (FGCC_16 F) ⟨fun _ _ r h => p87 h, rfl, fun _ _ r h => p148 h, rfl, fun _ r h => p162 h, rfl, fun _ _ r h => p78 h, rfl, fun _ _ r h => p122 h, rfl⟩) (FGCC_16 F) (.inl rfl)
def TGCC_18 (F : Nat) : List Ent := e86 F :: TGCC_17 F
theorem FGCC_18 (F : Nat) : Fits2 Try.prog (tD (TGCC_18 F)) (tS (TGCC_18 F)) := fits_cons (o86 (FGCC_17 F) ⟨fun _ _ r h => p87 h, rfl⟩) (FGCC_17 F) (.inl rfl)
def TGCC_19 (F : Nat) : List Ent := e174 F :: TGCC_18 F
theorem FGCC_19 (F : Nat) : Fits2 Try.prog (tD (TGCC_19 F)) (tS (TGCC_19 F)) := fits_cons (o174 (FGCC_18 F) ⟨fun _ r h => p162 h, rfl⟩) (FGCC_18 F) (.inl rfl)
def TGCC_20 (F : Nat) : List Ent := e97o F :: TGCC_19 F
theorem FGCC_20 (F : Nat) : Fits2 Try.prog (tD (TGCC_20 F)) (tS (TGCC_20 F)) := fits_cons (o97o (FGCC_19 F) ⟨⟩) (FGCC_19 F) (.inl rfl)
def TGCC_21 (F : Nat) : List Ent := e109 F :: TGCC_20 F
theorem FGCC_21 (F : Nat) : Fits2 Try.prog (tD (TGCC_21 F)) (tS (TGCC_21 F)) := fits_cons (o109 (FGCC_20 F) ⟨⟩) (FGCC_20 F) (.inl rfl)
def TGCC_22 (F : Nat) : List Ent := e140o F F :: TGCC_21 F
theorem QGCC_22 (F : Nat) : ∀ k, Fits2 Try.prog (tD (e140o F k :: TGCC_21 F)) (tS (e140o F k :: TGCC_21 F))
  | 0 => fits_cons z140o (FGCC_21 F) (.inl rfl)
  | k + 1 => fits_cons (o140o (QGCC_22 F k) ⟨fun _ r h => p97o h, rfl, fun _ _ r h => p148 h, rfl, fun _ _ r h => p174 h, rfl, fun _ _ r h => p109 h, rfl, fun _ _ _ _ _ r h => p140o (k := k) h, rfl⟩) (FGCC_21 F) (.inl rfl)
theorem FGCC_22 (F : Nat) : Fits2 Try.prog (tD (TGCC_22 F)) (tS (TGCC_22 F)) := QGCC_22 F F
def TGCC_23 (F : Nat) : List Ent := e140 F F :: TGCC_22 F
theorem QGCC_23 (F : Nat) : ∀ k, Fits2 Try.prog (tD (e140 F k :: TGCC_22 F)) (tS (e140 F k :: TGCC_22 F))
  | 0 => fits_cons z140 (FGCC_22 F) (.inl rfl)
  | k + 1 => fits_cons (o140 (QGCC_23 F k) ⟨fun _ r h => p97o h, rfl, fun _ _ r h => p148 h, rfl, fun _ _ r h => p174 h, rfl, fun _ _ r h => p109 h, rfl, fun _ _ _ _ _ r h => p140o (k := F) h, rfl⟩) (FGCC_22 F) (.inl rfl)
theorem FGCC_23 (F : Nat) : Fits2 Try.prog (tD (TGCC_23 F)) (tS (TGCC_23 F)) := QGCC_23 F F
def TGCC_24 (F : Nat) : List Ent := e77 F :: TGCC_23 F
theorem FGCC_24 (F : Nat) : Fits2 Try.prog (tD (TGCC_24 F)) (tS (TGCC_24 F)) := fits_cons (o77 (FGCC_23 F) ⟨fun _ r h => p107 h, rfl, fun _ r h => p86 h, rfl, fun _ _ _ _ _ r h => p140 (k := F) h, rfl⟩) (FGCC_23 F) (.inl rfl)
def TGCC_25 (F : Nat) : List Ent := e32 F :: TGCC_24 F
theorem FGCC_25 (F : Nat) : Fits2 Try.prog (tD (TGCC_25 F)) (tS (TGCC_25 F)) := fits_cons (o32 (FGCC_24 F) ⟨fun _ r h => p72 h, rfl, fun _ r h => p77 h, rfl, fun _ _ r h => p78 h, rfl⟩) (FGCC_24 F) (.inl rfl)
def TGCC_26 (F : Nat) : List Ent := e105 F :: TGCC_25 F
theorem FGCC_26 (F : Nat) : Fits2 Try.prog (tD (TGCC_26 F)) (tS (TGCC_26 F)) := fits_cons (o105 (FGCC_25 F) ⟨⟩) (FGCC_25 F) (.inl rfl)
def TGCC_27 (F : Nat) : List Ent := e180 F :: TGCC_26 F
theorem FGCC_27 (F : Nat) : Fits2 Try.prog (tD (TGCC_27 F)) (tS (TGCC_27 F)) := fits_cons (o180 (FGCC_26 F) ⟨⟩) (FGCC_26 F) (.inl rfl)
def TGCC_28 (F : Nat) : List Ent := e153 F :: TGCC_27 F
theorem FGCC_28 (F : Nat) : Fits2 Try.prog (tD (TGCC_28 F)) (tS (TGCC_28 F)) := fits_cons (o153 (FGCC_27 F) ⟨fun _ r h => p180 h, rfl⟩) (FGCC_27 F) (.inl rfl)
def TGCC_29 (F : Nat) : List Ent := e94 F :: TGCC_28 F
theorem FGCC_29 (F : Nat) : Fits2 Try.prog (tD (TGCC_29 F)) (tS (TGCC_29 F)) := fits_cons (o94 (FGCC_28 F) ⟨fun _ _ r h => p153 h, rfl⟩) (FGCC_28 F) (.inl rfl)
def TGCC_30 (F : Nat) : List Ent := e63 F :: TGCC_29 F
theorem FGCC_30 (F : Nat) : Fits2 Try.prog (tD (TGCC_30 F)) (tS (TGCC_30 F)) := fits_cons (o63 (FGCC_29 F) ⟨fun _ _ _ r h => p105 h, rfl, fun _ _ r h => p94 h, rfl⟩) (FGCC_29 F) (.inl rfl)
def TGCC_31 (F : Nat) : List Ent := e65 F :: TGCC_30 F
theorem FGCC_31 (F : Nat) : Fits2 Try.prog (tD (TGCC_31 F)) (tS (TGCC_31 F)) := fits_cons (o65 (FGCC_30 F) ⟨⟩) (FGCC_30 F) (.inl rfl)
def TGCC_32 (F : Nat) : List Ent := e113 F :: TGCC_31 F
theorem FGCC_32 (F : Nat) : Fits2 Try.prog (tD (TGCC_32 F)) (tS (TGCC_32 F)) := fits_cons (o113 (FGCC_31 F) ⟨⟩) (FGCC_31 F) (.inl rfl)
def TGCC_33 (F : Nat) : List Ent := e175 F :: TGCC_32 F
theorem FGCC_33 (F : Nat) : Fits2 Try.prog (tD (TGCC_33 F)) (tS (TGCC_33 F)) := fits_cons (o175 (FGCC_32 F) ⟨⟩) (FGCC_32 F) (.inl rfl)
def TGCC_34 (F : Nat) : List Ent := e142 F :: TGCC_33 F
theorem FGCC_34 (F : Nat) : Fits2 Try.prog (tD (TGCC_34 F)) (tS (TGCC_34 F)) := fits_cons (o142 (FGCC_33 F) ⟨fun _ _ r h => p175 h, rfl⟩) (FGCC_33 F) (.inl rfl)
def TGCC_35 (F : Nat) : List Ent := e83 F :: TGCC_34 F
theorem FGCC_35 (F : Nat) : Fits2 Try.prog (tD (TGCC_35 F)) (tS (TGCC_35 F)) := fits_cons (o83 (FGCC_34 F) ⟨⟩) (FGCC_34 F) (.inl rfl)
def TGCC_36 (F : Nat) : List Ent := e143 F :: TGCC_35 F
theorem FGCC_36 (F : Nat) : Fits2 Try.prog (tD (TGCC_36 F)) (tS (TGCC_36 F)) := fits_cons (o143 (FGCC_35 F) ⟨fun _ r h => p83 h, rfl⟩) (FGCC_35 F) (.inl rfl)
def TGCC_37 (F : Nat) : List Ent := e111 F :: TGCC_36 F
theorem FGCC_37 (F : Nat) : Fits2 Try.prog (tD (TGCC_37 F)) (tS (TGCC_37 F)) := fits_cons (o111 (FGCC_36 F) ⟨fun _ r h => p113 h, rfl, fun _ _ r h => p142 h, rfl, fun _ _ _ r h => p143 h, rfl⟩) (FGCC_36 F) (.inl rfl)
def TGCC_38 (F : Nat) : List Ent := e127 F :: TGCC_37 F
theorem FGCC_38 (F : Nat) : Fits2 Try.prog (tD (TGCC_38 F)) (tS (TGCC_38 F)) := fits_cons (o127 (FGCC_37 F) ⟨⟩) (FGCC_37 F) (.inl rfl)
def TGCC_39 (F : Nat) : List Ent := e141 F F :: TGCC_38 F
theorem QGCC_39 (F : Nat) : ∀ k, Fits2 Try.prog (tD (e141 F k :: TGCC_38 F)) (tS (e141 F k :: TGCC_38 F))
  | 0 => fits_cons z141 (FGCC_38 F) (.inl rfl)
  | k + 1 => fits_cons (o141 (QGCC_39 F k) fun _ _ => ⟨fun _ _ r h => p142 h, rfl, fun _ _ _ r h => p143 h, rfl, fun _ _ _ _ h => p141 (k := k) h, rfl⟩) (FGCC_38 F) (.inl rfl)
theorem FGCC_39 (F : Nat) : Fits2 Try.prog (tD (TGCC_39 F)) (tS (TGCC_39 F)) := QGCC_39 F F
def TGCC_40 (F : Nat) : List Ent := e79 F :: TGCC_39 F
theorem FGCC_40 (F : Nat) : Fits2 Try.prog (tD (TGCC_40 F)) (tS (TGCC_40 F)) := fits_cons (o79 (FGCC_39 F) ⟨fun _ r h => p111 h, rfl, fun _ r h => p127 h, rfl, fun _ r h => p113 h, rfl, fun _ _ _ _ _ _ h => p141 (k := F) h, rfl⟩) (FGCC_39 F) (.inl rfl)
def TGCC_41 (F : Nat) : List Ent := e177 F :: TGCC_40 F
theorem FGCC_41 (F : Nat) : Fits2 Try.prog (tD (TGCC_41 F)) (tS (TGCC_41 F)) := fits_cons (o177 (FGCC_40 F) ⟨⟩) (FGCC_40 F) (.inl rfl)
def TGCC_42 (F : Nat) : List Ent := e144 F :: TGCC_41 F
theorem FGCC_42 (F : Nat) : Fits2 Try.prog (tD (TGCC_42 F)) (tS (TGCC_42 F)) := fits_cons (o144 (FGCC_41 F) ⟨fun _ _ r h => p177 h, rfl⟩) (FGCC_41 F) (.inl rfl)
def TGCC_43 (F : Nat) : List Ent := e80o F :: TGCC_42 F
theorem FGCC_43 (F : Nat) : Fits2 Try.prog (tD (TGCC_43 F)) (tS (TGCC_43 F)) := fits_cons (o80o (FGCC_42 F) ⟨fun _ _ r h => p144 h, rfl⟩) (FGCC_42 F) (.inl rfl)
def TGCC_44 (F : Nat) : List Ent := e33o F :: TGCC_43 F
theorem FGCC_44 (F : Nat) : Fits2 Try.prog (tD (TGCC_44 F)) (tS (TGCC_44 F)) := fits_cons (o33o (FGCC_43 F) ⟨fun _ r h => p63 h, rfl, fun _ r h => p65 h, rfl, fun _ r h => p79 h, rfl, fun _ _ r h => p80o h, rfl⟩) (FGCC_43 F) (.inl rfl)
def TGCC_45 (F : Nat) : List Ent := e21 F :: TGCC_44 F
theorem FGCC_45 (F : Nat) : Fits2 Try.prog (tD (TGCC_45 F)) (tS (TGCC_45 F)) := fits_cons (o21 (FGCC_44 F) ⟨⟩) (FGCC_44 F) (.inl rfl)
def TGCC_46 (F : Nat) : List Ent := e129 F :: TGCC_45 F
theorem FGCC_46 (F : Nat) : Fits2 Try.prog (tD (TGCC_46 F)) (tS (TGCC_46 F)) := fits_cons (o129 (FGCC_45 F) ⟨⟩) (FGCC_45 F) (.inl rfl)
def TGCC_47 (F : Nat) : List Ent := e68 F :: TGCC_46 F
theorem FGCC_47 (F : Nat) : Fits2 Try.prog (tD (TGCC_47 F)) (tS (TGCC_47 F)) := fits_cons (o68 (FGCC_46 F) ⟨fun _ _ r h => p129 h, rfl⟩) (FGCC_46 F) (.inl rfl)
def TGCC_48 (F : Nat) : List Ent := e20 F :: TGCC_47 F
theorem FGCC_48 (F : Nat) : Fits2 Try.prog (tD (TGCC_48 F)) (tS (TGCC_48 F)) := fits_cons (o20 (FGCC_47 F) ⟨fun _ _ r h => p68 h, rfl⟩) (FGCC_47 F) (.inl rfl)
def TGCC_49 (F : Nat) : List Ent := e62o F :: TGCC_48 F
theorem FGCC_49 (F : Nat) : Fits2 Try.prog (tD (TGCC_49 F)) (tS (TGCC_49 F)) := fits_cons (o62o (FGCC_48 F) ⟨fun _ r h => p123 h, rfl⟩) (FGCC_48 F) (.inl rfl)
def TGCC_50 (F : Nat) : List Ent := e17o F :: TGCC_49 F
theorem FGCC_50 (F : Nat) : Fits2 Try.prog (tD (TGCC_50 F)) (tS (TGCC_50 F)) := fits_cons (o17o (FGCC_49 F) ⟨fun _ r h => p62o h, rfl⟩) (FGCC_49 F) (.inl rfl)
def TGCC_51 (F : Nat) : List Ent := e69 F :: TGCC_50 F
theorem FGCC_51 (F : Nat) : Fits2 Try.prog (tD (TGCC_51 F)) (tS (TGCC_51 F)) := fits_cons (o69 (FGCC_50 F) ⟨⟩) (FGCC_50 F) (.inl rfl)
def TGCC_52 (F : Nat) : List Ent := e22 F :: TGCC_51 F
theorem FGCC_52 (F : Nat) : Fits2 Try.prog (tD (TGCC_52 F)) (tS (TGCC_52 F)) := fits_cons (o22 (FGCC_51 F) ⟨fun _ _ r h => p69 h, rfl⟩) (FGCC_51 F) (.inl rfl)
def TGCC_53 (F : Nat) : List Ent := e23 F :: TGCC_52 F
theorem FGCC_53 (F : Nat) : Fits2 Try.prog (tD (TGCC_53 F)) (tS (TGCC_53 F)) := fits_cons (o23 (FGCC_52 F) ⟨⟩) (FGCC_52 F) (.inl rfl)
def TGCC_54 (F : Nat) : List Ent := e31 F :: TGCC_53 F
theorem FGCC_54 (F : Nat) : Fits2 Try.prog (tD (TGCC_54 F)) (tS (TGCC_54 F)) := fits_cons (o31 (FGCC_53 F) ⟨⟩) (FGCC_53 F) (.inl rfl)
def TGCC_55 (F : Nat) : List Ent := e5 F :: TGCC_54 F
theorem FGCC_55 (F : Nat) : Fits2 Try.prog (tD (TGCC_55 F)) (tS (TGCC_55 F)) := fits_cons (o5 (FGCC_54 F) ⟨fun _ _ r h => p15 h, rfl, fun _ r h => p17 h, rfl, fun _ r h => p32 h, rfl, fun _ r h => p17o h, rfl, fun _ r h => p33o h, rfl, fun _ _ r h => p21 h, rfl, fun _ _ r h => p20 h, rfl, fun _ _ r h => p22 h, rfl, fun _ _ r h => p23 h, rfl, fun _ _ r h => p31 h, rfl⟩) (FGCC_54 F) (.inl rfl)
theorem law5 (F : Nat) (x0 : (Int × (List (Int × Int)))) (h : w_FnExactRankingOf F x0 = some true) : Contract Try.prog 5 0 false [Enc.enc x0] (.bool true) := contract_plain ((FGCC_55 F).con 5 _ _ 0 false (p5 h) rfl) rfl rfl
end Go.Zq
