/- The table of the functions' contracts. No further condition. -/
import Derived.Test.YtonidecbmdpfhaaK3
import Derived.Test.YtonidecbmdpfhaaProg
import Derived.Test.YtonidecbmdpfhaaChecked
import Derived.KernelRfl
import Derived.Test.YtonidecbmdpfhaaG3
set_option linter.unusedVariables false
set_option linter.unusedSimpArgs false
/- Functions of the program, as typed functions, and that the machine runs as they say. -/
namespace Go.Zq
open Go.Proofs
def TGSb_0 (F : Nat) : List Ent := e47 F :: []
theorem FGSb_0 (F : Nat) : Fits2 Try.prog (tD (TGSb_0 F)) (tS (TGSb_0 F)) := fits_cons (o47 (fits_nil) ⟨⟩) (fits_nil) (.inl rfl)
def TGSb_1 (F : Nat) : List Ent := e15 F :: TGSb_0 F
theorem FGSb_1 (F : Nat) : Fits2 Try.prog (tD (TGSb_1 F)) (tS (TGSb_1 F)) := fits_cons (o15 (FGSb_0 F) ⟨fun _ _ r h => p47 h, rfl⟩) (FGSb_0 F) (.inl rfl)
def TGSb_2 (F : Nat) : List Ent := e99 F :: TGSb_1 F
theorem FGSb_2 (F : Nat) : Fits2 Try.prog (tD (TGSb_2 F)) (tS (TGSb_2 F)) := fits_cons (o99 (FGSb_1 F) ⟨⟩) (FGSb_1 F) (.inl rfl)
def TGSb_3 (F : Nat) : List Ent := e50 F :: TGSb_2 F
theorem FGSb_3 (F : Nat) : Fits2 Try.prog (tD (TGSb_3 F)) (tS (TGSb_3 F)) := fits_cons (o50 (FGSb_2 F) ⟨fun _ r h => p99 h, rfl⟩) (FGSb_2 F) (.inl rfl)
def TGSb_4 (F : Nat) : List Ent := e17 F :: TGSb_3 F
theorem FGSb_4 (F : Nat) : Fits2 Try.prog (tD (TGSb_4 F)) (tS (TGSb_4 F)) := fits_cons (o17 (FGSb_3 F) ⟨fun _ r h => p50 h, rfl⟩) (FGSb_3 F) (.inl rfl)
def TGSb_5 (F : Nat) : List Ent := e95 F :: TGSb_4 F
theorem FGSb_5 (F : Nat) : Fits2 Try.prog (tD (TGSb_5 F)) (tS (TGSb_5 F)) := fits_cons (o95 (FGSb_4 F) ⟨⟩) (FGSb_4 F) (.inl rfl)
def TGSb_6 (F : Nat) : List Ent := e96 F :: TGSb_5 F
theorem FGSb_6 (F : Nat) : Fits2 Try.prog (tD (TGSb_6 F)) (tS (TGSb_6 F)) := fits_cons (o96 (FGSb_5 F) ⟨⟩) (FGSb_5 F) (.inl rfl)
def TGSb_7 (F : Nat) : List Ent := e48 F :: TGSb_6 F
theorem FGSb_7 (F : Nat) : Fits2 Try.prog (tD (TGSb_7 F)) (tS (TGSb_7 F)) := fits_cons (o48 (FGSb_6 F) ⟨fun _ _ _ r h => p95 h, rfl, fun _ _ r h => p96 h, rfl⟩) (FGSb_6 F) (.inl rfl)
def TGSb_8 (F : Nat) : List Ent := e56 F :: TGSb_7 F
theorem FGSb_8 (F : Nat) : Fits2 Try.prog (tD (TGSb_8 F)) (tS (TGSb_8 F)) := fits_cons (o56 (FGSb_7 F) ⟨⟩) (FGSb_7 F) (.inl rfl)
def TGSb_9 (F : Nat) : List Ent := e97 F :: TGSb_8 F
theorem FGSb_9 (F : Nat) : Fits2 Try.prog (tD (TGSb_9 F)) (tS (TGSb_9 F)) := fits_cons (o97 (FGSb_8 F) ⟨⟩) (FGSb_8 F) (.inl rfl)
def TGSb_10 (F : Nat) : List Ent := e65 F :: TGSb_9 F
theorem FGSb_10 (F : Nat) : Fits2 Try.prog (tD (TGSb_10 F)) (tS (TGSb_10 F)) := fits_cons (o65 (FGSb_9 F) ⟨fun _ _ _ r h => p97 h, rfl⟩) (FGSb_9 F) (.inl rfl)
def TGSb_11 (F : Nat) : List Ent := e107 F :: TGSb_10 F
theorem FGSb_11 (F : Nat) : Fits2 Try.prog (tD (TGSb_11 F)) (tS (TGSb_11 F)) := fits_cons (o107 (FGSb_10 F) ⟨fun _ _ _ r h => p97 h, rfl⟩) (FGSb_10 F) (.inl rfl)
def TGSb_12 (F : Nat) : List Ent := e68 F :: TGSb_11 F
theorem FGSb_12 (F : Nat) : Fits2 Try.prog (tD (TGSb_12 F)) (tS (TGSb_12 F)) := fits_cons (o68 (FGSb_11 F) ⟨⟩) (FGSb_11 F) (.inl rfl)
def TGSb_13 (F : Nat) : List Ent := e64 F :: TGSb_12 F
theorem FGSb_13 (F : Nat) : Fits2 Try.prog (tD (TGSb_13 F)) (tS (TGSb_13 F)) := fits_cons (o64 (FGSb_12 F) ⟨fun _ _ r h => p107 h, rfl, fun _ _ r h => p68 h, rfl⟩) (FGSb_12 F) (.inl rfl)
def TGSb_14 (F : Nat) : List Ent := e63 F :: TGSb_13 F
theorem FGSb_14 (F : Nat) : Fits2 Try.prog (tD (TGSb_14 F)) (tS (TGSb_14 F)) := fits_cons (o63 (FGSb_13 F) ⟨⟩) (FGSb_13 F) (.inl rfl)
def TGSb_15 (F : Nat) : List Ent := e66 F :: TGSb_14 F
theorem FGSb_15 (F : Nat) : Fits2 Try.prog (tD (TGSb_15 F)) (tS (TGSb_15 F)) := fits_cons (o66 (FGSb_14 F) ⟨⟩) (FGSb_14 F) (.inl rfl)
def TGSb_16 (F : Nat) : List Ent := e26 F :: TGSb_15 F
theorem FGSb_16 (F : Nat) : Fits2 Try.prog (tD (TGSb_16 F)) (tS (TGSb_16 F)) := fits_cons (o26 (FGSb_15 F) ⟨fun _ r h => p48 h, rfl, fun _ _ r h => p56 h, rfl, fun _ _ r h => p65 h, rfl, fun _ _ _ r h => p64 h, rfl, fun _ _ r h => p63 h, rfl, fun _ _ r h => p66 h, rfl⟩) (FGSb_15 F) (.inl rfl)
def TGSb_17 (F : Nat) : List Ent := e100 F :: TGSb_16 F
theorem FGSb_17 (F : Nat) : Fits2 Try.prog (tD (TGSb_17 F)) (tS (TGSb_17 F)) := fits_cons (o100 (FGSb_16 F) ⟨⟩) (FGSb_16 F) (.inl rfl)
def TGSb_18 (F : Nat) : List Ent := e126 F :: TGSb_17 F
theorem FGSb_18 (F : Nat) : Fits2 Try.prog (tD (TGSb_18 F)) (tS (TGSb_18 F)) := fits_cons (o126 (FGSb_17 F) ⟨⟩) (FGSb_17 F) (.inl rfl)
def TGSb_19 (F : Nat) : List Ent := e123 F :: TGSb_18 F
theorem FGSb_19 (F : Nat) : Fits2 Try.prog (tD (TGSb_19 F)) (tS (TGSb_19 F)) := fits_cons (o123 (FGSb_18 F) ⟨fun _ r h => p126 h, rfl⟩) (FGSb_18 F) (.inl rfl)
def TGSb_20 (F : Nat) : List Ent := e101 F :: TGSb_19 F
theorem FGSb_20 (F : Nat) : Fits2 Try.prog (tD (TGSb_20 F)) (tS (TGSb_20 F)) := fits_cons (o101 (FGSb_19 F) ⟨fun _ _ r h => p123 h, rfl⟩) (FGSb_19 F) (.inl rfl)
def TGSb_21 (F : Nat) : List Ent := e51 F :: TGSb_20 F
theorem FGSb_21 (F : Nat) : Fits2 Try.prog (tD (TGSb_21 F)) (tS (TGSb_21 F)) := fits_cons (o51 (FGSb_20 F) ⟨fun _ _ _ r h => p100 h, rfl, fun _ _ r h => p101 h, rfl⟩) (FGSb_20 F) (.inl rfl)
def TGSb_22 (F : Nat) : List Ent := e52 F :: TGSb_21 F
theorem FGSb_22 (F : Nat) : Fits2 Try.prog (tD (TGSb_22 F)) (tS (TGSb_22 F)) := fits_cons (o52 (FGSb_21 F) ⟨⟩) (FGSb_21 F) (.inl rfl)
def TGSb_23 (F : Nat) : List Ent := e59 F :: TGSb_22 F
theorem FGSb_23 (F : Nat) : Fits2 Try.prog (tD (TGSb_23 F)) (tS (TGSb_23 F)) := fits_cons (o59 (FGSb_22 F) ⟨⟩) (FGSb_22 F) (.inl rfl)
def TGSb_24 (F : Nat) : List Ent := e60 F :: TGSb_23 F
theorem FGSb_24 (F : Nat) : Fits2 Try.prog (tD (TGSb_24 F)) (tS (TGSb_24 F)) := fits_cons (o60 (FGSb_23 F) ⟨⟩) (FGSb_23 F) (.inl rfl)
def TGSb_25 (F : Nat) : List Ent := e109 F :: TGSb_24 F
theorem FGSb_25 (F : Nat) : Fits2 Try.prog (tD (TGSb_25 F)) (tS (TGSb_25 F)) := fits_cons (o109 (FGSb_24 F) ⟨⟩) (FGSb_24 F) (.inl rfl)
def TGSb_26 (F : Nat) : List Ent := e67 F :: TGSb_25 F
theorem FGSb_26 (F : Nat) : Fits2 Try.prog (tD (TGSb_26 F)) (tS (TGSb_26 F)) := fits_cons (o67 (FGSb_25 F) ⟨fun _ r h => p109 h, rfl⟩) (FGSb_25 F) (.inl rfl)
def TGSb_27 (F : Nat) : List Ent := e27 F :: TGSb_26 F
theorem FGSb_27 (F : Nat) : Fits2 Try.prog (tD (TGSb_27 F)) (tS (TGSb_27 F)) := fits_cons (o27 (FGSb_26 F) ⟨fun _ r h => p51 h, rfl, fun _ r h => p52 h, rfl, fun _ r h => p59 h, rfl, fun _ r h => p60 h, rfl, fun _ r h => p67 h, rfl⟩) (FGSb_26 F) (.inl rfl)
def TGSb_28 (F : Nat) : List Ent := e103 F :: TGSb_27 F
theorem FGSb_28 (F : Nat) : Fits2 Try.prog (tD (TGSb_28 F)) (tS (TGSb_28 F)) := fits_cons (o103 (FGSb_27 F) ⟨⟩) (FGSb_27 F) (.inl rfl)
def TGSb_29 (F : Nat) : List Ent := e54 F :: TGSb_28 F
theorem FGSb_29 (F : Nat) : Fits2 Try.prog (tD (TGSb_29 F)) (tS (TGSb_29 F)) := fits_cons (o54 (FGSb_28 F) ⟨fun _ _ r h => p103 h, rfl⟩) (FGSb_28 F) (.inl rfl)
def TGSb_30 (F : Nat) : List Ent := e20 F :: TGSb_29 F
theorem FGSb_30 (F : Nat) : Fits2 Try.prog (tD (TGSb_30 F)) (tS (TGSb_30 F)) := fits_cons (o20 (FGSb_29 F) ⟨fun _ _ r h => p54 h, rfl⟩) (FGSb_29 F) (.inl rfl)
def TGSb_31 (F : Nat) : List Ent := e5 F :: TGSb_30 F
theorem FGSb_31 (F : Nat) : Fits2 Try.prog (tD (TGSb_31 F)) (tS (TGSb_31 F)) := fits_cons (o5 (FGSb_30 F) ⟨fun _ _ r h => p15 h, rfl, fun _ r h => p17 h, rfl, fun _ r h => p26 h, rfl, fun _ r h => p27 h, rfl, fun _ _ r h => p20 h, rfl⟩) (FGSb_30 F) (.inl rfl)
theorem law5 (F : Nat) (x0 : (Int × (List (Int × Int)))) (h : w_FnExactDegeneracyOf F x0 = some true) : Contract Try.prog 5 0 false [Enc.enc x0] (.bool true) := contract_plain ((FGSb_31 F).con 5 _ _ 0 false (p5 h) rfl) rfl rfl
end Go.Zq
