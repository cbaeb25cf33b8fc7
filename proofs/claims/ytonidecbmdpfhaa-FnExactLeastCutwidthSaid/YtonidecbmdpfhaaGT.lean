/- The table of the functions' contracts. No further condition. -/
import Derived.Test.YtonidecbmdpfhaaK3
import Derived.Test.YtonidecbmdpfhaaProg
import Derived.Test.YtonidecbmdpfhaaChecked
import Derived.KernelRfl
import Derived.Test.YtonidecbmdpfhaaG3
set_option linter.unusedVariables false
set_option linter.unusedSimpArgs false
/- Functions of the program, as typed functions, and that the machine runs as they say. -/
namespace Go.Zq
open Go.Proofs
def TGSc_0 (F : Nat) : List Ent := e47 F :: []
theorem FGSc_0 (F : Nat) : Fits2 Try.prog (tD (TGSc_0 F)) (tS (TGSc_0 F)) := fits_cons (o47 (fits_nil) ⟨⟩) (fits_nil) (.inl rfl)
def TGSc_1 (F : Nat) : List Ent := e15 F :: TGSc_0 F
theorem FGSc_1 (F : Nat) : Fits2 Try.prog (tD (TGSc_1 F)) (tS (TGSc_1 F)) := fits_cons (o15 (FGSc_0 F) ⟨fun _ _ r h => p47 h, rfl⟩) (FGSc_0 F) (.inl rfl)
def TGSc_2 (F : Nat) : List Ent := e99 F :: TGSc_1 F
theorem FGSc_2 (F : Nat) : Fits2 Try.prog (tD (TGSc_2 F)) (tS (TGSc_2 F)) := fits_cons (o99 (FGSc_1 F) ⟨⟩) (FGSc_1 F) (.inl rfl)
def TGSc_3 (F : Nat) : List Ent := e50 F :: TGSc_2 F
theorem FGSc_3 (F : Nat) : Fits2 Try.prog (tD (TGSc_3 F)) (tS (TGSc_3 F)) := fits_cons (o50 (FGSc_2 F) ⟨fun _ r h => p99 h, rfl⟩) (FGSc_2 F) (.inl rfl)
def TGSc_4 (F : Nat) : List Ent := e17 F :: TGSc_3 F
theorem FGSc_4 (F : Nat) : Fits2 Try.prog (tD (TGSc_4 F)) (tS (TGSc_4 F)) := fits_cons (o17 (FGSc_3 F) ⟨fun _ r h => p50 h, rfl⟩) (FGSc_3 F) (.inl rfl)
def TGSc_5 (F : Nat) : List Ent := e95 F :: TGSc_4 F
theorem FGSc_5 (F : Nat) : Fits2 Try.prog (tD (TGSc_5 F)) (tS (TGSc_5 F)) := fits_cons (o95 (FGSc_4 F) ⟨⟩) (FGSc_4 F) (.inl rfl)
def TGSc_6 (F : Nat) : List Ent := e96 F :: TGSc_5 F
theorem FGSc_6 (F : Nat) : Fits2 Try.prog (tD (TGSc_6 F)) (tS (TGSc_6 F)) := fits_cons (o96 (FGSc_5 F) ⟨⟩) (FGSc_5 F) (.inl rfl)
def TGSc_7 (F : Nat) : List Ent := e48 F :: TGSc_6 F
theorem FGSc_7 (F : Nat) : Fits2 Try.prog (tD (TGSc_7 F)) (tS (TGSc_7 F)) := fits_cons (o48 (FGSc_6 F) ⟨fun _ _ _ r h => p95 h, rfl, fun _ _ r h => p96 h, rfl⟩) (FGSc_6 F) (.inl rfl)
def TGSc_8 (F : Nat) : List Ent := e56 F :: TGSc_7 F
theorem FGSc_8 (F : Nat) : Fits2 Try.prog (tD (TGSc_8 F)) (tS (TGSc_8 F)) := fits_cons (o56 (FGSc_7 F) ⟨⟩) (FGSc_7 F) (.inl rfl)
def TGSc_9 (F : Nat) : List Ent := e68 F :: TGSc_8 F
theorem FGSc_9 (F : Nat) : Fits2 Try.prog (tD (TGSc_9 F)) (tS (TGSc_9 F)) := fits_cons (o68 (FGSc_8 F) ⟨⟩) (FGSc_8 F) (.inl rfl)
def TGSc_10 (F : Nat) : List Ent := e86 F :: TGSc_9 F
theorem FGSc_10 (F : Nat) : Fits2 Try.prog (tD (TGSc_10 F)) (tS (TGSc_10 F)) := fits_cons (o86 (FGSc_9 F) ⟨fun _ _ r h => p68 h, rfl⟩) (FGSc_9 F) (.inl rfl)
def TGSc_11 (F : Nat) : List Ent := e66 F :: TGSc_10 F
theorem FGSc_11 (F : Nat) : Fits2 Try.prog (tD (TGSc_11 F)) (tS (TGSc_11 F)) := fits_cons (o66 (FGSc_10 F) ⟨⟩) (FGSc_10 F) (.inl rfl)
def TGSc_12 (F : Nat) : List Ent := e85 F :: TGSc_11 F
theorem FGSc_12 (F : Nat) : Fits2 Try.prog (tD (TGSc_12 F)) (tS (TGSc_12 F)) := fits_cons (o85 (FGSc_11 F) ⟨fun _ _ r h => p56 h, rfl, fun _ _ r h => p86 h, rfl, fun _ _ r h => p66 h, rfl⟩) (FGSc_11 F) (.inl rfl)
def TGSc_13 (F : Nat) : List Ent := e41 F :: TGSc_12 F
theorem FGSc_13 (F : Nat) : Fits2 Try.prog (tD (TGSc_13 F)) (tS (TGSc_13 F)) := fits_cons (o41 (FGSc_12 F) ⟨fun _ r h => p48 h, rfl, fun _ r h => p85 h, rfl, fun _ _ r h => p56 h, rfl, fun _ _ r h => p86 h, rfl⟩) (FGSc_12 F) (.inl rfl)
def TGSc_14 (F : Nat) : List Ent := e100 F :: TGSc_13 F
theorem FGSc_14 (F : Nat) : Fits2 Try.prog (tD (TGSc_14 F)) (tS (TGSc_14 F)) := fits_cons (o100 (FGSc_13 F) ⟨⟩) (FGSc_13 F) (.inl rfl)
def TGSc_15 (F : Nat) : List Ent := e126 F :: TGSc_14 F
theorem FGSc_15 (F : Nat) : Fits2 Try.prog (tD (TGSc_15 F)) (tS (TGSc_15 F)) := fits_cons (o126 (FGSc_14 F) ⟨⟩) (FGSc_14 F) (.inl rfl)
def TGSc_16 (F : Nat) : List Ent := e123 F :: TGSc_15 F
theorem FGSc_16 (F : Nat) : Fits2 Try.prog (tD (TGSc_16 F)) (tS (TGSc_16 F)) := fits_cons (o123 (FGSc_15 F) ⟨fun _ r h => p126 h, rfl⟩) (FGSc_15 F) (.inl rfl)
def TGSc_17 (F : Nat) : List Ent := e101 F :: TGSc_16 F
theorem FGSc_17 (F : Nat) : Fits2 Try.prog (tD (TGSc_17 F)) (tS (TGSc_17 F)) := fits_cons (o101 (FGSc_16 F) ⟨fun _ _ r h => p123 h, rfl⟩) (FGSc_16 F) (.inl rfl)
def TGSc_18 (F : Nat) : List Ent := e51 F :: TGSc_17 F
theorem FGSc_18 (F : Nat) : Fits2 Try.prog (tD (TGSc_18 F)) (tS (TGSc_18 F)) := fits_cons (o51 (FGSc_17 F) ⟨fun _ _ _ r h => p100 h, rfl, fun _ _ r h => p101 h, rfl⟩) (FGSc_17 F) (.inl rfl)
def TGSc_19 (F : Nat) : List Ent := e52 F :: TGSc_18 F
theorem FGSc_19 (F : Nat) : Fits2 Try.prog (tD (TGSc_19 F)) (tS (TGSc_19 F)) := fits_cons (o52 (FGSc_18 F) ⟨⟩) (FGSc_18 F) (.inl rfl)
def TGSc_20 (F : Nat) : List Ent := e59 F :: TGSc_19 F
theorem FGSc_20 (F : Nat) : Fits2 Try.prog (tD (TGSc_20 F)) (tS (TGSc_20 F)) := fits_cons (o59 (FGSc_19 F) ⟨⟩) (FGSc_19 F) (.inl rfl)
def TGSc_21 (F : Nat) : List Ent := e60 F :: TGSc_20 F
theorem FGSc_21 (F : Nat) : Fits2 Try.prog (tD (TGSc_21 F)) (tS (TGSc_21 F)) := fits_cons (o60 (FGSc_20 F) ⟨⟩) (FGSc_20 F) (.inl rfl)
def TGSc_22 (F : Nat) : List Ent := e109 F :: TGSc_21 F
theorem FGSc_22 (F : Nat) : Fits2 Try.prog (tD (TGSc_22 F)) (tS (TGSc_22 F)) := fits_cons (o109 (FGSc_21 F) ⟨⟩) (FGSc_21 F) (.inl rfl)
def TGSc_23 (F : Nat) : List Ent := e67 F :: TGSc_22 F
theorem FGSc_23 (F : Nat) : Fits2 Try.prog (tD (TGSc_23 F)) (tS (TGSc_23 F)) := fits_cons (o67 (FGSc_22 F) ⟨fun _ r h => p109 h, rfl⟩) (FGSc_22 F) (.inl rfl)
def TGSc_24 (F : Nat) : List Ent := e88 F :: TGSc_23 F
theorem FGSc_24 (F : Nat) : Fits2 Try.prog (tD (TGSc_24 F)) (tS (TGSc_24 F)) := fits_cons (o88 (FGSc_23 F) ⟨fun _ r h => p60 h, rfl, fun _ r h => p67 h, rfl⟩) (FGSc_23 F) (.inl rfl)
def TGSc_25 (F : Nat) : List Ent := e87s1 F :: TGSc_24 F
theorem FGSc_25 (F : Nat) : Fits2 Try.prog (tD (TGSc_25 F)) (tS (TGSc_25 F)) := fits_cons (o87s1 (FGSc_24 F) ⟨fun _ r h => p59 h, rfl, fun _ r h => p60 h, rfl, fun _ _ _ r h => p88 h, rfl⟩) (FGSc_24 F) (.inl rfl)
def TGSc_26 (F : Nat) : List Ent := e89s1 F :: TGSc_25 F
theorem FGSc_26 (F : Nat) : Fits2 Try.prog (tD (TGSc_26 F)) (tS (TGSc_26 F)) := fits_cons (o89s1 (FGSc_25 F) ⟨fun _ r h => p59 h, rfl, fun _ r h => p60 h, rfl, fun _ _ _ r h => p88 h, rfl⟩) (FGSc_25 F) (.inl rfl)
def TGSc_27 (F : Nat) : List Ent := e89s2o F :: TGSc_26 F
theorem FGSc_27 (F : Nat) : Fits2 Try.prog (tD (TGSc_27 F)) (tS (TGSc_27 F)) := fits_cons (o89s2o (FGSc_26 F) ⟨fun _ r h => p59 h, rfl, fun _ r h => p60 h, rfl, fun _ _ _ r h => p88 h, rfl⟩) (FGSc_26 F) (.inl rfl)
def TGSc_28 (F : Nat) : List Ent := e42o F :: TGSc_27 F
theorem FGSc_28 (F : Nat) : Fits2 Try.prog (tD (TGSc_28 F)) (tS (TGSc_28 F)) := fits_cons (o42o (FGSc_27 F) ⟨fun _ r h => p51 h, rfl, fun _ r h => p52 h, rfl, fun _ _ _ r h => p87s1 h, rfl, fun _ _ _ r h => p89s2o h, rfl⟩) (FGSc_27 F) (.inl rfl)
def TGSc_29 (F : Nat) : List Ent := e19 F :: TGSc_28 F
theorem FGSc_29 (F : Nat) : Fits2 Try.prog (tD (TGSc_29 F)) (tS (TGSc_29 F)) := fits_cons (o19 (FGSc_28 F) ⟨⟩) (FGSc_28 F) (.inl rfl)
def TGSc_30 (F : Nat) : List Ent := e103 F :: TGSc_29 F
theorem FGSc_30 (F : Nat) : Fits2 Try.prog (tD (TGSc_30 F)) (tS (TGSc_30 F)) := fits_cons (o103 (FGSc_29 F) ⟨⟩) (FGSc_29 F) (.inl rfl)
def TGSc_31 (F : Nat) : List Ent := e54 F :: TGSc_30 F
theorem FGSc_31 (F : Nat) : Fits2 Try.prog (tD (TGSc_31 F)) (tS (TGSc_31 F)) := fits_cons (o54 (FGSc_30 F) ⟨fun _ _ r h => p103 h, rfl⟩) (FGSc_30 F) (.inl rfl)
def TGSc_32 (F : Nat) : List Ent := e20 F :: TGSc_31 F
theorem FGSc_32 (F : Nat) : Fits2 Try.prog (tD (TGSc_32 F)) (tS (TGSc_32 F)) := fits_cons (o20 (FGSc_31 F) ⟨fun _ _ r h => p54 h, rfl⟩) (FGSc_31 F) (.inl rfl)
def TGSc_33 (F : Nat) : List Ent := e50o F :: TGSc_32 F
theorem FGSc_33 (F : Nat) : Fits2 Try.prog (tD (TGSc_33 F)) (tS (TGSc_33 F)) := fits_cons (o50o (FGSc_32 F) ⟨fun _ r h => p99 h, rfl⟩) (FGSc_32 F) (.inl rfl)
def TGSc_34 (F : Nat) : List Ent := e17o F :: TGSc_33 F
theorem FGSc_34 (F : Nat) : Fits2 Try.prog (tD (TGSc_34 F)) (tS (TGSc_34 F)) := fits_cons (o17o (FGSc_33 F) ⟨fun _ r h => p50o h, rfl⟩) (FGSc_33 F) (.inl rfl)
def TGSc_35 (F : Nat) : List Ent := e55 F :: TGSc_34 F
theorem FGSc_35 (F : Nat) : Fits2 Try.prog (tD (TGSc_35 F)) (tS (TGSc_35 F)) := fits_cons (o55 (FGSc_34 F) ⟨⟩) (FGSc_34 F) (.inl rfl)
def TGSc_36 (F : Nat) : List Ent := e21 F :: TGSc_35 F
theorem FGSc_36 (F : Nat) : Fits2 Try.prog (tD (TGSc_36 F)) (tS (TGSc_36 F)) := fits_cons (o21 (FGSc_35 F) ⟨fun _ _ r h => p55 h, rfl⟩) (FGSc_35 F) (.inl rfl)
def TGSc_37 (F : Nat) : List Ent := e22 F :: TGSc_36 F
theorem FGSc_37 (F : Nat) : Fits2 Try.prog (tD (TGSc_37 F)) (tS (TGSc_37 F)) := fits_cons (o22 (FGSc_36 F) ⟨⟩) (FGSc_36 F) (.inl rfl)
def TGSc_38 (F : Nat) : List Ent := e23 F :: TGSc_37 F
theorem FGSc_38 (F : Nat) : Fits2 Try.prog (tD (TGSc_38 F)) (tS (TGSc_38 F)) := fits_cons (o23 (FGSc_37 F) ⟨⟩) (FGSc_37 F) (.inl rfl)
def TGSc_39 (F : Nat) : List Ent := e12 F :: TGSc_38 F
theorem FGSc_39 (F : Nat) : Fits2 Try.prog (tD (TGSc_39 F)) (tS (TGSc_39 F)) := fits_cons (o12 (FGSc_38 F) ⟨fun _ _ r h => p15 h, rfl, fun _ r h => p17 h, rfl, fun _ r h => p41 h, rfl, fun _ r h => p17o h, rfl, fun _ r h => p42o h, rfl, fun _ _ r h => p19 h, rfl, fun _ _ r h => p20 h, rfl, fun _ _ r h => p21 h, rfl, fun _ _ r h => p22 h, rfl, fun _ _ r h => p23 h, rfl⟩) (FGSc_38 F) (.inl rfl)
theorem law12 (F : Nat) (x0 : (Int × (List (Int × Int)))) (h : w_FnExactLeastCutwidth F x0 = some true) : Contract Try.prog 12 0 false [Enc.enc x0] (.bool true) := contract_plain ((FGSc_39 F).con 12 _ _ 0 false (p12 h) rfl) rfl rfl
end Go.Zq
