/- The table of the functions' contracts. No further condition. -/
import Derived.Test.YtonidecbmdpfhaaK3
import Derived.Test.YtonidecbmdpfhaaProg
import Derived.Test.YtonidecbmdpfhaaChecked
import Derived.KernelRfl
import Derived.Test.YtonidecbmdpfhaaG3
set_option linter.unusedVariables false
set_option linter.unusedSimpArgs false
/- Functions of the program, as typed functions, and that the machine runs as they say. -/
namespace Go.Zq
open Go.Proofs
def TGQ6_0 (F : Nat) : List Ent := e47 F :: []
theorem FGQ6_0 (F : Nat) : Fits2 Try.prog (tD (TGQ6_0 F)) (tS (TGQ6_0 F)) := fits_cons (o47 (fits_nil) ⟨⟩) (fits_nil) (.inl rfl)
def TGQ6_1 (F : Nat) : List Ent := e15 F :: TGQ6_0 F
theorem FGQ6_1 (F : Nat) : Fits2 Try.prog (tD (TGQ6_1 F)) (tS (TGQ6_1 F)) := fits_cons (o15 (FGQ6_0 F) ⟨fun _ _ r h => p47 h, rfl⟩) (FGQ6_0 F) (.inl rfl)
def TGQ6_2 (F : Nat) : List Ent := e99 F :: TGQ6_1 F
theorem FGQ6_2 (F : Nat) : Fits2 Try.prog (tD (TGQ6_2 F)) (tS (TGQ6_2 F)) := fits_cons (o99 (FGQ6_1 F) ⟨⟩) (FGQ6_1 F) (.inl rfl)
def TGQ6_3 (F : Nat) : List Ent := e50 F :: TGQ6_2 F
theorem FGQ6_3 (F : Nat) : Fits2 Try.prog (tD (TGQ6_3 F)) (tS (TGQ6_3 F)) := fits_cons (o50 (FGQ6_2 F) ⟨fun _ r h => p99 h, rfl⟩) (FGQ6_2 F) (.inl rfl)
def TGQ6_4 (F : Nat) : List Ent := e17 F :: TGQ6_3 F
theorem FGQ6_4 (F : Nat) : Fits2 Try.prog (tD (TGQ6_4 F)) (tS (TGQ6_4 F)) := fits_cons (o17 (FGQ6_3 F) ⟨fun _ r h => p50 h, rfl⟩) (FGQ6_3 F) (.inl rfl)
def TGQ6_5 (F : Nat) : List Ent := e95 F :: TGQ6_4 F
theorem FGQ6_5 (F : Nat) : Fits2 Try.prog (tD (TGQ6_5 F)) (tS (TGQ6_5 F)) := fits_cons (o95 (FGQ6_4 F) ⟨⟩) (FGQ6_4 F) (.inl rfl)
def TGQ6_6 (F : Nat) : List Ent := e96 F :: TGQ6_5 F
theorem FGQ6_6 (F : Nat) : Fits2 Try.prog (tD (TGQ6_6 F)) (tS (TGQ6_6 F)) := fits_cons (o96 (FGQ6_5 F) ⟨⟩) (FGQ6_5 F) (.inl rfl)
def TGQ6_7 (F : Nat) : List Ent := e48 F :: TGQ6_6 F
theorem FGQ6_7 (F : Nat) : Fits2 Try.prog (tD (TGQ6_7 F)) (tS (TGQ6_7 F)) := fits_cons (o48 (FGQ6_6 F) ⟨fun _ _ _ r h => p95 h, rfl, fun _ _ r h => p96 h, rfl⟩) (FGQ6_6 F) (.inl rfl)
def TGQ6_8 (F : Nat) : List Ent := e68 F :: TGQ6_7 F
theorem FGQ6_8 (F : Nat) : Fits2 Try.prog (tD (TGQ6_8 F)) (tS (TGQ6_8 F)) := fits_cons (o68 (FGQ6_7 F) ⟨⟩) (FGQ6_7 F) (.inl rfl)
def TGQ6_9 (F : Nat) : List Ent := e97 F :: TGQ6_8 F
theorem FGQ6_9 (F : Nat) : Fits2 Try.prog (tD (TGQ6_9 F)) (tS (TGQ6_9 F)) := fits_cons (o97 (FGQ6_8 F) ⟨⟩) (FGQ6_8 F) (.inl rfl)
def TGQ6_10 (F : Nat) : List Ent := e107 F :: TGQ6_9 F
theorem FGQ6_10 (F : Nat) : Fits2 Try.prog (tD (TGQ6_10 F)) (tS (TGQ6_10 F)) := fits_cons (o107 (FGQ6_9 F) ⟨fun _ _ _ r h => p97 h, rfl⟩) (FGQ6_9 F) (.inl rfl)
def TGQ6_11 (F : Nat) : List Ent := e64 F :: TGQ6_10 F
theorem FGQ6_11 (F : Nat) : Fits2 Try.prog (tD (TGQ6_11 F)) (tS (TGQ6_11 F)) := fits_cons (o64 (FGQ6_10 F) ⟨fun _ _ r h => p107 h, rfl, fun _ _ r h => p68 h, rfl⟩) (FGQ6_10 F) (.inl rfl)
def TGQ6_12 (F : Nat) : List Ent := e57 F :: TGQ6_11 F
theorem FGQ6_12 (F : Nat) : Fits2 Try.prog (tD (TGQ6_12 F)) (tS (TGQ6_12 F)) := fits_cons (o57 (FGQ6_11 F) ⟨fun _ _ _ r h => p97 h, rfl⟩) (FGQ6_11 F) (.inl rfl)
def TGQ6_13 (F : Nat) : List Ent := e28 F :: TGQ6_12 F
theorem FGQ6_13 (F : Nat) : Fits2 Try.prog (tD (TGQ6_13 F)) (tS (TGQ6_13 F)) := fits_cons (o28 (FGQ6_12 F) ⟨fun _ r h => p48 h, rfl, fun _ _ r h => p68 h, rfl, fun _ _ _ r h => p64 h, rfl, fun _ _ r h => p57 h, rfl⟩) (FGQ6_12 F) (.inl rfl)
def TGQ6_14 (F : Nat) : List Ent := e100 F :: TGQ6_13 F
theorem FGQ6_14 (F : Nat) : Fits2 Try.prog (tD (TGQ6_14 F)) (tS (TGQ6_14 F)) := fits_cons (o100 (FGQ6_13 F) ⟨⟩) (FGQ6_13 F) (.inl rfl)
def TGQ6_15 (F : Nat) : List Ent := e126 F :: TGQ6_14 F
theorem FGQ6_15 (F : Nat) : Fits2 Try.prog (tD (TGQ6_15 F)) (tS (TGQ6_15 F)) := fits_cons (o126 (FGQ6_14 F) ⟨⟩) (FGQ6_14 F) (.inl rfl)
def TGQ6_16 (F : Nat) : List Ent := e123 F :: TGQ6_15 F
theorem FGQ6_16 (F : Nat) : Fits2 Try.prog (tD (TGQ6_16 F)) (tS (TGQ6_16 F)) := fits_cons (o123 (FGQ6_15 F) ⟨fun _ r h => p126 h, rfl⟩) (FGQ6_15 F) (.inl rfl)
def TGQ6_17 (F : Nat) : List Ent := e101 F :: TGQ6_16 F
theorem FGQ6_17 (F : Nat) : Fits2 Try.prog (tD (TGQ6_17 F)) (tS (TGQ6_17 F)) := fits_cons (o101 (FGQ6_16 F) ⟨fun _ _ r h => p123 h, rfl⟩) (FGQ6_16 F) (.inl rfl)
def TGQ6_18 (F : Nat) : List Ent := e51 F :: TGQ6_17 F
theorem FGQ6_18 (F : Nat) : Fits2 Try.prog (tD (TGQ6_18 F)) (tS (TGQ6_18 F)) := fits_cons (o51 (FGQ6_17 F) ⟨fun _ _ _ r h => p100 h, rfl, fun _ _ r h => p101 h, rfl⟩) (FGQ6_17 F) (.inl rfl)
def TGQ6_19 (F : Nat) : List Ent := e52 F :: TGQ6_18 F
theorem FGQ6_19 (F : Nat) : Fits2 Try.prog (tD (TGQ6_19 F)) (tS (TGQ6_19 F)) := fits_cons (o52 (FGQ6_18 F) ⟨⟩) (FGQ6_18 F) (.inl rfl)
def TGQ6_20 (F : Nat) : List Ent := e59 F :: TGQ6_19 F
theorem FGQ6_20 (F : Nat) : Fits2 Try.prog (tD (TGQ6_20 F)) (tS (TGQ6_20 F)) := fits_cons (o59 (FGQ6_19 F) ⟨⟩) (FGQ6_19 F) (.inl rfl)
def TGQ6_21 (F : Nat) : List Ent := e60 F :: TGQ6_20 F
theorem FGQ6_21 (F : Nat) : Fits2 Try.prog (tD (TGQ6_21 F)) (tS (TGQ6_21 F)) := fits_cons (o60 (FGQ6_20 F) ⟨⟩) (FGQ6_20 F) (.inl rfl)
def TGQ6_22 (F : Nat) : List Ent := e106 F :: TGQ6_21 F
theorem FGQ6_22 (F : Nat) : Fits2 Try.prog (tD (TGQ6_22 F)) (tS (TGQ6_22 F)) := fits_cons (o106 (FGQ6_21 F) ⟨⟩) (FGQ6_21 F) (.inl rfl)
def TGQ6_23 (F : Nat) : List Ent := e105 F :: TGQ6_22 F
theorem FGQ6_23 (F : Nat) : Fits2 Try.prog (tD (TGQ6_23 F)) (tS (TGQ6_23 F)) := fits_cons (o105 (FGQ6_22 F) ⟨fun _ _ r h => p106 h, rfl⟩) (FGQ6_22 F) (.inl rfl)
def TGQ6_24 (F : Nat) : List Ent := e69s2 F :: TGQ6_23 F
theorem FGQ6_24 (F : Nat) : Fits2 Try.prog (tD (TGQ6_24 F)) (tS (TGQ6_24 F)) := fits_cons (o69s2 (FGQ6_23 F) ⟨fun _ _ _ r h => p105 h, rfl⟩) (FGQ6_23 F) (.inl rfl)
def TGQ6_25 (F : Nat) : List Ent := e104s1 F :: TGQ6_24 F
theorem FGQ6_25 (F : Nat) : Fits2 Try.prog (tD (TGQ6_25 F)) (tS (TGQ6_25 F)) := fits_cons (o104s1 (FGQ6_24 F) ⟨fun _ _ r h => p69s2 h, rfl⟩) (FGQ6_24 F) (.inl rfl)
def TGQ6_26 (F : Nat) : List Ent := e61 F :: TGQ6_25 F
theorem FGQ6_26 (F : Nat) : Fits2 Try.prog (tD (TGQ6_26 F)) (tS (TGQ6_26 F)) := fits_cons (o61 (FGQ6_25 F) ⟨fun _ r h => p60 h, rfl, fun _ _ r h => p104s1 h, rfl⟩) (FGQ6_25 F) (.inl rfl)
def TGQ6_27 (F : Nat) : List Ent := e70 F :: TGQ6_26 F
theorem FGQ6_27 (F : Nat) : Fits2 Try.prog (tD (TGQ6_27 F)) (tS (TGQ6_27 F)) := fits_cons (o70 (FGQ6_26 F) ⟨fun _ _ r h => p61 h, rfl⟩) (FGQ6_26 F) (.inl rfl)
def TGQ6_28 (F : Nat) : List Ent := e69s1 F :: TGQ6_27 F
theorem FGQ6_28 (F : Nat) : Fits2 Try.prog (tD (TGQ6_28 F)) (tS (TGQ6_28 F)) := fits_cons (o69s1 (FGQ6_27 F) ⟨fun _ _ _ r h => p70 h, rfl⟩) (FGQ6_27 F) (.inr rfl)
def TGQ6_29 (F : Nat) : List Ent := e29o F :: TGQ6_28 F
theorem FGQ6_29 (F : Nat) : Fits2 Try.prog (tD (TGQ6_29 F)) (tS (TGQ6_29 F)) := fits_cons (o29o (FGQ6_28 F) ⟨fun _ r h => p51 h, rfl, fun _ r h => p52 h, rfl, fun _ r h => p59 h, rfl, fun _ r h => p60 h, rfl, fun _ _ r h => p69s1 h, rfl⟩) (FGQ6_28 F) (.inl rfl)
def TGQ6_30 (F : Nat) : List Ent := e19 F :: TGQ6_29 F
theorem FGQ6_30 (F : Nat) : Fits2 Try.prog (tD (TGQ6_30 F)) (tS (TGQ6_30 F)) := fits_cons (o19 (FGQ6_29 F) ⟨⟩) (FGQ6_29 F) (.inl rfl)
def TGQ6_31 (F : Nat) : List Ent := e103 F :: TGQ6_30 F
theorem FGQ6_31 (F : Nat) : Fits2 Try.prog (tD (TGQ6_31 F)) (tS (TGQ6_31 F)) := fits_cons (o103 (FGQ6_30 F) ⟨⟩) (FGQ6_30 F) (.inl rfl)
def TGQ6_32 (F : Nat) : List Ent := e54 F :: TGQ6_31 F
theorem FGQ6_32 (F : Nat) : Fits2 Try.prog (tD (TGQ6_32 F)) (tS (TGQ6_32 F)) := fits_cons (o54 (FGQ6_31 F) ⟨fun _ _ r h => p103 h, rfl⟩) (FGQ6_31 F) (.inl rfl)
def TGQ6_33 (F : Nat) : List Ent := e20 F :: TGQ6_32 F
theorem FGQ6_33 (F : Nat) : Fits2 Try.prog (tD (TGQ6_33 F)) (tS (TGQ6_33 F)) := fits_cons (o20 (FGQ6_32 F) ⟨fun _ _ r h => p54 h, rfl⟩) (FGQ6_32 F) (.inl rfl)
def TGQ6_34 (F : Nat) : List Ent := e50o F :: TGQ6_33 F
theorem FGQ6_34 (F : Nat) : Fits2 Try.prog (tD (TGQ6_34 F)) (tS (TGQ6_34 F)) := fits_cons (o50o (FGQ6_33 F) ⟨fun _ r h => p99 h, rfl⟩) (FGQ6_33 F) (.inl rfl)
def TGQ6_35 (F : Nat) : List Ent := e17o F :: TGQ6_34 F
theorem FGQ6_35 (F : Nat) : Fits2 Try.prog (tD (TGQ6_35 F)) (tS (TGQ6_35 F)) := fits_cons (o17o (FGQ6_34 F) ⟨fun _ r h => p50o h, rfl⟩) (FGQ6_34 F) (.inl rfl)
def TGQ6_36 (F : Nat) : List Ent := e55 F :: TGQ6_35 F
theorem FGQ6_36 (F : Nat) : Fits2 Try.prog (tD (TGQ6_36 F)) (tS (TGQ6_36 F)) := fits_cons (o55 (FGQ6_35 F) ⟨⟩) (FGQ6_35 F) (.inl rfl)
def TGQ6_37 (F : Nat) : List Ent := e21 F :: TGQ6_36 F
theorem FGQ6_37 (F : Nat) : Fits2 Try.prog (tD (TGQ6_37 F)) (tS (TGQ6_37 F)) := fits_cons (o21 (FGQ6_36 F) ⟨fun _ _ r h => p55 h, rfl⟩) (FGQ6_36 F) (.inl rfl)
def TGQ6_38 (F : Nat) : List Ent := e22 F :: TGQ6_37 F
theorem FGQ6_38 (F : Nat) : Fits2 Try.prog (tD (TGQ6_38 F)) (tS (TGQ6_38 F)) := fits_cons (o22 (FGQ6_37 F) ⟨⟩) (FGQ6_37 F) (.inl rfl)
def TGQ6_39 (F : Nat) : List Ent := e23 F :: TGQ6_38 F
theorem FGQ6_39 (F : Nat) : Fits2 Try.prog (tD (TGQ6_39 F)) (tS (TGQ6_39 F)) := fits_cons (o23 (FGQ6_38 F) ⟨⟩) (FGQ6_38 F) (.inl rfl)
def TGQ6_40 (F : Nat) : List Ent := e6 F :: TGQ6_39 F
theorem FGQ6_40 (F : Nat) : Fits2 Try.prog (tD (TGQ6_40 F)) (tS (TGQ6_40 F)) := fits_cons (o6 (FGQ6_39 F) ⟨fun _ _ r h => p15 h, rfl, fun _ r h => p17 h, rfl, fun _ r h => p28 h, rfl, fun _ r h => p17o h, rfl, fun _ r h => p29o h, rfl, fun _ _ r h => p19 h, rfl, fun _ _ r h => p20 h, rfl, fun _ _ r h => p21 h, rfl, fun _ _ r h => p22 h, rfl, fun _ _ r h => p23 h, rfl⟩) (FGQ6_39 F) (.inl rfl)
theorem law6 (F : Nat) (x0 : (Int × (List (Int × Int)))) (h : w_FnExactPerfectElimination F x0 = some true) : Contract Try.prog 6 0 false [Enc.enc x0] (.bool true) := contract_plain ((FGQ6_40 F).con 6 _ _ 0 false (p6 h) rfl) rfl rfl
end Go.Zq
