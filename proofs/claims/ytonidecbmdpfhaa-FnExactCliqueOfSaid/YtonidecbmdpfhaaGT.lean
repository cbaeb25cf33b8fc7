/- The table of the functions' contracts. No further condition. -/
import Derived.Test.YtonidecbmdpfhaaK3
import Derived.Test.YtonidecbmdpfhaaProg
import Derived.Test.YtonidecbmdpfhaaChecked
import Derived.KernelRfl
import Derived.Test.YtonidecbmdpfhaaG3
set_option linter.unusedVariables false
set_option linter.unusedSimpArgs false
/- Functions of the program, as typed functions, and that the machine runs as they say. -/
namespace Go.Zq
open Go.Proofs
def TGSa_0 (F : Nat) : List Ent := e47 F :: []
theorem FGSa_0 (F : Nat) : Fits2 Try.prog (tD (TGSa_0 F)) (tS (TGSa_0 F)) := fits_cons (o47 (fits_nil) ⟨⟩) (fits_nil) (.inl rfl)
def TGSa_1 (F : Nat) : List Ent := e15 F :: TGSa_0 F
theorem FGSa_1 (F : Nat) : Fits2 Try.prog (tD (TGSa_1 F)) (tS (TGSa_1 F)) := fits_cons (o15 (FGSa_0 F) ⟨fun _ _ r h => p47 h, rfl⟩) (FGSa_0 F) (.inl rfl)
def TGSa_2 (F : Nat) : List Ent := e99 F :: TGSa_1 F
theorem FGSa_2 (F : Nat) : Fits2 Try.prog (tD (TGSa_2 F)) (tS (TGSa_2 F)) := fits_cons (o99 (FGSa_1 F) ⟨⟩) (FGSa_1 F) (.inl rfl)
def TGSa_3 (F : Nat) : List Ent := e50 F :: TGSa_2 F
theorem FGSa_3 (F : Nat) : Fits2 Try.prog (tD (TGSa_3 F)) (tS (TGSa_3 F)) := fits_cons (o50 (FGSa_2 F) ⟨fun _ r h => p99 h, rfl⟩) (FGSa_2 F) (.inl rfl)
def TGSa_4 (F : Nat) : List Ent := e17 F :: TGSa_3 F
theorem FGSa_4 (F : Nat) : Fits2 Try.prog (tD (TGSa_4 F)) (tS (TGSa_4 F)) := fits_cons (o17 (FGSa_3 F) ⟨fun _ r h => p50 h, rfl⟩) (FGSa_3 F) (.inl rfl)
def TGSa_5 (F : Nat) : List Ent := e95 F :: TGSa_4 F
theorem FGSa_5 (F : Nat) : Fits2 Try.prog (tD (TGSa_5 F)) (tS (TGSa_5 F)) := fits_cons (o95 (FGSa_4 F) ⟨⟩) (FGSa_4 F) (.inl rfl)
def TGSa_6 (F : Nat) : List Ent := e96 F :: TGSa_5 F
theorem FGSa_6 (F : Nat) : Fits2 Try.prog (tD (TGSa_6 F)) (tS (TGSa_6 F)) := fits_cons (o96 (FGSa_5 F) ⟨⟩) (FGSa_5 F) (.inl rfl)
def TGSa_7 (F : Nat) : List Ent := e48 F :: TGSa_6 F
theorem FGSa_7 (F : Nat) : Fits2 Try.prog (tD (TGSa_7 F)) (tS (TGSa_7 F)) := fits_cons (o48 (FGSa_6 F) ⟨fun _ _ _ r h => p95 h, rfl, fun _ _ r h => p96 h, rfl⟩) (FGSa_6 F) (.inl rfl)
def TGSa_8 (F : Nat) : List Ent := e56 F :: TGSa_7 F
theorem FGSa_8 (F : Nat) : Fits2 Try.prog (tD (TGSa_8 F)) (tS (TGSa_8 F)) := fits_cons (o56 (FGSa_7 F) ⟨⟩) (FGSa_7 F) (.inl rfl)
def TGSa_9 (F : Nat) : List Ent := e97 F :: TGSa_8 F
theorem FGSa_9 (F : Nat) : Fits2 Try.prog (tD (TGSa_9 F)) (tS (TGSa_9 F)) := fits_cons (o97 (FGSa_8 F) ⟨⟩) (FGSa_8 F) (.inl rfl)
def TGSa_10 (F : Nat) : List Ent := e57 F :: TGSa_9 F
theorem FGSa_10 (F : Nat) : Fits2 Try.prog (tD (TGSa_10 F)) (tS (TGSa_10 F)) := fits_cons (o57 (FGSa_9 F) ⟨fun _ _ _ r h => p97 h, rfl⟩) (FGSa_9 F) (.inl rfl)
def TGSa_11 (F : Nat) : List Ent := e58 F :: TGSa_10 F
theorem FGSa_11 (F : Nat) : Fits2 Try.prog (tD (TGSa_11 F)) (tS (TGSa_11 F)) := fits_cons (o58 (FGSa_10 F) ⟨⟩) (FGSa_10 F) (.inl rfl)
def TGSa_12 (F : Nat) : List Ent := e24 F :: TGSa_11 F
theorem FGSa_12 (F : Nat) : Fits2 Try.prog (tD (TGSa_12 F)) (tS (TGSa_12 F)) := fits_cons (o24 (FGSa_11 F) ⟨fun _ r h => p48 h, rfl, fun _ _ r h => p56 h, rfl, fun _ _ r h => p57 h, rfl, fun _ _ r h => p58 h, rfl⟩) (FGSa_11 F) (.inl rfl)
def TGSa_13 (F : Nat) : List Ent := e100 F :: TGSa_12 F
theorem FGSa_13 (F : Nat) : Fits2 Try.prog (tD (TGSa_13 F)) (tS (TGSa_13 F)) := fits_cons (o100 (FGSa_12 F) ⟨⟩) (FGSa_12 F) (.inl rfl)
def TGSa_14 (F : Nat) : List Ent := e126 F :: TGSa_13 F
theorem FGSa_14 (F : Nat) : Fits2 Try.prog (tD (TGSa_14 F)) (tS (TGSa_14 F)) := fits_cons (o126 (FGSa_13 F) ⟨⟩) (FGSa_13 F) (.inl rfl)
def TGSa_15 (F : Nat) : List Ent := e123 F :: TGSa_14 F
theorem FGSa_15 (F : Nat) : Fits2 Try.prog (tD (TGSa_15 F)) (tS (TGSa_15 F)) := fits_cons (o123 (FGSa_14 F) ⟨fun _ r h => p126 h, rfl⟩) (FGSa_14 F) (.inl rfl)
def TGSa_16 (F : Nat) : List Ent := e101 F :: TGSa_15 F
theorem FGSa_16 (F : Nat) : Fits2 Try.prog (tD (TGSa_16 F)) (tS (TGSa_16 F)) := fits_cons (o101 (FGSa_15 F) ⟨fun _ _ r h => p123 h, rfl⟩) (FGSa_15 F) (.inl rfl)
def TGSa_17 (F : Nat) : List Ent := e51 F :: TGSa_16 F
theorem FGSa_17 (F : Nat) : Fits2 Try.prog (tD (TGSa_17 F)) (tS (TGSa_17 F)) := fits_cons (o51 (FGSa_16 F) ⟨fun _ _ _ r h => p100 h, rfl, fun _ _ r h => p101 h, rfl⟩) (FGSa_16 F) (.inl rfl)
def TGSa_18 (F : Nat) : List Ent := e52 F :: TGSa_17 F
theorem FGSa_18 (F : Nat) : Fits2 Try.prog (tD (TGSa_18 F)) (tS (TGSa_18 F)) := fits_cons (o52 (FGSa_17 F) ⟨⟩) (FGSa_17 F) (.inl rfl)
def TGSa_19 (F : Nat) : List Ent := e59 F :: TGSa_18 F
theorem FGSa_19 (F : Nat) : Fits2 Try.prog (tD (TGSa_19 F)) (tS (TGSa_19 F)) := fits_cons (o59 (FGSa_18 F) ⟨⟩) (FGSa_18 F) (.inl rfl)
def TGSa_20 (F : Nat) : List Ent := e60 F :: TGSa_19 F
theorem FGSa_20 (F : Nat) : Fits2 Try.prog (tD (TGSa_20 F)) (tS (TGSa_20 F)) := fits_cons (o60 (FGSa_19 F) ⟨⟩) (FGSa_19 F) (.inl rfl)
def TGSa_21 (F : Nat) : List Ent := e106 F :: TGSa_20 F
theorem FGSa_21 (F : Nat) : Fits2 Try.prog (tD (TGSa_21 F)) (tS (TGSa_21 F)) := fits_cons (o106 (FGSa_20 F) ⟨⟩) (FGSa_20 F) (.inl rfl)
def TGSa_22 (F : Nat) : List Ent := e105 F :: TGSa_21 F
theorem FGSa_22 (F : Nat) : Fits2 Try.prog (tD (TGSa_22 F)) (tS (TGSa_22 F)) := fits_cons (o105 (FGSa_21 F) ⟨fun _ _ r h => p106 h, rfl⟩) (FGSa_21 F) (.inl rfl)
def TGSa_23 (F : Nat) : List Ent := e69s1 F :: TGSa_22 F
theorem FGSa_23 (F : Nat) : Fits2 Try.prog (tD (TGSa_23 F)) (tS (TGSa_23 F)) := fits_cons (o69s1 (FGSa_22 F) ⟨fun _ _ _ r h => p105 h, rfl⟩) (FGSa_22 F) (.inl rfl)
def TGSa_24 (F : Nat) : List Ent := e104s1 F :: TGSa_23 F
theorem FGSa_24 (F : Nat) : Fits2 Try.prog (tD (TGSa_24 F)) (tS (TGSa_24 F)) := fits_cons (o104s1 (FGSa_23 F) ⟨fun _ _ r h => p69s1 h, rfl⟩) (FGSa_23 F) (.inl rfl)
def TGSa_25 (F : Nat) : List Ent := e61 F :: TGSa_24 F
theorem FGSa_25 (F : Nat) : Fits2 Try.prog (tD (TGSa_25 F)) (tS (TGSa_25 F)) := fits_cons (o61 (FGSa_24 F) ⟨fun _ r h => p60 h, rfl, fun _ _ r h => p104s1 h, rfl⟩) (FGSa_24 F) (.inl rfl)
def TGSa_26 (F : Nat) : List Ent := e62 F :: TGSa_25 F
theorem FGSa_26 (F : Nat) : Fits2 Try.prog (tD (TGSa_26 F)) (tS (TGSa_26 F)) := fits_cons (o62 (FGSa_25 F) ⟨fun _ _ r h => p101 h, rfl⟩) (FGSa_25 F) (.inl rfl)
def TGSa_27 (F : Nat) : List Ent := e60o F :: TGSa_26 F
theorem FGSa_27 (F : Nat) : Fits2 Try.prog (tD (TGSa_27 F)) (tS (TGSa_27 F)) := fits_cons (o60o (FGSa_26 F) ⟨⟩) (FGSa_26 F) (.inl rfl)
def TGSa_28 (F : Nat) : List Ent := e25o F :: TGSa_27 F
theorem FGSa_28 (F : Nat) : Fits2 Try.prog (tD (TGSa_28 F)) (tS (TGSa_28 F)) := fits_cons (o25o (FGSa_27 F) ⟨fun _ r h => p51 h, rfl, fun _ r h => p52 h, rfl, fun _ r h => p59 h, rfl, fun _ r h => p60o h, rfl, fun _ _ r h => p61 h, rfl, fun _ _ r h => p62 h, rfl⟩) (FGSa_27 F) (.inl rfl)
def TGSa_29 (F : Nat) : List Ent := e19 F :: TGSa_28 F
theorem FGSa_29 (F : Nat) : Fits2 Try.prog (tD (TGSa_29 F)) (tS (TGSa_29 F)) := fits_cons (o19 (FGSa_28 F) ⟨⟩) (FGSa_28 F) (.inl rfl)
def TGSa_30 (F : Nat) : List Ent := e103 F :: TGSa_29 F
theorem FGSa_30 (F : Nat) : Fits2 Try.prog (tD (TGSa_30 F)) (tS (TGSa_30 F)) := fits_cons (o103 (FGSa_29 F) ⟨⟩) (FGSa_29 F) (.inl rfl)
def TGSa_31 (F : Nat) : List Ent := e54 F :: TGSa_30 F
theorem FGSa_31 (F : Nat) : Fits2 Try.prog (tD (TGSa_31 F)) (tS (TGSa_31 F)) := fits_cons (o54 (FGSa_30 F) ⟨fun _ _ r h => p103 h, rfl⟩) (FGSa_30 F) (.inl rfl)
def TGSa_32 (F : Nat) : List Ent := e20 F :: TGSa_31 F
theorem FGSa_32 (F : Nat) : Fits2 Try.prog (tD (TGSa_32 F)) (tS (TGSa_32 F)) := fits_cons (o20 (FGSa_31 F) ⟨fun _ _ r h => p54 h, rfl⟩) (FGSa_31 F) (.inl rfl)
def TGSa_33 (F : Nat) : List Ent := e50o F :: TGSa_32 F
theorem FGSa_33 (F : Nat) : Fits2 Try.prog (tD (TGSa_33 F)) (tS (TGSa_33 F)) := fits_cons (o50o (FGSa_32 F) ⟨fun _ r h => p99 h, rfl⟩) (FGSa_32 F) (.inl rfl)
def TGSa_34 (F : Nat) : List Ent := e17o F :: TGSa_33 F
theorem FGSa_34 (F : Nat) : Fits2 Try.prog (tD (TGSa_34 F)) (tS (TGSa_34 F)) := fits_cons (o17o (FGSa_33 F) ⟨fun _ r h => p50o h, rfl⟩) (FGSa_33 F) (.inl rfl)
def TGSa_35 (F : Nat) : List Ent := e55 F :: TGSa_34 F
theorem FGSa_35 (F : Nat) : Fits2 Try.prog (tD (TGSa_35 F)) (tS (TGSa_35 F)) := fits_cons (o55 (FGSa_34 F) ⟨⟩) (FGSa_34 F) (.inl rfl)
def TGSa_36 (F : Nat) : List Ent := e21 F :: TGSa_35 F
theorem FGSa_36 (F : Nat) : Fits2 Try.prog (tD (TGSa_36 F)) (tS (TGSa_36 F)) := fits_cons (o21 (FGSa_35 F) ⟨fun _ _ r h => p55 h, rfl⟩) (FGSa_35 F) (.inl rfl)
def TGSa_37 (F : Nat) : List Ent := e22 F :: TGSa_36 F
theorem FGSa_37 (F : Nat) : Fits2 Try.prog (tD (TGSa_37 F)) (tS (TGSa_37 F)) := fits_cons (o22 (FGSa_36 F) ⟨⟩) (FGSa_36 F) (.inl rfl)
def TGSa_38 (F : Nat) : List Ent := e23 F :: TGSa_37 F
theorem FGSa_38 (F : Nat) : Fits2 Try.prog (tD (TGSa_38 F)) (tS (TGSa_38 F)) := fits_cons (o23 (FGSa_37 F) ⟨⟩) (FGSa_37 F) (.inl rfl)
def TGSa_39 (F : Nat) : List Ent := e4 F :: TGSa_38 F
theorem FGSa_39 (F : Nat) : Fits2 Try.prog (tD (TGSa_39 F)) (tS (TGSa_39 F)) := fits_cons (o4 (FGSa_38 F) ⟨fun _ _ r h => p15 h, rfl, fun _ r h => p17 h, rfl, fun _ r h => p24 h, rfl, fun _ r h => p17o h, rfl, fun _ r h => p25o h, rfl, fun _ _ r h => p19 h, rfl, fun _ _ r h => p20 h, rfl, fun _ _ r h => p21 h, rfl, fun _ _ r h => p22 h, rfl, fun _ _ r h => p23 h, rfl⟩) (FGSa_38 F) (.inl rfl)
theorem law4 (F : Nat) (x0 : (Int × (List (Int × Int)))) (h : w_FnExactCliqueOf F x0 = some true) : Contract Try.prog 4 0 false [Enc.enc x0] (.bool true) := contract_plain ((FGSa_39 F).con 4 _ _ 0 false (p4 h) rfl) rfl rfl
end Go.Zq
