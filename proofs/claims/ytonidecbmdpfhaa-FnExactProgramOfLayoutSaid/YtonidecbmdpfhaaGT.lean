/- The table of the functions' contracts. No further condition. -/
import Derived.Test.YtonidecbmdpfhaaK3
import Derived.Test.YtonidecbmdpfhaaProg
import Derived.Test.YtonidecbmdpfhaaChecked
import Derived.KernelRfl
import Derived.Test.YtonidecbmdpfhaaG4
set_option linter.unusedVariables false
set_option linter.unusedSimpArgs false
/- Functions of the program, as typed functions, and that the machine runs as they say. -/
namespace Go.Zq
open Go.Proofs
def TGQ8_0 (F : Nat) : List Ent := e47 F :: []
theorem FGQ8_0 (F : Nat) : Fits2 Try.prog (tD (TGQ8_0 F)) (tS (TGQ8_0 F)) := fits_cons (o47 (fits_nil) ⟨⟩) (fits_nil) (.inl rfl)
def TGQ8_1 (F : Nat) : List Ent := e15 F :: TGQ8_0 F
theorem FGQ8_1 (F : Nat) : Fits2 Try.prog (tD (TGQ8_1 F)) (tS (TGQ8_1 F)) := fits_cons (o15 (FGQ8_0 F) ⟨fun _ _ r h => p47 h, rfl⟩) (FGQ8_0 F) (.inl rfl)
def TGQ8_2 (F : Nat) : List Ent := e99 F :: TGQ8_1 F
theorem FGQ8_2 (F : Nat) : Fits2 Try.prog (tD (TGQ8_2 F)) (tS (TGQ8_2 F)) := fits_cons (o99 (FGQ8_1 F) ⟨⟩) (FGQ8_1 F) (.inl rfl)
def TGQ8_3 (F : Nat) : List Ent := e50 F :: TGQ8_2 F
theorem FGQ8_3 (F : Nat) : Fits2 Try.prog (tD (TGQ8_3 F)) (tS (TGQ8_3 F)) := fits_cons (o50 (FGQ8_2 F) ⟨fun _ r h => p99 h, rfl⟩) (FGQ8_2 F) (.inl rfl)
def TGQ8_4 (F : Nat) : List Ent := e17 F :: TGQ8_3 F
theorem FGQ8_4 (F : Nat) : Fits2 Try.prog (tD (TGQ8_4 F)) (tS (TGQ8_4 F)) := fits_cons (o17 (FGQ8_3 F) ⟨fun _ r h => p50 h, rfl⟩) (FGQ8_3 F) (.inl rfl)
def TGQ8_5 (F : Nat) : List Ent := e31 F :: TGQ8_4 F
theorem FGQ8_5 (F : Nat) : Fits2 Try.prog (tD (TGQ8_5 F)) (tS (TGQ8_5 F)) := fits_cons (o31 (FGQ8_4 F) ⟨⟩) (FGQ8_4 F) (.inl rfl)
def TGQ8_6 (F : Nat) : List Ent := e95 F :: TGQ8_5 F
theorem FGQ8_6 (F : Nat) : Fits2 Try.prog (tD (TGQ8_6 F)) (tS (TGQ8_6 F)) := fits_cons (o95 (FGQ8_5 F) ⟨⟩) (FGQ8_5 F) (.inl rfl)
def TGQ8_7 (F : Nat) : List Ent := e96 F :: TGQ8_6 F
theorem FGQ8_7 (F : Nat) : Fits2 Try.prog (tD (TGQ8_7 F)) (tS (TGQ8_7 F)) := fits_cons (o96 (FGQ8_6 F) ⟨⟩) (FGQ8_6 F) (.inl rfl)
def TGQ8_8 (F : Nat) : List Ent := e48 F :: TGQ8_7 F
theorem FGQ8_8 (F : Nat) : Fits2 Try.prog (tD (TGQ8_8 F)) (tS (TGQ8_8 F)) := fits_cons (o48 (FGQ8_7 F) ⟨fun _ _ _ r h => p95 h, rfl, fun _ _ r h => p96 h, rfl⟩) (FGQ8_7 F) (.inl rfl)
def TGQ8_9 (F : Nat) : List Ent := e68 F :: TGQ8_8 F
theorem FGQ8_9 (F : Nat) : Fits2 Try.prog (tD (TGQ8_9 F)) (tS (TGQ8_9 F)) := fits_cons (o68 (FGQ8_8 F) ⟨⟩) (FGQ8_8 F) (.inl rfl)
def TGQ8_10 (F : Nat) : List Ent := e113 F :: TGQ8_9 F
theorem FGQ8_10 (F : Nat) : Fits2 Try.prog (tD (TGQ8_10 F)) (tS (TGQ8_10 F)) := fits_cons (o113 (FGQ8_9 F) ⟨fun _ _ r h => p68 h, rfl⟩) (FGQ8_9 F) (.inl rfl)
def TGQ8_11 (F : Nat) : List Ent := e76 F :: TGQ8_10 F
theorem FGQ8_11 (F : Nat) : Fits2 Try.prog (tD (TGQ8_11 F)) (tS (TGQ8_11 F)) := fits_cons (o76 (FGQ8_10 F) ⟨fun _ _ r h => p113 h, rfl⟩) (FGQ8_10 F) (.inl rfl)
def TGQ8_12 (F : Nat) : List Ent := e77 F :: TGQ8_11 F
theorem FGQ8_12 (F : Nat) : Fits2 Try.prog (tD (TGQ8_12 F)) (tS (TGQ8_12 F)) := fits_cons (o77 (FGQ8_11 F) ⟨⟩) (FGQ8_11 F) (.inl rfl)
def TGQ8_13 (F : Nat) : List Ent := e97 F :: TGQ8_12 F
theorem FGQ8_13 (F : Nat) : Fits2 Try.prog (tD (TGQ8_13 F)) (tS (TGQ8_13 F)) := fits_cons (o97 (FGQ8_12 F) ⟨⟩) (FGQ8_12 F) (.inl rfl)
def TGQ8_14 (F : Nat) : List Ent := e72 F :: TGQ8_13 F
theorem FGQ8_14 (F : Nat) : Fits2 Try.prog (tD (TGQ8_14 F)) (tS (TGQ8_14 F)) := fits_cons (o72 (FGQ8_13 F) ⟨fun _ _ _ r h => p97 h, rfl, fun _ _ r h => p68 h, rfl, fun _ _ r h => p77 h, rfl⟩) (FGQ8_13 F) (.inl rfl)
def TGQ8_15 (F : Nat) : List Ent := e33 F :: TGQ8_14 F
theorem FGQ8_15 (F : Nat) : Fits2 Try.prog (tD (TGQ8_15 F)) (tS (TGQ8_15 F)) := fits_cons (o33 (FGQ8_14 F) ⟨fun _ r h => p48 h, rfl, fun _ _ r h => p76 h, rfl, fun _ _ r h => p77 h, rfl, fun _ _ r h => p72 h, rfl, fun _ _ r h => p68 h, rfl⟩) (FGQ8_14 F) (.inl rfl)
def TGQ8_16 (F : Nat) : List Ent := e100 F :: TGQ8_15 F
theorem FGQ8_16 (F : Nat) : Fits2 Try.prog (tD (TGQ8_16 F)) (tS (TGQ8_16 F)) := fits_cons (o100 (FGQ8_15 F) ⟨⟩) (FGQ8_15 F) (.inl rfl)
def TGQ8_17 (F : Nat) : List Ent := e126 F :: TGQ8_16 F
theorem FGQ8_17 (F : Nat) : Fits2 Try.prog (tD (TGQ8_17 F)) (tS (TGQ8_17 F)) := fits_cons (o126 (FGQ8_16 F) ⟨⟩) (FGQ8_16 F) (.inl rfl)
def TGQ8_18 (F : Nat) : List Ent := e123 F :: TGQ8_17 F
theorem FGQ8_18 (F : Nat) : Fits2 Try.prog (tD (TGQ8_18 F)) (tS (TGQ8_18 F)) := fits_cons (o123 (FGQ8_17 F) ⟨fun _ r h => p126 h, rfl⟩) (FGQ8_17 F) (.inl rfl)
def TGQ8_19 (F : Nat) : List Ent := e101 F :: TGQ8_18 F
theorem FGQ8_19 (F : Nat) : Fits2 Try.prog (tD (TGQ8_19 F)) (tS (TGQ8_19 F)) := fits_cons (o101 (FGQ8_18 F) ⟨fun _ _ r h => p123 h, rfl⟩) (FGQ8_18 F) (.inl rfl)
def TGQ8_20 (F : Nat) : List Ent := e51 F :: TGQ8_19 F
theorem FGQ8_20 (F : Nat) : Fits2 Try.prog (tD (TGQ8_20 F)) (tS (TGQ8_20 F)) := fits_cons (o51 (FGQ8_19 F) ⟨fun _ _ _ r h => p100 h, rfl, fun _ _ r h => p101 h, rfl⟩) (FGQ8_19 F) (.inl rfl)
def TGQ8_21 (F : Nat) : List Ent := e114 F :: TGQ8_20 F
theorem FGQ8_21 (F : Nat) : Fits2 Try.prog (tD (TGQ8_21 F)) (tS (TGQ8_21 F)) := fits_cons (o114 (FGQ8_20 F) ⟨fun _ _ _ r h => p100 h, rfl⟩) (FGQ8_20 F) (.inl rfl)
def TGQ8_22 (F : Nat) : List Ent := e75 F :: TGQ8_21 F
theorem FGQ8_22 (F : Nat) : Fits2 Try.prog (tD (TGQ8_22 F)) (tS (TGQ8_22 F)) := fits_cons (o75 (FGQ8_21 F) ⟨⟩) (FGQ8_21 F) (.inl rfl)
def TGQ8_23 (F : Nat) : List Ent := e78 F :: TGQ8_22 F
theorem FGQ8_23 (F : Nat) : Fits2 Try.prog (tD (TGQ8_23 F)) (tS (TGQ8_23 F)) := fits_cons (o78 (FGQ8_22 F) ⟨fun _ _ _ r h => p114 h, rfl, fun _ r h => p75 h, rfl⟩) (FGQ8_22 F) (.inl rfl)
def TGQ8_24 (F : Nat) : List Ent := e52 F :: TGQ8_23 F
theorem FGQ8_24 (F : Nat) : Fits2 Try.prog (tD (TGQ8_24 F)) (tS (TGQ8_24 F)) := fits_cons (o52 (FGQ8_23 F) ⟨⟩) (FGQ8_23 F) (.inl rfl)
def TGQ8_25 (F : Nat) : List Ent := e60 F :: TGQ8_24 F
theorem FGQ8_25 (F : Nat) : Fits2 Try.prog (tD (TGQ8_25 F)) (tS (TGQ8_25 F)) := fits_cons (o60 (FGQ8_24 F) ⟨⟩) (FGQ8_24 F) (.inl rfl)
def TGQ8_26 (F : Nat) : List Ent := e34o F :: TGQ8_25 F
theorem FGQ8_26 (F : Nat) : Fits2 Try.prog (tD (TGQ8_26 F)) (tS (TGQ8_26 F)) := fits_cons (o34o (FGQ8_25 F) ⟨fun _ r h => p51 h, rfl, fun _ _ r h => p78 h, rfl, fun _ r h => p52 h, rfl, fun _ r h => p60 h, rfl⟩) (FGQ8_25 F) (.inl rfl)
def TGQ8_27 (F : Nat) : List Ent := e19 F :: TGQ8_26 F
theorem FGQ8_27 (F : Nat) : Fits2 Try.prog (tD (TGQ8_27 F)) (tS (TGQ8_27 F)) := fits_cons (o19 (FGQ8_26 F) ⟨⟩) (FGQ8_26 F) (.inl rfl)
def TGQ8_28 (F : Nat) : List Ent := e103 F :: TGQ8_27 F
theorem FGQ8_28 (F : Nat) : Fits2 Try.prog (tD (TGQ8_28 F)) (tS (TGQ8_28 F)) := fits_cons (o103 (FGQ8_27 F) ⟨⟩) (FGQ8_27 F) (.inl rfl)
def TGQ8_29 (F : Nat) : List Ent := e54 F :: TGQ8_28 F
theorem FGQ8_29 (F : Nat) : Fits2 Try.prog (tD (TGQ8_29 F)) (tS (TGQ8_29 F)) := fits_cons (o54 (FGQ8_28 F) ⟨fun _ _ r h => p103 h, rfl⟩) (FGQ8_28 F) (.inl rfl)
def TGQ8_30 (F : Nat) : List Ent := e20 F :: TGQ8_29 F
theorem FGQ8_30 (F : Nat) : Fits2 Try.prog (tD (TGQ8_30 F)) (tS (TGQ8_30 F)) := fits_cons (o20 (FGQ8_29 F) ⟨fun _ _ r h => p54 h, rfl⟩) (FGQ8_29 F) (.inl rfl)
def TGQ8_31 (F : Nat) : List Ent := e50o F :: TGQ8_30 F
theorem FGQ8_31 (F : Nat) : Fits2 Try.prog (tD (TGQ8_31 F)) (tS (TGQ8_31 F)) := fits_cons (o50o (FGQ8_30 F) ⟨fun _ r h => p99 h, rfl⟩) (FGQ8_30 F) (.inl rfl)
def TGQ8_32 (F : Nat) : List Ent := e17o F :: TGQ8_31 F
theorem FGQ8_32 (F : Nat) : Fits2 Try.prog (tD (TGQ8_32 F)) (tS (TGQ8_32 F)) := fits_cons (o17o (FGQ8_31 F) ⟨fun _ r h => p50o h, rfl⟩) (FGQ8_31 F) (.inl rfl)
def TGQ8_33 (F : Nat) : List Ent := e55 F :: TGQ8_32 F
theorem FGQ8_33 (F : Nat) : Fits2 Try.prog (tD (TGQ8_33 F)) (tS (TGQ8_33 F)) := fits_cons (o55 (FGQ8_32 F) ⟨⟩) (FGQ8_32 F) (.inl rfl)
def TGQ8_34 (F : Nat) : List Ent := e21 F :: TGQ8_33 F
theorem FGQ8_34 (F : Nat) : Fits2 Try.prog (tD (TGQ8_34 F)) (tS (TGQ8_34 F)) := fits_cons (o21 (FGQ8_33 F) ⟨fun _ _ r h => p55 h, rfl⟩) (FGQ8_33 F) (.inl rfl)
def TGQ8_35 (F : Nat) : List Ent := e31o F :: TGQ8_34 F
theorem FGQ8_35 (F : Nat) : Fits2 Try.prog (tD (TGQ8_35 F)) (tS (TGQ8_35 F)) := fits_cons (o31o (FGQ8_34 F) ⟨⟩) (FGQ8_34 F) (.inl rfl)
def TGQ8_36 (F : Nat) : List Ent := e22 F :: TGQ8_35 F
theorem FGQ8_36 (F : Nat) : Fits2 Try.prog (tD (TGQ8_36 F)) (tS (TGQ8_36 F)) := fits_cons (o22 (FGQ8_35 F) ⟨⟩) (FGQ8_35 F) (.inl rfl)
def TGQ8_37 (F : Nat) : List Ent := e23 F :: TGQ8_36 F
theorem FGQ8_37 (F : Nat) : Fits2 Try.prog (tD (TGQ8_37 F)) (tS (TGQ8_37 F)) := fits_cons (o23 (FGQ8_36 F) ⟨⟩) (FGQ8_36 F) (.inl rfl)
def TGQ8_38 (F : Nat) : List Ent := e8 F :: TGQ8_37 F
theorem FGQ8_38 (F : Nat) : Fits2 Try.prog (tD (TGQ8_38 F)) (tS (TGQ8_38 F)) := fits_cons (o8 (FGQ8_37 F) ⟨fun _ _ r h => p15 h, rfl, fun _ r h => p17 h, rfl, fun _ r h => p31 h, rfl, fun _ _ r h => p33 h, rfl, fun _ r h => p17o h, rfl, fun _ r h => p31o h, rfl, fun _ _ r h => p34o h, rfl, fun _ _ r h => p19 h, rfl, fun _ _ r h => p20 h, rfl, fun _ _ r h => p21 h, rfl, fun _ _ r h => p22 h, rfl, fun _ _ r h => p23 h, rfl⟩) (FGQ8_37 F) (.inl rfl)
theorem law8 (F : Nat) (x0 : (Int × (List (Int × Int)))) (x1 : (List Int)) (h : w_FnExactProgramOfLayout F x0 x1 = some true) : Contract Try.prog 8 0 false [Enc.enc x0, Enc.enc x1] (.bool true) := contract_plain ((FGQ8_38 F).con 8 _ _ 0 false (p8 h) rfl) rfl rfl
end Go.Zq
