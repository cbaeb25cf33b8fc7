/- The table of the functions' contracts. No further condition. -/
import Derived.Test.YtonidecbmdpfhaaK3
import Derived.Test.YtonidecbmdpfhaaProg
import Derived.Test.YtonidecbmdpfhaaChecked
import Derived.KernelRfl
import Derived.Test.YtonidecbmdpfhaaG3
set_option linter.unusedVariables false
set_option linter.unusedSimpArgs false
/- Functions of the program, as typed functions, and that the machine runs as they say. -/
namespace Go.Zq
open Go.Proofs
def TGQ10_0 (F : Nat) : List Ent := e47 F :: []
theorem FGQ10_0 (F : Nat) : Fits2 Try.prog (tD (TGQ10_0 F)) (tS (TGQ10_0 F)) := fits_cons (o47 (fits_nil) ⟨⟩) (fits_nil) (.inl rfl)
def TGQ10_1 (F : Nat) : List Ent := e15 F :: TGQ10_0 F
theorem FGQ10_1 (F : Nat) : Fits2 Try.prog (tD (TGQ10_1 F)) (tS (TGQ10_1 F)) := fits_cons (o15 (FGQ10_0 F) ⟨fun _ _ r h => p47 h, rfl⟩) (FGQ10_0 F) (.inl rfl)
def TGQ10_2 (F : Nat) : List Ent := e99 F :: TGQ10_1 F
theorem FGQ10_2 (F : Nat) : Fits2 Try.prog (tD (TGQ10_2 F)) (tS (TGQ10_2 F)) := fits_cons (o99 (FGQ10_1 F) ⟨⟩) (FGQ10_1 F) (.inl rfl)
def TGQ10_3 (F : Nat) : List Ent := e50 F :: TGQ10_2 F
theorem FGQ10_3 (F : Nat) : Fits2 Try.prog (tD (TGQ10_3 F)) (tS (TGQ10_3 F)) := fits_cons (o50 (FGQ10_2 F) ⟨fun _ r h => p99 h, rfl⟩) (FGQ10_2 F) (.inl rfl)
def TGQ10_4 (F : Nat) : List Ent := e17 F :: TGQ10_3 F
theorem FGQ10_4 (F : Nat) : Fits2 Try.prog (tD (TGQ10_4 F)) (tS (TGQ10_4 F)) := fits_cons (o17 (FGQ10_3 F) ⟨fun _ r h => p50 h, rfl⟩) (FGQ10_3 F) (.inl rfl)
def TGQ10_5 (F : Nat) : List Ent := e31 F :: TGQ10_4 F
theorem FGQ10_5 (F : Nat) : Fits2 Try.prog (tD (TGQ10_5 F)) (tS (TGQ10_5 F)) := fits_cons (o31 (FGQ10_4 F) ⟨⟩) (FGQ10_4 F) (.inl rfl)
def TGQ10_6 (F : Nat) : List Ent := e95 F :: TGQ10_5 F
theorem FGQ10_6 (F : Nat) : Fits2 Try.prog (tD (TGQ10_6 F)) (tS (TGQ10_6 F)) := fits_cons (o95 (FGQ10_5 F) ⟨⟩) (FGQ10_5 F) (.inl rfl)
def TGQ10_7 (F : Nat) : List Ent := e96 F :: TGQ10_6 F
theorem FGQ10_7 (F : Nat) : Fits2 Try.prog (tD (TGQ10_7 F)) (tS (TGQ10_7 F)) := fits_cons (o96 (FGQ10_6 F) ⟨⟩) (FGQ10_6 F) (.inl rfl)
def TGQ10_8 (F : Nat) : List Ent := e48 F :: TGQ10_7 F
theorem FGQ10_8 (F : Nat) : Fits2 Try.prog (tD (TGQ10_8 F)) (tS (TGQ10_8 F)) := fits_cons (o48 (FGQ10_7 F) ⟨fun _ _ _ r h => p95 h, rfl, fun _ _ r h => p96 h, rfl⟩) (FGQ10_7 F) (.inl rfl)
def TGQ10_9 (F : Nat) : List Ent := e68 F :: TGQ10_8 F
theorem FGQ10_9 (F : Nat) : Fits2 Try.prog (tD (TGQ10_9 F)) (tS (TGQ10_9 F)) := fits_cons (o68 (FGQ10_8 F) ⟨⟩) (FGQ10_8 F) (.inl rfl)
def TGQ10_10 (F : Nat) : List Ent := e113 F :: TGQ10_9 F
theorem FGQ10_10 (F : Nat) : Fits2 Try.prog (tD (TGQ10_10 F)) (tS (TGQ10_10 F)) := fits_cons (o113 (FGQ10_9 F) ⟨fun _ _ r h => p68 h, rfl⟩) (FGQ10_9 F) (.inl rfl)
def TGQ10_11 (F : Nat) : List Ent := e81 F :: TGQ10_10 F
theorem FGQ10_11 (F : Nat) : Fits2 Try.prog (tD (TGQ10_11 F)) (tS (TGQ10_11 F)) := fits_cons (o81 (FGQ10_10 F) ⟨fun _ r h => p48 h, rfl, fun _ _ r h => p113 h, rfl⟩) (FGQ10_10 F) (.inl rfl)
def TGQ10_12 (F : Nat) : List Ent := e86 F :: TGQ10_11 F
theorem FGQ10_12 (F : Nat) : Fits2 Try.prog (tD (TGQ10_12 F)) (tS (TGQ10_12 F)) := fits_cons (o86 (FGQ10_11 F) ⟨fun _ _ r h => p68 h, rfl⟩) (FGQ10_11 F) (.inl rfl)
def TGQ10_13 (F : Nat) : List Ent := e82 F :: TGQ10_12 F
theorem FGQ10_13 (F : Nat) : Fits2 Try.prog (tD (TGQ10_13 F)) (tS (TGQ10_13 F)) := fits_cons (o82 (FGQ10_12 F) ⟨fun _ _ r h => p86 h, rfl⟩) (FGQ10_12 F) (.inl rfl)
def TGQ10_14 (F : Nat) : List Ent := e37 F :: TGQ10_13 F
theorem FGQ10_14 (F : Nat) : Fits2 Try.prog (tD (TGQ10_14 F)) (tS (TGQ10_14 F)) := fits_cons (o37 (FGQ10_13 F) ⟨fun _ _ r h => p81 h, rfl, fun _ _ r h => p82 h, rfl⟩) (FGQ10_13 F) (.inl rfl)
def TGQ10_15 (F : Nat) : List Ent := e100 F :: TGQ10_14 F
theorem FGQ10_15 (F : Nat) : Fits2 Try.prog (tD (TGQ10_15 F)) (tS (TGQ10_15 F)) := fits_cons (o100 (FGQ10_14 F) ⟨⟩) (FGQ10_14 F) (.inl rfl)
def TGQ10_16 (F : Nat) : List Ent := e126 F :: TGQ10_15 F
theorem FGQ10_16 (F : Nat) : Fits2 Try.prog (tD (TGQ10_16 F)) (tS (TGQ10_16 F)) := fits_cons (o126 (FGQ10_15 F) ⟨⟩) (FGQ10_15 F) (.inl rfl)
def TGQ10_17 (F : Nat) : List Ent := e123 F :: TGQ10_16 F
theorem FGQ10_17 (F : Nat) : Fits2 Try.prog (tD (TGQ10_17 F)) (tS (TGQ10_17 F)) := fits_cons (o123 (FGQ10_16 F) ⟨fun _ r h => p126 h, rfl⟩) (FGQ10_16 F) (.inl rfl)
def TGQ10_18 (F : Nat) : List Ent := e101 F :: TGQ10_17 F
theorem FGQ10_18 (F : Nat) : Fits2 Try.prog (tD (TGQ10_18 F)) (tS (TGQ10_18 F)) := fits_cons (o101 (FGQ10_17 F) ⟨fun _ _ r h => p123 h, rfl⟩) (FGQ10_17 F) (.inl rfl)
def TGQ10_19 (F : Nat) : List Ent := e51 F :: TGQ10_18 F
theorem FGQ10_19 (F : Nat) : Fits2 Try.prog (tD (TGQ10_19 F)) (tS (TGQ10_19 F)) := fits_cons (o51 (FGQ10_18 F) ⟨fun _ _ _ r h => p100 h, rfl, fun _ _ r h => p101 h, rfl⟩) (FGQ10_18 F) (.inl rfl)
def TGQ10_20 (F : Nat) : List Ent := e114 F :: TGQ10_19 F
theorem FGQ10_20 (F : Nat) : Fits2 Try.prog (tD (TGQ10_20 F)) (tS (TGQ10_20 F)) := fits_cons (o114 (FGQ10_19 F) ⟨fun _ _ _ r h => p100 h, rfl⟩) (FGQ10_19 F) (.inl rfl)
def TGQ10_21 (F : Nat) : List Ent := e75 F :: TGQ10_20 F
theorem FGQ10_21 (F : Nat) : Fits2 Try.prog (tD (TGQ10_21 F)) (tS (TGQ10_21 F)) := fits_cons (o75 (FGQ10_20 F) ⟨⟩) (FGQ10_20 F) (.inl rfl)
def TGQ10_22 (F : Nat) : List Ent := e78 F :: TGQ10_21 F
theorem FGQ10_22 (F : Nat) : Fits2 Try.prog (tD (TGQ10_22 F)) (tS (TGQ10_22 F)) := fits_cons (o78 (FGQ10_21 F) ⟨fun _ _ _ r h => p114 h, rfl, fun _ r h => p75 h, rfl⟩) (FGQ10_21 F) (.inl rfl)
def TGQ10_23 (F : Nat) : List Ent := e52 F :: TGQ10_22 F
theorem FGQ10_23 (F : Nat) : Fits2 Try.prog (tD (TGQ10_23 F)) (tS (TGQ10_23 F)) := fits_cons (o52 (FGQ10_22 F) ⟨⟩) (FGQ10_22 F) (.inl rfl)
def TGQ10_24 (F : Nat) : List Ent := e60 F :: TGQ10_23 F
theorem FGQ10_24 (F : Nat) : Fits2 Try.prog (tD (TGQ10_24 F)) (tS (TGQ10_24 F)) := fits_cons (o60 (FGQ10_23 F) ⟨⟩) (FGQ10_23 F) (.inl rfl)
def TGQ10_25 (F : Nat) : List Ent := e109 F :: TGQ10_24 F
theorem FGQ10_25 (F : Nat) : Fits2 Try.prog (tD (TGQ10_25 F)) (tS (TGQ10_25 F)) := fits_cons (o109 (FGQ10_24 F) ⟨⟩) (FGQ10_24 F) (.inl rfl)
def TGQ10_26 (F : Nat) : List Ent := e67 F :: TGQ10_25 F
theorem FGQ10_26 (F : Nat) : Fits2 Try.prog (tD (TGQ10_26 F)) (tS (TGQ10_26 F)) := fits_cons (o67 (FGQ10_25 F) ⟨fun _ r h => p109 h, rfl⟩) (FGQ10_25 F) (.inl rfl)
def TGQ10_27 (F : Nat) : List Ent := e88 F :: TGQ10_26 F
theorem FGQ10_27 (F : Nat) : Fits2 Try.prog (tD (TGQ10_27 F)) (tS (TGQ10_27 F)) := fits_cons (o88 (FGQ10_26 F) ⟨fun _ r h => p60 h, rfl, fun _ r h => p67 h, rfl⟩) (FGQ10_26 F) (.inl rfl)
def TGQ10_28 (F : Nat) : List Ent := e83 F :: TGQ10_27 F
theorem FGQ10_28 (F : Nat) : Fits2 Try.prog (tD (TGQ10_28 F)) (tS (TGQ10_28 F)) := fits_cons (o83 (FGQ10_27 F) ⟨fun _ _ _ r h => p88 h, rfl⟩) (FGQ10_27 F) (.inl rfl)
def TGQ10_29 (F : Nat) : List Ent := e83o F :: TGQ10_28 F
theorem FGQ10_29 (F : Nat) : Fits2 Try.prog (tD (TGQ10_29 F)) (tS (TGQ10_29 F)) := fits_cons (o83o (FGQ10_28 F) ⟨fun _ _ _ r h => p88 h, rfl⟩) (FGQ10_28 F) (.inl rfl)
def TGQ10_30 (F : Nat) : List Ent := e38o F :: TGQ10_29 F
theorem FGQ10_30 (F : Nat) : Fits2 Try.prog (tD (TGQ10_30 F)) (tS (TGQ10_30 F)) := fits_cons (o38o (FGQ10_29 F) ⟨fun _ r h => p51 h, rfl, fun _ _ r h => p78 h, rfl, fun _ r h => p52 h, rfl, fun _ _ r h => p83o h, rfl⟩) (FGQ10_29 F) (.inl rfl)
def TGQ10_31 (F : Nat) : List Ent := e19 F :: TGQ10_30 F
theorem FGQ10_31 (F : Nat) : Fits2 Try.prog (tD (TGQ10_31 F)) (tS (TGQ10_31 F)) := fits_cons (o19 (FGQ10_30 F) ⟨⟩) (FGQ10_30 F) (.inl rfl)
def TGQ10_32 (F : Nat) : List Ent := e103 F :: TGQ10_31 F
theorem FGQ10_32 (F : Nat) : Fits2 Try.prog (tD (TGQ10_32 F)) (tS (TGQ10_32 F)) := fits_cons (o103 (FGQ10_31 F) ⟨⟩) (FGQ10_31 F) (.inl rfl)
def TGQ10_33 (F : Nat) : List Ent := e54 F :: TGQ10_32 F
theorem FGQ10_33 (F : Nat) : Fits2 Try.prog (tD (TGQ10_33 F)) (tS (TGQ10_33 F)) := fits_cons (o54 (FGQ10_32 F) ⟨fun _ _ r h => p103 h, rfl⟩) (FGQ10_32 F) (.inl rfl)
def TGQ10_34 (F : Nat) : List Ent := e20 F :: TGQ10_33 F
theorem FGQ10_34 (F : Nat) : Fits2 Try.prog (tD (TGQ10_34 F)) (tS (TGQ10_34 F)) := fits_cons (o20 (FGQ10_33 F) ⟨fun _ _ r h => p54 h, rfl⟩) (FGQ10_33 F) (.inl rfl)
def TGQ10_35 (F : Nat) : List Ent := e50o F :: TGQ10_34 F
theorem FGQ10_35 (F : Nat) : Fits2 Try.prog (tD (TGQ10_35 F)) (tS (TGQ10_35 F)) := fits_cons (o50o (FGQ10_34 F) ⟨fun _ r h => p99 h, rfl⟩) (FGQ10_34 F) (.inl rfl)
def TGQ10_36 (F : Nat) : List Ent := e17o F :: TGQ10_35 F
theorem FGQ10_36 (F : Nat) : Fits2 Try.prog (tD (TGQ10_36 F)) (tS (TGQ10_36 F)) := fits_cons (o17o (FGQ10_35 F) ⟨fun _ r h => p50o h, rfl⟩) (FGQ10_35 F) (.inl rfl)
def TGQ10_37 (F : Nat) : List Ent := e55 F :: TGQ10_36 F
theorem FGQ10_37 (F : Nat) : Fits2 Try.prog (tD (TGQ10_37 F)) (tS (TGQ10_37 F)) := fits_cons (o55 (FGQ10_36 F) ⟨⟩) (FGQ10_36 F) (.inl rfl)
def TGQ10_38 (F : Nat) : List Ent := e21 F :: TGQ10_37 F
theorem FGQ10_38 (F : Nat) : Fits2 Try.prog (tD (TGQ10_38 F)) (tS (TGQ10_38 F)) := fits_cons (o21 (FGQ10_37 F) ⟨fun _ _ r h => p55 h, rfl⟩) (FGQ10_37 F) (.inl rfl)
def TGQ10_39 (F : Nat) : List Ent := e31o F :: TGQ10_38 F
theorem FGQ10_39 (F : Nat) : Fits2 Try.prog (tD (TGQ10_39 F)) (tS (TGQ10_39 F)) := fits_cons (o31o (FGQ10_38 F) ⟨⟩) (FGQ10_38 F) (.inl rfl)
def TGQ10_40 (F : Nat) : List Ent := e22 F :: TGQ10_39 F
theorem FGQ10_40 (F : Nat) : Fits2 Try.prog (tD (TGQ10_40 F)) (tS (TGQ10_40 F)) := fits_cons (o22 (FGQ10_39 F) ⟨⟩) (FGQ10_39 F) (.inl rfl)
def TGQ10_41 (F : Nat) : List Ent := e23 F :: TGQ10_40 F
theorem FGQ10_41 (F : Nat) : Fits2 Try.prog (tD (TGQ10_41 F)) (tS (TGQ10_41 F)) := fits_cons (o23 (FGQ10_40 F) ⟨⟩) (FGQ10_40 F) (.inl rfl)
def TGQ10_42 (F : Nat) : List Ent := e10 F :: TGQ10_41 F
theorem FGQ10_42 (F : Nat) : Fits2 Try.prog (tD (TGQ10_42 F)) (tS (TGQ10_42 F)) := fits_cons (o10 (FGQ10_41 F) ⟨fun _ _ r h => p15 h, rfl, fun _ r h => p17 h, rfl, fun _ r h => p31 h, rfl, fun _ _ r h => p37 h, rfl, fun _ r h => p17o h, rfl, fun _ r h => p31o h, rfl, fun _ _ r h => p38o h, rfl, fun _ _ r h => p19 h, rfl, fun _ _ r h => p20 h, rfl, fun _ _ r h => p21 h, rfl, fun _ _ r h => p22 h, rfl, fun _ _ r h => p23 h, rfl⟩) (FGQ10_41 F) (.inl rfl)
theorem law10 (F : Nat) (x0 : (Int × (List (Int × Int)))) (x1 : (List Int)) (h : w_FnExactCutsOf F x0 x1 = some true) : Contract Try.prog 10 0 false [Enc.enc x0, Enc.enc x1] (.bool true) := contract_plain ((FGQ10_42 F).con 10 _ _ 0 false (p10 h) rfl) rfl rfl
end Go.Zq
