/- The table of the functions' contracts. No further condition. -/
import Derived.Test.YtonidecbmdpfhaaK3
import Derived.Test.YtonidecbmdpfhaaProg
import Derived.Test.YtonidecbmdpfhaaChecked
import Derived.KernelRfl
import Derived.Test.YtonidecbmdpfhaaG3
set_option linter.unusedVariables false
set_option linter.unusedSimpArgs false
/- Functions of the program, as typed functions, and that the machine runs as they say. -/
namespace Go.Zq
open Go.Proofs
def TGQ11_0 (F : Nat) : List Ent := e47 F :: []
theorem FGQ11_0 (F : Nat) : Fits2 Try.prog (tD (TGQ11_0 F)) (tS (TGQ11_0 F)) := fits_cons (o47 (fits_nil) ⟨⟩) (fits_nil) (.inl rfl)
def TGQ11_1 (F : Nat) : List Ent := e15 F :: TGQ11_0 F
theorem FGQ11_1 (F : Nat) : Fits2 Try.prog (tD (TGQ11_1 F)) (tS (TGQ11_1 F)) := fits_cons (o15 (FGQ11_0 F) ⟨fun _ _ r h => p47 h, rfl⟩) (FGQ11_0 F) (.inl rfl)
def TGQ11_2 (F : Nat) : List Ent := e99 F :: TGQ11_1 F
theorem FGQ11_2 (F : Nat) : Fits2 Try.prog (tD (TGQ11_2 F)) (tS (TGQ11_2 F)) := fits_cons (o99 (FGQ11_1 F) ⟨⟩) (FGQ11_1 F) (.inl rfl)
def TGQ11_3 (F : Nat) : List Ent := e50 F :: TGQ11_2 F
theorem FGQ11_3 (F : Nat) : Fits2 Try.prog (tD (TGQ11_3 F)) (tS (TGQ11_3 F)) := fits_cons (o50 (FGQ11_2 F) ⟨fun _ r h => p99 h, rfl⟩) (FGQ11_2 F) (.inl rfl)
def TGQ11_4 (F : Nat) : List Ent := e17 F :: TGQ11_3 F
theorem FGQ11_4 (F : Nat) : Fits2 Try.prog (tD (TGQ11_4 F)) (tS (TGQ11_4 F)) := fits_cons (o17 (FGQ11_3 F) ⟨fun _ r h => p50 h, rfl⟩) (FGQ11_3 F) (.inl rfl)
def TGQ11_5 (F : Nat) : List Ent := e31 F :: TGQ11_4 F
theorem FGQ11_5 (F : Nat) : Fits2 Try.prog (tD (TGQ11_5 F)) (tS (TGQ11_5 F)) := fits_cons (o31 (FGQ11_4 F) ⟨⟩) (FGQ11_4 F) (.inl rfl)
def TGQ11_6 (F : Nat) : List Ent := e95 F :: TGQ11_5 F
theorem FGQ11_6 (F : Nat) : Fits2 Try.prog (tD (TGQ11_6 F)) (tS (TGQ11_6 F)) := fits_cons (o95 (FGQ11_5 F) ⟨⟩) (FGQ11_5 F) (.inl rfl)
def TGQ11_7 (F : Nat) : List Ent := e96 F :: TGQ11_6 F
theorem FGQ11_7 (F : Nat) : Fits2 Try.prog (tD (TGQ11_7 F)) (tS (TGQ11_7 F)) := fits_cons (o96 (FGQ11_6 F) ⟨⟩) (FGQ11_6 F) (.inl rfl)
def TGQ11_8 (F : Nat) : List Ent := e48 F :: TGQ11_7 F
theorem FGQ11_8 (F : Nat) : Fits2 Try.prog (tD (TGQ11_8 F)) (tS (TGQ11_8 F)) := fits_cons (o48 (FGQ11_7 F) ⟨fun _ _ _ r h => p95 h, rfl, fun _ _ r h => p96 h, rfl⟩) (FGQ11_7 F) (.inl rfl)
def TGQ11_9 (F : Nat) : List Ent := e68 F :: TGQ11_8 F
theorem FGQ11_9 (F : Nat) : Fits2 Try.prog (tD (TGQ11_9 F)) (tS (TGQ11_9 F)) := fits_cons (o68 (FGQ11_8 F) ⟨⟩) (FGQ11_8 F) (.inl rfl)
def TGQ11_10 (F : Nat) : List Ent := e113 F :: TGQ11_9 F
theorem FGQ11_10 (F : Nat) : Fits2 Try.prog (tD (TGQ11_10 F)) (tS (TGQ11_10 F)) := fits_cons (o113 (FGQ11_9 F) ⟨fun _ _ r h => p68 h, rfl⟩) (FGQ11_9 F) (.inl rfl)
def TGQ11_11 (F : Nat) : List Ent := e76 F :: TGQ11_10 F
theorem FGQ11_11 (F : Nat) : Fits2 Try.prog (tD (TGQ11_11 F)) (tS (TGQ11_11 F)) := fits_cons (o76 (FGQ11_10 F) ⟨fun _ _ r h => p113 h, rfl⟩) (FGQ11_10 F) (.inl rfl)
def TGQ11_12 (F : Nat) : List Ent := e97 F :: TGQ11_11 F
theorem FGQ11_12 (F : Nat) : Fits2 Try.prog (tD (TGQ11_12 F)) (tS (TGQ11_12 F)) := fits_cons (o97 (FGQ11_11 F) ⟨⟩) (FGQ11_11 F) (.inl rfl)
def TGQ11_13 (F : Nat) : List Ent := e77 F :: TGQ11_12 F
theorem FGQ11_13 (F : Nat) : Fits2 Try.prog (tD (TGQ11_13 F)) (tS (TGQ11_13 F)) := fits_cons (o77 (FGQ11_12 F) ⟨⟩) (FGQ11_12 F) (.inl rfl)
def TGQ11_14 (F : Nat) : List Ent := e72 F :: TGQ11_13 F
theorem FGQ11_14 (F : Nat) : Fits2 Try.prog (tD (TGQ11_14 F)) (tS (TGQ11_14 F)) := fits_cons (o72 (FGQ11_13 F) ⟨fun _ _ _ r h => p97 h, rfl, fun _ _ r h => p68 h, rfl, fun _ _ r h => p77 h, rfl⟩) (FGQ11_13 F) (.inl rfl)
def TGQ11_15 (F : Nat) : List Ent := e39 F :: TGQ11_14 F
theorem FGQ11_15 (F : Nat) : Fits2 Try.prog (tD (TGQ11_15 F)) (tS (TGQ11_15 F)) := fits_cons (o39 (FGQ11_14 F) ⟨fun _ r h => p48 h, rfl, fun _ _ r h => p76 h, rfl, fun _ _ r h => p72 h, rfl⟩) (FGQ11_14 F) (.inl rfl)
def TGQ11_16 (F : Nat) : List Ent := e100 F :: TGQ11_15 F
theorem FGQ11_16 (F : Nat) : Fits2 Try.prog (tD (TGQ11_16 F)) (tS (TGQ11_16 F)) := fits_cons (o100 (FGQ11_15 F) ⟨⟩) (FGQ11_15 F) (.inl rfl)
def TGQ11_17 (F : Nat) : List Ent := e126 F :: TGQ11_16 F
theorem FGQ11_17 (F : Nat) : Fits2 Try.prog (tD (TGQ11_17 F)) (tS (TGQ11_17 F)) := fits_cons (o126 (FGQ11_16 F) ⟨⟩) (FGQ11_16 F) (.inl rfl)
def TGQ11_18 (F : Nat) : List Ent := e123 F :: TGQ11_17 F
theorem FGQ11_18 (F : Nat) : Fits2 Try.prog (tD (TGQ11_18 F)) (tS (TGQ11_18 F)) := fits_cons (o123 (FGQ11_17 F) ⟨fun _ r h => p126 h, rfl⟩) (FGQ11_17 F) (.inl rfl)
def TGQ11_19 (F : Nat) : List Ent := e101 F :: TGQ11_18 F
theorem FGQ11_19 (F : Nat) : Fits2 Try.prog (tD (TGQ11_19 F)) (tS (TGQ11_19 F)) := fits_cons (o101 (FGQ11_18 F) ⟨fun _ _ r h => p123 h, rfl⟩) (FGQ11_18 F) (.inl rfl)
def TGQ11_20 (F : Nat) : List Ent := e51 F :: TGQ11_19 F
theorem FGQ11_20 (F : Nat) : Fits2 Try.prog (tD (TGQ11_20 F)) (tS (TGQ11_20 F)) := fits_cons (o51 (FGQ11_19 F) ⟨fun _ _ _ r h => p100 h, rfl, fun _ _ r h => p101 h, rfl⟩) (FGQ11_19 F) (.inl rfl)
def TGQ11_21 (F : Nat) : List Ent := e114 F :: TGQ11_20 F
theorem FGQ11_21 (F : Nat) : Fits2 Try.prog (tD (TGQ11_21 F)) (tS (TGQ11_21 F)) := fits_cons (o114 (FGQ11_20 F) ⟨fun _ _ _ r h => p100 h, rfl⟩) (FGQ11_20 F) (.inl rfl)
def TGQ11_22 (F : Nat) : List Ent := e75 F :: TGQ11_21 F
theorem FGQ11_22 (F : Nat) : Fits2 Try.prog (tD (TGQ11_22 F)) (tS (TGQ11_22 F)) := fits_cons (o75 (FGQ11_21 F) ⟨⟩) (FGQ11_21 F) (.inl rfl)
def TGQ11_23 (F : Nat) : List Ent := e78 F :: TGQ11_22 F
theorem FGQ11_23 (F : Nat) : Fits2 Try.prog (tD (TGQ11_23 F)) (tS (TGQ11_23 F)) := fits_cons (o78 (FGQ11_22 F) ⟨fun _ _ _ r h => p114 h, rfl, fun _ r h => p75 h, rfl⟩) (FGQ11_22 F) (.inl rfl)
def TGQ11_24 (F : Nat) : List Ent := e52 F :: TGQ11_23 F
theorem FGQ11_24 (F : Nat) : Fits2 Try.prog (tD (TGQ11_24 F)) (tS (TGQ11_24 F)) := fits_cons (o52 (FGQ11_23 F) ⟨⟩) (FGQ11_23 F) (.inl rfl)
def TGQ11_25 (F : Nat) : List Ent := e60 F :: TGQ11_24 F
theorem FGQ11_25 (F : Nat) : Fits2 Try.prog (tD (TGQ11_25 F)) (tS (TGQ11_25 F)) := fits_cons (o60 (FGQ11_24 F) ⟨⟩) (FGQ11_24 F) (.inl rfl)
def TGQ11_26 (F : Nat) : List Ent := e74 F :: TGQ11_25 F
theorem FGQ11_26 (F : Nat) : Fits2 Try.prog (tD (TGQ11_26 F)) (tS (TGQ11_26 F)) := fits_cons (o74 (FGQ11_25 F) ⟨fun _ r h => p60 h, rfl⟩) (FGQ11_25 F) (.inl rfl)
def TGQ11_27 (F : Nat) : List Ent := e109 F :: TGQ11_26 F
theorem FGQ11_27 (F : Nat) : Fits2 Try.prog (tD (TGQ11_27 F)) (tS (TGQ11_27 F)) := fits_cons (o109 (FGQ11_26 F) ⟨⟩) (FGQ11_26 F) (.inl rfl)
def TGQ11_28 (F : Nat) : List Ent := e67 F :: TGQ11_27 F
theorem FGQ11_28 (F : Nat) : Fits2 Try.prog (tD (TGQ11_28 F)) (tS (TGQ11_28 F)) := fits_cons (o67 (FGQ11_27 F) ⟨fun _ r h => p109 h, rfl⟩) (FGQ11_27 F) (.inl rfl)
def TGQ11_29 (F : Nat) : List Ent := e84 F :: TGQ11_28 F
theorem FGQ11_29 (F : Nat) : Fits2 Try.prog (tD (TGQ11_29 F)) (tS (TGQ11_29 F)) := fits_cons (o84 (FGQ11_28 F) ⟨fun _ _ r h => p74 h, rfl, fun _ r h => p67 h, rfl⟩) (FGQ11_28 F) (.inl rfl)
def TGQ11_30 (F : Nat) : List Ent := e40o F :: TGQ11_29 F
theorem FGQ11_30 (F : Nat) : Fits2 Try.prog (tD (TGQ11_30 F)) (tS (TGQ11_30 F)) := fits_cons (o40o (FGQ11_29 F) ⟨fun _ r h => p51 h, rfl, fun _ _ r h => p78 h, rfl, fun _ r h => p52 h, rfl, fun _ _ _ r h => p84 h, rfl⟩) (FGQ11_29 F) (.inl rfl)
def TGQ11_31 (F : Nat) : List Ent := e19 F :: TGQ11_30 F
theorem FGQ11_31 (F : Nat) : Fits2 Try.prog (tD (TGQ11_31 F)) (tS (TGQ11_31 F)) := fits_cons (o19 (FGQ11_30 F) ⟨⟩) (FGQ11_30 F) (.inl rfl)
def TGQ11_32 (F : Nat) : List Ent := e103 F :: TGQ11_31 F
theorem FGQ11_32 (F : Nat) : Fits2 Try.prog (tD (TGQ11_32 F)) (tS (TGQ11_32 F)) := fits_cons (o103 (FGQ11_31 F) ⟨⟩) (FGQ11_31 F) (.inl rfl)
def TGQ11_33 (F : Nat) : List Ent := e54 F :: TGQ11_32 F
theorem FGQ11_33 (F : Nat) : Fits2 Try.prog (tD (TGQ11_33 F)) (tS (TGQ11_33 F)) := fits_cons (o54 (FGQ11_32 F) ⟨fun _ _ r h => p103 h, rfl⟩) (FGQ11_32 F) (.inl rfl)
def TGQ11_34 (F : Nat) : List Ent := e20 F :: TGQ11_33 F
theorem FGQ11_34 (F : Nat) : Fits2 Try.prog (tD (TGQ11_34 F)) (tS (TGQ11_34 F)) := fits_cons (o20 (FGQ11_33 F) ⟨fun _ _ r h => p54 h, rfl⟩) (FGQ11_33 F) (.inl rfl)
def TGQ11_35 (F : Nat) : List Ent := e50o F :: TGQ11_34 F
theorem FGQ11_35 (F : Nat) : Fits2 Try.prog (tD (TGQ11_35 F)) (tS (TGQ11_35 F)) := fits_cons (o50o (FGQ11_34 F) ⟨fun _ r h => p99 h, rfl⟩) (FGQ11_34 F) (.inl rfl)
def TGQ11_36 (F : Nat) : List Ent := e17o F :: TGQ11_35 F
theorem FGQ11_36 (F : Nat) : Fits2 Try.prog (tD (TGQ11_36 F)) (tS (TGQ11_36 F)) := fits_cons (o17o (FGQ11_35 F) ⟨fun _ r h => p50o h, rfl⟩) (FGQ11_35 F) (.inl rfl)
def TGQ11_37 (F : Nat) : List Ent := e55 F :: TGQ11_36 F
theorem FGQ11_37 (F : Nat) : Fits2 Try.prog (tD (TGQ11_37 F)) (tS (TGQ11_37 F)) := fits_cons (o55 (FGQ11_36 F) ⟨⟩) (FGQ11_36 F) (.inl rfl)
def TGQ11_38 (F : Nat) : List Ent := e21 F :: TGQ11_37 F
theorem FGQ11_38 (F : Nat) : Fits2 Try.prog (tD (TGQ11_38 F)) (tS (TGQ11_38 F)) := fits_cons (o21 (FGQ11_37 F) ⟨fun _ _ r h => p55 h, rfl⟩) (FGQ11_37 F) (.inl rfl)
def TGQ11_39 (F : Nat) : List Ent := e31o F :: TGQ11_38 F
theorem FGQ11_39 (F : Nat) : Fits2 Try.prog (tD (TGQ11_39 F)) (tS (TGQ11_39 F)) := fits_cons (o31o (FGQ11_38 F) ⟨⟩) (FGQ11_38 F) (.inl rfl)
def TGQ11_40 (F : Nat) : List Ent := e22 F :: TGQ11_39 F
theorem FGQ11_40 (F : Nat) : Fits2 Try.prog (tD (TGQ11_40 F)) (tS (TGQ11_40 F)) := fits_cons (o22 (FGQ11_39 F) ⟨⟩) (FGQ11_39 F) (.inl rfl)
def TGQ11_41 (F : Nat) : List Ent := e23 F :: TGQ11_40 F
theorem FGQ11_41 (F : Nat) : Fits2 Try.prog (tD (TGQ11_41 F)) (tS (TGQ11_41 F)) := fits_cons (o23 (FGQ11_40 F) ⟨⟩) (FGQ11_40 F) (.inl rfl)
def TGQ11_42 (F : Nat) : List Ent := e11 F :: TGQ11_41 F
theorem FGQ11_42 (F : Nat) : Fits2 Try.prog (tD (TGQ11_42 F)) (tS (TGQ11_42 F)) := fits_cons (o11 (FGQ11_41 F) ⟨fun _ _ r h => p15 h, rfl, fun _ r h => p17 h, rfl, fun _ r h => p31 h, rfl, fun _ _ r h => p39 h, rfl, fun _ r h => p17o h, rfl, fun _ r h => p31o h, rfl, fun _ _ r h => p40o h, rfl, fun _ _ r h => p19 h, rfl, fun _ _ r h => p20 h, rfl, fun _ _ r h => p21 h, rfl, fun _ _ r h => p22 h, rfl, fun _ _ r h => p23 h, rfl⟩) (FGQ11_41 F) (.inl rfl)
theorem law11 (F : Nat) (x0 : (Int × (List (Int × Int)))) (x1 : (List Int)) (h : w_FnExactFrontSizes F x0 x1 = some true) : Contract Try.prog 11 0 false [Enc.enc x0, Enc.enc x1] (.bool true) := contract_plain ((FGQ11_42 F).con 11 _ _ 0 false (p11 h) rfl) rfl rfl
end Go.Zq
