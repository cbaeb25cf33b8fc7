/- The table of the functions' contracts. No further condition. -/
import Derived.Test.YtonidecbmdpfhaaK3
import Derived.Test.YtonidecbmdpfhaaProg
import Derived.Test.YtonidecbmdpfhaaChecked
import Derived.KernelRfl
import Derived.Test.YtonidecbmdpfhaaG4
set_option linter.unusedVariables false
set_option linter.unusedSimpArgs false
/- Functions of the program, as typed functions, and that the machine runs as they say. -/
namespace Go.Zq
open Go.Proofs
def TGT14_0 (F : Nat) : List Ent := e47 F :: []
theorem FGT14_0 (F : Nat) : Fits2 Try.prog (tD (TGT14_0 F)) (tS (TGT14_0 F)) := fits_cons (o47 (fits_nil) ⟨⟩) (fits_nil) (.inl rfl)
def TGT14_1 (F : Nat) : List Ent := e15 F :: TGT14_0 F
theorem FGT14_1 (F : Nat) : Fits2 Try.prog (tD (TGT14_1 F)) (tS (TGT14_1 F)) := fits_cons (o15 (FGT14_0 F) ⟨fun _ _ r h => p47 h, rfl⟩) (FGT14_0 F) (.inl rfl)
def TGT14_2 (F : Nat) : List Ent := e99 F :: TGT14_1 F
theorem FGT14_2 (F : Nat) : Fits2 Try.prog (tD (TGT14_2 F)) (tS (TGT14_2 F)) := fits_cons (o99 (FGT14_1 F) ⟨⟩) (FGT14_1 F) (.inl rfl)
def TGT14_3 (F : Nat) : List Ent := e50 F :: TGT14_2 F
theorem FGT14_3 (F : Nat) : Fits2 Try.prog (tD (TGT14_3 F)) (tS (TGT14_3 F)) := fits_cons (o50 (FGT14_2 F) ⟨fun _ r h => p99 h, rfl⟩) (FGT14_2 F) (.inl rfl)
def TGT14_4 (F : Nat) : List Ent := e17 F :: TGT14_3 F
theorem FGT14_4 (F : Nat) : Fits2 Try.prog (tD (TGT14_4 F)) (tS (TGT14_4 F)) := fits_cons (o17 (FGT14_3 F) ⟨fun _ r h => p50 h, rfl⟩) (FGT14_3 F) (.inl rfl)
def TGT14_5 (F : Nat) : List Ent := e95 F :: TGT14_4 F
theorem FGT14_5 (F : Nat) : Fits2 Try.prog (tD (TGT14_5 F)) (tS (TGT14_5 F)) := fits_cons (o95 (FGT14_4 F) ⟨⟩) (FGT14_4 F) (.inl rfl)
def TGT14_6 (F : Nat) : List Ent := e96 F :: TGT14_5 F
theorem FGT14_6 (F : Nat) : Fits2 Try.prog (tD (TGT14_6 F)) (tS (TGT14_6 F)) := fits_cons (o96 (FGT14_5 F) ⟨⟩) (FGT14_5 F) (.inl rfl)
def TGT14_7 (F : Nat) : List Ent := e48 F :: TGT14_6 F
theorem FGT14_7 (F : Nat) : Fits2 Try.prog (tD (TGT14_7 F)) (tS (TGT14_7 F)) := fits_cons (o48 (FGT14_6 F) ⟨fun _ _ _ r h => p95 h, rfl, fun _ _ r h => p96 h, rfl⟩) (FGT14_6 F) (.inl rfl)
def TGT14_8 (F : Nat) : List Ent := e56 F :: TGT14_7 F
theorem FGT14_8 (F : Nat) : Fits2 Try.prog (tD (TGT14_8 F)) (tS (TGT14_8 F)) := fits_cons (o56 (FGT14_7 F) ⟨⟩) (FGT14_7 F) (.inl rfl)
def TGT14_9 (F : Nat) : List Ent := e68 F :: TGT14_8 F
theorem FGT14_9 (F : Nat) : Fits2 Try.prog (tD (TGT14_9 F)) (tS (TGT14_9 F)) := fits_cons (o68 (FGT14_8 F) ⟨⟩) (FGT14_8 F) (.inl rfl)
def TGT14_10 (F : Nat) : List Ent := e97 F :: TGT14_9 F
theorem FGT14_10 (F : Nat) : Fits2 Try.prog (tD (TGT14_10 F)) (tS (TGT14_10 F)) := fits_cons (o97 (FGT14_9 F) ⟨⟩) (FGT14_9 F) (.inl rfl)
def TGT14_11 (F : Nat) : List Ent := e107 F :: TGT14_10 F
theorem FGT14_11 (F : Nat) : Fits2 Try.prog (tD (TGT14_11 F)) (tS (TGT14_11 F)) := fits_cons (o107 (FGT14_10 F) ⟨fun _ _ _ r h => p97 h, rfl⟩) (FGT14_10 F) (.inl rfl)
def TGT14_12 (F : Nat) : List Ent := e77o F :: TGT14_11 F
theorem FGT14_12 (F : Nat) : Fits2 Try.prog (tD (TGT14_12 F)) (tS (TGT14_12 F)) := fits_cons (o77o (FGT14_11 F) ⟨⟩) (FGT14_11 F) (.inl rfl)
def TGT14_13 (F : Nat) : List Ent := e121o F :: TGT14_12 F
theorem FGT14_13 (F : Nat) : Fits2 Try.prog (tD (TGT14_13 F)) (tS (TGT14_13 F)) := fits_cons (o121o (FGT14_12 F) ⟨fun _ _ r h => p107 h, rfl, fun _ _ r h => p68 h, rfl, fun _ _ r h => p77o h, rfl⟩) (FGT14_12 F) (.inl rfl)
def TGT14_14 (F : Nat) : List Ent := e66 F :: TGT14_13 F
theorem FGT14_14 (F : Nat) : Fits2 Try.prog (tD (TGT14_14 F)) (tS (TGT14_14 F)) := fits_cons (o66 (FGT14_13 F) ⟨⟩) (FGT14_13 F) (.inl rfl)
def TGT14_15 (F : Nat) : List Ent := e120 F :: TGT14_14 F
theorem FGT14_15 (F : Nat) : Fits2 Try.prog (tD (TGT14_15 F)) (tS (TGT14_15 F)) := fits_cons (o120 (FGT14_14 F) ⟨fun _ _ r h => p56 h, rfl, fun _ _ r h => p68 h, rfl, fun _ _ _ r h => p121o h, rfl, fun _ _ r h => p66 h, rfl⟩) (FGT14_14 F) (.inl rfl)
def TGT14_16 (F : Nat) : List Ent := e92 F :: TGT14_15 F
theorem FGT14_16 (F : Nat) : Fits2 Try.prog (tD (TGT14_16 F)) (tS (TGT14_16 F)) := fits_cons (o92 (FGT14_15 F) ⟨fun _ r h => p120 h, rfl, fun _ _ r h => p68 h, rfl, fun _ _ _ r h => p121o h, rfl⟩) (FGT14_15 F) (.inl rfl)
def TGT14_17 (F : Nat) : List Ent := e45 F :: TGT14_16 F
theorem FGT14_17 (F : Nat) : Fits2 Try.prog (tD (TGT14_17 F)) (tS (TGT14_17 F)) := fits_cons (o45 (FGT14_16 F) ⟨fun _ r h => p48 h, rfl, fun _ r h => p92 h, rfl⟩) (FGT14_16 F) (.inl rfl)
def TGT14_18 (F : Nat) : List Ent := e100 F :: TGT14_17 F
theorem FGT14_18 (F : Nat) : Fits2 Try.prog (tD (TGT14_18 F)) (tS (TGT14_18 F)) := fits_cons (o100 (FGT14_17 F) ⟨⟩) (FGT14_17 F) (.inl rfl)
def TGT14_19 (F : Nat) : List Ent := e126 F :: TGT14_18 F
theorem FGT14_19 (F : Nat) : Fits2 Try.prog (tD (TGT14_19 F)) (tS (TGT14_19 F)) := fits_cons (o126 (FGT14_18 F) ⟨⟩) (FGT14_18 F) (.inl rfl)
def TGT14_20 (F : Nat) : List Ent := e123 F :: TGT14_19 F
theorem FGT14_20 (F : Nat) : Fits2 Try.prog (tD (TGT14_20 F)) (tS (TGT14_20 F)) := fits_cons (o123 (FGT14_19 F) ⟨fun _ r h => p126 h, rfl⟩) (FGT14_19 F) (.inl rfl)
def TGT14_21 (F : Nat) : List Ent := e101 F :: TGT14_20 F
theorem FGT14_21 (F : Nat) : Fits2 Try.prog (tD (TGT14_21 F)) (tS (TGT14_21 F)) := fits_cons (o101 (FGT14_20 F) ⟨fun _ _ r h => p123 h, rfl⟩) (FGT14_20 F) (.inl rfl)
def TGT14_22 (F : Nat) : List Ent := e51 F :: TGT14_21 F
theorem FGT14_22 (F : Nat) : Fits2 Try.prog (tD (TGT14_22 F)) (tS (TGT14_22 F)) := fits_cons (o51 (FGT14_21 F) ⟨fun _ _ _ r h => p100 h, rfl, fun _ _ r h => p101 h, rfl⟩) (FGT14_21 F) (.inl rfl)
def TGT14_23 (F : Nat) : List Ent := e52 F :: TGT14_22 F
theorem FGT14_23 (F : Nat) : Fits2 Try.prog (tD (TGT14_23 F)) (tS (TGT14_23 F)) := fits_cons (o52 (FGT14_22 F) ⟨⟩) (FGT14_22 F) (.inl rfl)
def TGT14_24 (F : Nat) : List Ent := e59 F :: TGT14_23 F
theorem FGT14_24 (F : Nat) : Fits2 Try.prog (tD (TGT14_24 F)) (tS (TGT14_24 F)) := fits_cons (o59 (FGT14_23 F) ⟨⟩) (FGT14_23 F) (.inl rfl)
def TGT14_25 (F : Nat) : List Ent := e60 F :: TGT14_24 F
theorem FGT14_25 (F : Nat) : Fits2 Try.prog (tD (TGT14_25 F)) (tS (TGT14_25 F)) := fits_cons (o60 (FGT14_24 F) ⟨⟩) (FGT14_24 F) (.inl rfl)
def TGT14_26 (F : Nat) : List Ent := e122 F :: TGT14_25 F
theorem FGT14_26 (F : Nat) : Fits2 Try.prog (tD (TGT14_26 F)) (tS (TGT14_26 F)) := fits_cons (o122 (FGT14_25 F) ⟨⟩) (FGT14_25 F) (.inl rfl)
def TGT14_27 (F : Nat) : List Ent := e109 F :: TGT14_26 F
theorem FGT14_27 (F : Nat) : Fits2 Try.prog (tD (TGT14_27 F)) (tS (TGT14_27 F)) := fits_cons (o109 (FGT14_26 F) ⟨⟩) (FGT14_26 F) (.inl rfl)
def TGT14_28 (F : Nat) : List Ent := e67 F :: TGT14_27 F
theorem FGT14_28 (F : Nat) : Fits2 Try.prog (tD (TGT14_28 F)) (tS (TGT14_28 F)) := fits_cons (o67 (FGT14_27 F) ⟨fun _ r h => p109 h, rfl⟩) (FGT14_27 F) (.inl rfl)
def TGT14_29 (F : Nat) : List Ent := e94 F :: TGT14_28 F
theorem FGT14_29 (F : Nat) : Fits2 Try.prog (tD (TGT14_29 F)) (tS (TGT14_29 F)) := fits_cons (o94 (FGT14_28 F) ⟨fun _ _ r h => p122 h, rfl, fun _ r h => p67 h, rfl⟩) (FGT14_28 F) (.inl rfl)
def TGT14_30 (F : Nat) : List Ent := e87s1 F :: TGT14_29 F
theorem FGT14_30 (F : Nat) : Fits2 Try.prog (tD (TGT14_30 F)) (tS (TGT14_30 F)) := fits_cons (o87s1 (FGT14_29 F) ⟨fun _ r h => p59 h, rfl, fun _ r h => p60 h, rfl, fun _ _ _ r h => p94 h, rfl⟩) (FGT14_29 F) (.inl rfl)
def TGT14_31 (F : Nat) : List Ent := e93 F :: TGT14_30 F
theorem FGT14_31 (F : Nat) : Fits2 Try.prog (tD (TGT14_31 F)) (tS (TGT14_31 F)) := fits_cons (o93 (FGT14_30 F) ⟨fun _ _ _ r h => p87s1 h, rfl⟩) (FGT14_30 F) (.inl rfl)
def TGT14_32 (F : Nat) : List Ent := e89s2o F :: TGT14_31 F
theorem FGT14_32 (F : Nat) : Fits2 Try.prog (tD (TGT14_32 F)) (tS (TGT14_32 F)) := fits_cons (o89s2o (FGT14_31 F) ⟨fun _ r h => p59 h, rfl, fun _ r h => p60 h, rfl, fun _ _ _ r h => p94 h, rfl⟩) (FGT14_31 F) (.inl rfl)
def TGT14_33 (F : Nat) : List Ent := e46o F :: TGT14_32 F
theorem FGT14_33 (F : Nat) : Fits2 Try.prog (tD (TGT14_33 F)) (tS (TGT14_33 F)) := fits_cons (o46o (FGT14_32 F) ⟨fun _ r h => p51 h, rfl, fun _ r h => p52 h, rfl, fun _ r h => p93 h, rfl, fun _ _ _ r h => p89s2o h, rfl⟩) (FGT14_32 F) (.inl rfl)
def TGT14_34 (F : Nat) : List Ent := e19 F :: TGT14_33 F
theorem FGT14_34 (F : Nat) : Fits2 Try.prog (tD (TGT14_34 F)) (tS (TGT14_34 F)) := fits_cons (o19 (FGT14_33 F) ⟨⟩) (FGT14_33 F) (.inl rfl)
def TGT14_35 (F : Nat) : List Ent := e103 F :: TGT14_34 F
theorem FGT14_35 (F : Nat) : Fits2 Try.prog (tD (TGT14_35 F)) (tS (TGT14_35 F)) := fits_cons (o103 (FGT14_34 F) ⟨⟩) (FGT14_34 F) (.inl rfl)
def TGT14_36 (F : Nat) : List Ent := e54 F :: TGT14_35 F
theorem FGT14_36 (F : Nat) : Fits2 Try.prog (tD (TGT14_36 F)) (tS (TGT14_36 F)) := fits_cons (o54 (FGT14_35 F) ⟨fun _ _ r h => p103 h, rfl⟩) (FGT14_35 F) (.inl rfl)
def TGT14_37 (F : Nat) : List Ent := e20 F :: TGT14_36 F
theorem FGT14_37 (F : Nat) : Fits2 Try.prog (tD (TGT14_37 F)) (tS (TGT14_37 F)) := fits_cons (o20 (FGT14_36 F) ⟨fun _ _ r h => p54 h, rfl⟩) (FGT14_36 F) (.inl rfl)
def TGT14_38 (F : Nat) : List Ent := e50o F :: TGT14_37 F
theorem FGT14_38 (F : Nat) : Fits2 Try.prog (tD (TGT14_38 F)) (tS (TGT14_38 F)) := fits_cons (o50o (FGT14_37 F) ⟨fun _ r h => p99 h, rfl⟩) (FGT14_37 F) (.inl rfl)
def TGT14_39 (F : Nat) : List Ent := e17o F :: TGT14_38 F
theorem FGT14_39 (F : Nat) : Fits2 Try.prog (tD (TGT14_39 F)) (tS (TGT14_39 F)) := fits_cons (o17o (FGT14_38 F) ⟨fun _ r h => p50o h, rfl⟩) (FGT14_38 F) (.inl rfl)
def TGT14_40 (F : Nat) : List Ent := e55 F :: TGT14_39 F
theorem FGT14_40 (F : Nat) : Fits2 Try.prog (tD (TGT14_40 F)) (tS (TGT14_40 F)) := fits_cons (o55 (FGT14_39 F) ⟨⟩) (FGT14_39 F) (.inl rfl)
def TGT14_41 (F : Nat) : List Ent := e21 F :: TGT14_40 F
theorem FGT14_41 (F : Nat) : Fits2 Try.prog (tD (TGT14_41 F)) (tS (TGT14_41 F)) := fits_cons (o21 (FGT14_40 F) ⟨fun _ _ r h => p55 h, rfl⟩) (FGT14_40 F) (.inl rfl)
def TGT14_42 (F : Nat) : List Ent := e22 F :: TGT14_41 F
theorem FGT14_42 (F : Nat) : Fits2 Try.prog (tD (TGT14_42 F)) (tS (TGT14_42 F)) := fits_cons (o22 (FGT14_41 F) ⟨⟩) (FGT14_41 F) (.inl rfl)
def TGT14_43 (F : Nat) : List Ent := e23 F :: TGT14_42 F
theorem FGT14_43 (F : Nat) : Fits2 Try.prog (tD (TGT14_43 F)) (tS (TGT14_43 F)) := fits_cons (o23 (FGT14_42 F) ⟨⟩) (FGT14_42 F) (.inl rfl)
def TGT14_44 (F : Nat) : List Ent := e14 F :: TGT14_43 F
theorem FGT14_44 (F : Nat) : Fits2 Try.prog (tD (TGT14_44 F)) (tS (TGT14_44 F)) := fits_cons (o14 (FGT14_43 F) ⟨fun _ _ r h => p15 h, rfl, fun _ r h => p17 h, rfl, fun _ r h => p45 h, rfl, fun _ r h => p17o h, rfl, fun _ r h => p46o h, rfl, fun _ _ r h => p19 h, rfl, fun _ _ r h => p20 h, rfl, fun _ _ r h => p21 h, rfl, fun _ _ r h => p22 h, rfl, fun _ _ r h => p23 h, rfl⟩) (FGT14_43 F) (.inl rfl)
theorem law14 (F : Nat) (x0 : (Int × (List (Int × Int)))) (h : w_FnExactBestElimination F x0 = some true) : Contract Try.prog 14 0 false [Enc.enc x0] (.bool true) := contract_plain ((FGT14_44 F).con 14 _ _ 0 false (p14 h) rfl) rfl rfl
end Go.Zq
