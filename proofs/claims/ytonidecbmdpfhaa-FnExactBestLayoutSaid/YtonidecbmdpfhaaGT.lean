/- The table of the functions' contracts. No further condition. -/
import Derived.Test.YtonidecbmdpfhaaK3
import Derived.Test.YtonidecbmdpfhaaProg
import Derived.Test.YtonidecbmdpfhaaChecked
import Derived.KernelRfl
import Derived.Test.YtonidecbmdpfhaaG4
set_option linter.unusedVariables false
set_option linter.unusedSimpArgs false
/- Functions of the program, as typed functions, and that the machine runs as they say. -/
namespace Go.Zq
open Go.Proofs
def TGSd_0 (F : Nat) : List Ent := e47 F :: []
theorem FGSd_0 (F : Nat) : Fits2 Try.prog (tD (TGSd_0 F)) (tS (TGSd_0 F)) := fits_cons (o47 (fits_nil) ⟨⟩) (fits_nil) (.inl rfl)
def TGSd_1 (F : Nat) : List Ent := e15 F :: TGSd_0 F
theorem FGSd_1 (F : Nat) : Fits2 Try.prog (tD (TGSd_1 F)) (tS (TGSd_1 F)) := fits_cons (o15 (FGSd_0 F) ⟨fun _ _ r h => p47 h, rfl⟩) (FGSd_0 F) (.inl rfl)
def TGSd_2 (F : Nat) : List Ent := e99 F :: TGSd_1 F
theorem FGSd_2 (F : Nat) : Fits2 Try.prog (tD (TGSd_2 F)) (tS (TGSd_2 F)) := fits_cons (o99 (FGSd_1 F) ⟨⟩) (FGSd_1 F) (.inl rfl)
def TGSd_3 (F : Nat) : List Ent := e50 F :: TGSd_2 F
theorem FGSd_3 (F : Nat) : Fits2 Try.prog (tD (TGSd_3 F)) (tS (TGSd_3 F)) := fits_cons (o50 (FGSd_2 F) ⟨fun _ r h => p99 h, rfl⟩) (FGSd_2 F) (.inl rfl)
def TGSd_4 (F : Nat) : List Ent := e17 F :: TGSd_3 F
theorem FGSd_4 (F : Nat) : Fits2 Try.prog (tD (TGSd_4 F)) (tS (TGSd_4 F)) := fits_cons (o17 (FGSd_3 F) ⟨fun _ r h => p50 h, rfl⟩) (FGSd_3 F) (.inl rfl)
def TGSd_5 (F : Nat) : List Ent := e95 F :: TGSd_4 F
theorem FGSd_5 (F : Nat) : Fits2 Try.prog (tD (TGSd_5 F)) (tS (TGSd_5 F)) := fits_cons (o95 (FGSd_4 F) ⟨⟩) (FGSd_4 F) (.inl rfl)
def TGSd_6 (F : Nat) : List Ent := e96 F :: TGSd_5 F
theorem FGSd_6 (F : Nat) : Fits2 Try.prog (tD (TGSd_6 F)) (tS (TGSd_6 F)) := fits_cons (o96 (FGSd_5 F) ⟨⟩) (FGSd_5 F) (.inl rfl)
def TGSd_7 (F : Nat) : List Ent := e48 F :: TGSd_6 F
theorem FGSd_7 (F : Nat) : Fits2 Try.prog (tD (TGSd_7 F)) (tS (TGSd_7 F)) := fits_cons (o48 (FGSd_6 F) ⟨fun _ _ _ r h => p95 h, rfl, fun _ _ r h => p96 h, rfl⟩) (FGSd_6 F) (.inl rfl)
def TGSd_8 (F : Nat) : List Ent := e56 F :: TGSd_7 F
theorem FGSd_8 (F : Nat) : Fits2 Try.prog (tD (TGSd_8 F)) (tS (TGSd_8 F)) := fits_cons (o56 (FGSd_7 F) ⟨⟩) (FGSd_7 F) (.inl rfl)
def TGSd_9 (F : Nat) : List Ent := e97 F :: TGSd_8 F
theorem FGSd_9 (F : Nat) : Fits2 Try.prog (tD (TGSd_9 F)) (tS (TGSd_9 F)) := fits_cons (o97 (FGSd_8 F) ⟨⟩) (FGSd_8 F) (.inl rfl)
def TGSd_10 (F : Nat) : List Ent := e68 F :: TGSd_9 F
theorem FGSd_10 (F : Nat) : Fits2 Try.prog (tD (TGSd_10 F)) (tS (TGSd_10 F)) := fits_cons (o68 (FGSd_9 F) ⟨⟩) (FGSd_9 F) (.inl rfl)
def TGSd_11 (F : Nat) : List Ent := e77 F :: TGSd_10 F
theorem FGSd_11 (F : Nat) : Fits2 Try.prog (tD (TGSd_11 F)) (tS (TGSd_11 F)) := fits_cons (o77 (FGSd_10 F) ⟨⟩) (FGSd_10 F) (.inl rfl)
def TGSd_12 (F : Nat) : List Ent := e72 F :: TGSd_11 F
theorem FGSd_12 (F : Nat) : Fits2 Try.prog (tD (TGSd_12 F)) (tS (TGSd_12 F)) := fits_cons (o72 (FGSd_11 F) ⟨fun _ _ _ r h => p97 h, rfl, fun _ _ r h => p68 h, rfl, fun _ _ r h => p77 h, rfl⟩) (FGSd_11 F) (.inl rfl)
def TGSd_13 (F : Nat) : List Ent := e66 F :: TGSd_12 F
theorem FGSd_13 (F : Nat) : Fits2 Try.prog (tD (TGSd_13 F)) (tS (TGSd_13 F)) := fits_cons (o66 (FGSd_12 F) ⟨⟩) (FGSd_12 F) (.inl rfl)
def TGSd_14 (F : Nat) : List Ent := e119 F :: TGSd_13 F
theorem FGSd_14 (F : Nat) : Fits2 Try.prog (tD (TGSd_14 F)) (tS (TGSd_14 F)) := fits_cons (o119 (FGSd_13 F) ⟨fun _ _ r h => p56 h, rfl, fun _ _ r h => p72 h, rfl, fun _ _ r h => p66 h, rfl⟩) (FGSd_13 F) (.inl rfl)
def TGSd_15 (F : Nat) : List Ent := e91 F :: TGSd_14 F
theorem FGSd_15 (F : Nat) : Fits2 Try.prog (tD (TGSd_15 F)) (tS (TGSd_15 F)) := fits_cons (o91 (FGSd_14 F) ⟨fun _ r h => p119 h, rfl⟩) (FGSd_14 F) (.inl rfl)
def TGSd_16 (F : Nat) : List Ent := e98 F :: TGSd_15 F
theorem FGSd_16 (F : Nat) : Fits2 Try.prog (tD (TGSd_16 F)) (tS (TGSd_16 F)) := fits_cons (o98 (FGSd_15 F) ⟨⟩) (FGSd_15 F) (.inl rfl)
def TGSd_17 (F : Nat) : List Ent := e98o F :: TGSd_16 F
theorem FGSd_17 (F : Nat) : Fits2 Try.prog (tD (TGSd_17 F)) (tS (TGSd_17 F)) := fits_cons (o98o (FGSd_16 F) ⟨⟩) (FGSd_16 F) (.inl rfl)
def TGSd_18 (F : Nat) : List Ent := e90 F F :: TGSd_17 F
theorem QGSd_18 (F : Nat) : ∀ k, Fits2 Try.prog (tD (e90 F k :: TGSd_17 F)) (tS (e90 F k :: TGSd_17 F))
  | 0 => fits_cons z90 (FGSd_17 F) (.inl rfl)
  | k + 1 => fits_cons (o90 (QGSd_18 F k) ⟨fun _ _ r h => p72 h, rfl, fun _ _ r h => p68 h, rfl, fun _ r h => p98o h, rfl, fun _ _ _ r h => p90 (k := k) h, rfl⟩) (FGSd_17 F) (.inl rfl)
theorem FGSd_18 (F : Nat) : Fits2 Try.prog (tD (TGSd_18 F)) (tS (TGSd_18 F)) := QGSd_18 F F
def TGSd_19 (F : Nat) : List Ent := e43 F :: TGSd_18 F
theorem FGSd_19 (F : Nat) : Fits2 Try.prog (tD (TGSd_19 F)) (tS (TGSd_19 F)) := fits_cons (o43 (FGSd_18 F) ⟨fun _ r h => p48 h, rfl, fun _ r h => p91 h, rfl, fun _ _ _ r h => p90 (k := F) h, rfl⟩) (FGSd_18 F) (.inl rfl)
def TGSd_20 (F : Nat) : List Ent := e100 F :: TGSd_19 F
theorem FGSd_20 (F : Nat) : Fits2 Try.prog (tD (TGSd_20 F)) (tS (TGSd_20 F)) := fits_cons (o100 (FGSd_19 F) ⟨⟩) (FGSd_19 F) (.inl rfl)
def TGSd_21 (F : Nat) : List Ent := e126 F :: TGSd_20 F
theorem FGSd_21 (F : Nat) : Fits2 Try.prog (tD (TGSd_21 F)) (tS (TGSd_21 F)) := fits_cons (o126 (FGSd_20 F) ⟨⟩) (FGSd_20 F) (.inl rfl)
def TGSd_22 (F : Nat) : List Ent := e123 F :: TGSd_21 F
theorem FGSd_22 (F : Nat) : Fits2 Try.prog (tD (TGSd_22 F)) (tS (TGSd_22 F)) := fits_cons (o123 (FGSd_21 F) ⟨fun _ r h => p126 h, rfl⟩) (FGSd_21 F) (.inl rfl)
def TGSd_23 (F : Nat) : List Ent := e101 F :: TGSd_22 F
theorem FGSd_23 (F : Nat) : Fits2 Try.prog (tD (TGSd_23 F)) (tS (TGSd_23 F)) := fits_cons (o101 (FGSd_22 F) ⟨fun _ _ r h => p123 h, rfl⟩) (FGSd_22 F) (.inl rfl)
def TGSd_24 (F : Nat) : List Ent := e51 F :: TGSd_23 F
theorem FGSd_24 (F : Nat) : Fits2 Try.prog (tD (TGSd_24 F)) (tS (TGSd_24 F)) := fits_cons (o51 (FGSd_23 F) ⟨fun _ _ _ r h => p100 h, rfl, fun _ _ r h => p101 h, rfl⟩) (FGSd_23 F) (.inl rfl)
def TGSd_25 (F : Nat) : List Ent := e52 F :: TGSd_24 F
theorem FGSd_25 (F : Nat) : Fits2 Try.prog (tD (TGSd_25 F)) (tS (TGSd_25 F)) := fits_cons (o52 (FGSd_24 F) ⟨⟩) (FGSd_24 F) (.inl rfl)
def TGSd_26 (F : Nat) : List Ent := e59 F :: TGSd_25 F
theorem FGSd_26 (F : Nat) : Fits2 Try.prog (tD (TGSd_26 F)) (tS (TGSd_26 F)) := fits_cons (o59 (FGSd_25 F) ⟨⟩) (FGSd_25 F) (.inl rfl)
def TGSd_27 (F : Nat) : List Ent := e60 F :: TGSd_26 F
theorem FGSd_27 (F : Nat) : Fits2 Try.prog (tD (TGSd_27 F)) (tS (TGSd_27 F)) := fits_cons (o60 (FGSd_26 F) ⟨⟩) (FGSd_26 F) (.inl rfl)
def TGSd_28 (F : Nat) : List Ent := e74 F :: TGSd_27 F
theorem FGSd_28 (F : Nat) : Fits2 Try.prog (tD (TGSd_28 F)) (tS (TGSd_28 F)) := fits_cons (o74 (FGSd_27 F) ⟨fun _ r h => p60 h, rfl⟩) (FGSd_27 F) (.inl rfl)
def TGSd_29 (F : Nat) : List Ent := e109 F :: TGSd_28 F
theorem FGSd_29 (F : Nat) : Fits2 Try.prog (tD (TGSd_29 F)) (tS (TGSd_29 F)) := fits_cons (o109 (FGSd_28 F) ⟨⟩) (FGSd_28 F) (.inl rfl)
def TGSd_30 (F : Nat) : List Ent := e67 F :: TGSd_29 F
theorem FGSd_30 (F : Nat) : Fits2 Try.prog (tD (TGSd_30 F)) (tS (TGSd_30 F)) := fits_cons (o67 (FGSd_29 F) ⟨fun _ r h => p109 h, rfl⟩) (FGSd_29 F) (.inl rfl)
def TGSd_31 (F : Nat) : List Ent := e84 F :: TGSd_30 F
theorem FGSd_31 (F : Nat) : Fits2 Try.prog (tD (TGSd_31 F)) (tS (TGSd_31 F)) := fits_cons (o84 (FGSd_30 F) ⟨fun _ _ r h => p74 h, rfl, fun _ r h => p67 h, rfl⟩) (FGSd_30 F) (.inl rfl)
def TGSd_32 (F : Nat) : List Ent := e87s1 F :: TGSd_31 F
theorem FGSd_32 (F : Nat) : Fits2 Try.prog (tD (TGSd_32 F)) (tS (TGSd_32 F)) := fits_cons (o87s1 (FGSd_31 F) ⟨fun _ r h => p59 h, rfl, fun _ r h => p60 h, rfl, fun _ _ _ r h => p84 h, rfl⟩) (FGSd_31 F) (.inl rfl)
def TGSd_33 (F : Nat) : List Ent := e89s1 F :: TGSd_32 F
theorem FGSd_33 (F : Nat) : Fits2 Try.prog (tD (TGSd_33 F)) (tS (TGSd_33 F)) := fits_cons (o89s1 (FGSd_32 F) ⟨fun _ r h => p59 h, rfl, fun _ r h => p60 h, rfl, fun _ _ _ r h => p84 h, rfl⟩) (FGSd_32 F) (.inl rfl)
def TGSd_34 (F : Nat) : List Ent := e89s2o F :: TGSd_33 F
theorem FGSd_34 (F : Nat) : Fits2 Try.prog (tD (TGSd_34 F)) (tS (TGSd_34 F)) := fits_cons (o89s2o (FGSd_33 F) ⟨fun _ r h => p59 h, rfl, fun _ r h => p60 h, rfl, fun _ _ _ r h => p84 h, rfl⟩) (FGSd_33 F) (.inl rfl)
def TGSd_35 (F : Nat) : List Ent := e44o F :: TGSd_34 F
theorem FGSd_35 (F : Nat) : Fits2 Try.prog (tD (TGSd_35 F)) (tS (TGSd_35 F)) := fits_cons (o44o (FGSd_34 F) ⟨fun _ r h => p51 h, rfl, fun _ r h => p52 h, rfl, fun _ _ _ r h => p87s1 h, rfl, fun _ _ _ r h => p89s2o h, rfl⟩) (FGSd_34 F) (.inl rfl)
def TGSd_36 (F : Nat) : List Ent := e19 F :: TGSd_35 F
theorem FGSd_36 (F : Nat) : Fits2 Try.prog (tD (TGSd_36 F)) (tS (TGSd_36 F)) := fits_cons (o19 (FGSd_35 F) ⟨⟩) (FGSd_35 F) (.inl rfl)
def TGSd_37 (F : Nat) : List Ent := e103 F :: TGSd_36 F
theorem FGSd_37 (F : Nat) : Fits2 Try.prog (tD (TGSd_37 F)) (tS (TGSd_37 F)) := fits_cons (o103 (FGSd_36 F) ⟨⟩) (FGSd_36 F) (.inl rfl)
def TGSd_38 (F : Nat) : List Ent := e54 F :: TGSd_37 F
theorem FGSd_38 (F : Nat) : Fits2 Try.prog (tD (TGSd_38 F)) (tS (TGSd_38 F)) := fits_cons (o54 (FGSd_37 F) ⟨fun _ _ r h => p103 h, rfl⟩) (FGSd_37 F) (.inl rfl)
def TGSd_39 (F : Nat) : List Ent := e20 F :: TGSd_38 F
theorem FGSd_39 (F : Nat) : Fits2 Try.prog (tD (TGSd_39 F)) (tS (TGSd_39 F)) := fits_cons (o20 (FGSd_38 F) ⟨fun _ _ r h => p54 h, rfl⟩) (FGSd_38 F) (.inl rfl)
def TGSd_40 (F : Nat) : List Ent := e50o F :: TGSd_39 F
theorem FGSd_40 (F : Nat) : Fits2 Try.prog (tD (TGSd_40 F)) (tS (TGSd_40 F)) := fits_cons (o50o (FGSd_39 F) ⟨fun _ r h => p99 h, rfl⟩) (FGSd_39 F) (.inl rfl)
def TGSd_41 (F : Nat) : List Ent := e17o F :: TGSd_40 F
theorem FGSd_41 (F : Nat) : Fits2 Try.prog (tD (TGSd_41 F)) (tS (TGSd_41 F)) := fits_cons (o17o (FGSd_40 F) ⟨fun _ r h => p50o h, rfl⟩) (FGSd_40 F) (.inl rfl)
def TGSd_42 (F : Nat) : List Ent := e55 F :: TGSd_41 F
theorem FGSd_42 (F : Nat) : Fits2 Try.prog (tD (TGSd_42 F)) (tS (TGSd_42 F)) := fits_cons (o55 (FGSd_41 F) ⟨⟩) (FGSd_41 F) (.inl rfl)
def TGSd_43 (F : Nat) : List Ent := e21 F :: TGSd_42 F
theorem FGSd_43 (F : Nat) : Fits2 Try.prog (tD (TGSd_43 F)) (tS (TGSd_43 F)) := fits_cons (o21 (FGSd_42 F) ⟨fun _ _ r h => p55 h, rfl⟩) (FGSd_42 F) (.inl rfl)
def TGSd_44 (F : Nat) : List Ent := e22 F :: TGSd_43 F
theorem FGSd_44 (F : Nat) : Fits2 Try.prog (tD (TGSd_44 F)) (tS (TGSd_44 F)) := fits_cons (o22 (FGSd_43 F) ⟨⟩) (FGSd_43 F) (.inl rfl)
def TGSd_45 (F : Nat) : List Ent := e23 F :: TGSd_44 F
theorem FGSd_45 (F : Nat) : Fits2 Try.prog (tD (TGSd_45 F)) (tS (TGSd_45 F)) := fits_cons (o23 (FGSd_44 F) ⟨⟩) (FGSd_44 F) (.inl rfl)
def TGSd_46 (F : Nat) : List Ent := e13 F :: TGSd_45 F
theorem FGSd_46 (F : Nat) : Fits2 Try.prog (tD (TGSd_46 F)) (tS (TGSd_46 F)) := fits_cons (o13 (FGSd_45 F) ⟨fun _ _ r h => p15 h, rfl, fun _ r h => p17 h, rfl, fun _ r h => p43 h, rfl, fun _ r h => p17o h, rfl, fun _ r h => p44o h, rfl, fun _ _ r h => p19 h, rfl, fun _ _ r h => p20 h, rfl, fun _ _ r h => p21 h, rfl, fun _ _ r h => p22 h, rfl, fun _ _ r h => p23 h, rfl⟩) (FGSd_45 F) (.inl rfl)
theorem law13 (F : Nat) (x0 : (Int × (List (Int × Int)))) (h : w_FnExactBestLayout F x0 = some true) : Contract Try.prog 13 0 false [Enc.enc x0] (.bool true) := contract_plain ((FGSd_46 F).con 13 _ _ 0 false (p13 h) rfl) rfl rfl
end Go.Zq
