/- The table of the functions' contracts. No further condition. -/
import Derived.Test.YthblbfcloccopaaK3
import Derived.Test.YthblbfcloccopaaProg
import Derived.Test.YthblbfcloccopaaChecked
import Derived.KernelRfl
import Derived.Test.YthblbfcloccopaaG3
set_option linter.unusedVariables false
set_option linter.unusedSimpArgs false
/- Functions of the program, as typed functions, and that the machine runs as they say. -/
namespace Go.Zq
open Go.Proofs
def TGRb_0 (F : Nat) : List Ent := e44 F :: []
theorem FGRb_0 (F : Nat) : Fits2 Try.prog (tD (TGRb_0 F)) (tS (TGRb_0 F)) := fits_cons (o44 (fits_nil) ⟨⟩) (fits_nil) (.inl rfl)
def TGRb_1 (F : Nat) : List Ent := e15 F :: TGRb_0 F
theorem FGRb_1 (F : Nat) : Fits2 Try.prog (tD (TGRb_1 F)) (tS (TGRb_1 F)) := fits_cons (o15 (FGRb_0 F) ⟨fun _ _ r h => p44 h, rfl⟩) (FGRb_0 F) (.inl rfl)
def TGRb_2 (F : Nat) : List Ent := e99 F :: TGRb_1 F
theorem FGRb_2 (F : Nat) : Fits2 Try.prog (tD (TGRb_2 F)) (tS (TGRb_2 F)) := fits_cons (o99 (FGRb_1 F) ⟨⟩) (FGRb_1 F) (.inl rfl)
def TGRb_3 (F : Nat) : List Ent := e49 F :: TGRb_2 F
theorem FGRb_3 (F : Nat) : Fits2 Try.prog (tD (TGRb_3 F)) (tS (TGRb_3 F)) := fits_cons (o49 (FGRb_2 F) ⟨fun _ r h => p99 h, rfl⟩) (FGRb_2 F) (.inl rfl)
def TGRb_4 (F : Nat) : List Ent := e17 F :: TGRb_3 F
theorem FGRb_4 (F : Nat) : Fits2 Try.prog (tD (TGRb_4 F)) (tS (TGRb_4 F)) := fits_cons (o17 (FGRb_3 F) ⟨fun _ r h => p49 h, rfl⟩) (FGRb_3 F) (.inl rfl)
def TGRb_5 (F : Nat) : List Ent := e18 F :: TGRb_4 F
theorem FGRb_5 (F : Nat) : Fits2 Try.prog (tD (TGRb_5 F)) (tS (TGRb_5 F)) := fits_cons (o18 (FGRb_4 F) ⟨⟩) (FGRb_4 F) (.inl rfl)
def TGRb_6 (F : Nat) : List Ent := e62 F :: TGRb_5 F
theorem FGRb_6 (F : Nat) : Fits2 Try.prog (tD (TGRb_6 F)) (tS (TGRb_6 F)) := fits_cons (o62 (FGRb_5 F) ⟨⟩) (FGRb_5 F) (.inl rfl)
def TGRb_7 (F : Nat) : List Ent := e97 F :: TGRb_6 F
theorem FGRb_7 (F : Nat) : Fits2 Try.prog (tD (TGRb_7 F)) (tS (TGRb_7 F)) := fits_cons (o97 (FGRb_6 F) ⟨⟩) (FGRb_6 F) (.inl rfl)
def TGRb_8 (F : Nat) : List Ent := e45 F :: TGRb_7 F
theorem FGRb_8 (F : Nat) : Fits2 Try.prog (tD (TGRb_8 F)) (tS (TGRb_8 F)) := fits_cons (o45 (FGRb_7 F) ⟨fun _ _ _ r h => p62 h, rfl, fun _ _ r h => p97 h, rfl⟩) (FGRb_7 F) (.inl rfl)
def TGRb_9 (F : Nat) : List Ent := e122 F :: TGRb_8 F
theorem FGRb_9 (F : Nat) : Fits2 Try.prog (tD (TGRb_9 F)) (tS (TGRb_9 F)) := fits_cons (o122 (FGRb_8 F) ⟨fun _ _ _ r h => p62 h, rfl⟩) (FGRb_8 F) (.inl rfl)
def TGRb_10 (F : Nat) : List Ent := e83 F :: TGRb_9 F
theorem FGRb_10 (F : Nat) : Fits2 Try.prog (tD (TGRb_10 F)) (tS (TGRb_10 F)) := fits_cons (o83 (FGRb_9 F) ⟨fun _ _ _ r h => p122 h, rfl⟩) (FGRb_9 F) (.inl rfl)
def TGRb_11 (F : Nat) : List Ent := e84 F :: TGRb_10 F
theorem FGRb_11 (F : Nat) : Fits2 Try.prog (tD (TGRb_11 F)) (tS (TGRb_11 F)) := fits_cons (o84 (FGRb_10 F) ⟨fun _ _ _ r h => p62 h, rfl⟩) (FGRb_10 F) (.inl rfl)
def TGRb_12 (F : Nat) : List Ent := e117 F :: TGRb_11 F
theorem FGRb_12 (F : Nat) : Fits2 Try.prog (tD (TGRb_12 F)) (tS (TGRb_12 F)) := fits_cons (o117 (FGRb_11 F) ⟨⟩) (FGRb_11 F) (.inl rfl)
def TGRb_13 (F : Nat) : List Ent := e85 F :: TGRb_12 F
theorem FGRb_13 (F : Nat) : Fits2 Try.prog (tD (TGRb_13 F)) (tS (TGRb_13 F)) := fits_cons (o85 (FGRb_12 F) ⟨fun _ _ _ r h => p117 h, rfl⟩) (FGRb_12 F) (.inl rfl)
def TGRb_14 (F : Nat) : List Ent := e86 F :: TGRb_13 F
theorem FGRb_14 (F : Nat) : Fits2 Try.prog (tD (TGRb_14 F)) (tS (TGRb_14 F)) := fits_cons (o86 (FGRb_13 F) ⟨fun _ _ _ r h => p117 h, rfl⟩) (FGRb_13 F) (.inl rfl)
def TGRb_15 (F : Nat) : List Ent := e36 F :: TGRb_14 F
theorem FGRb_15 (F : Nat) : Fits2 Try.prog (tD (TGRb_15 F)) (tS (TGRb_15 F)) := fits_cons (o36 (FGRb_14 F) ⟨fun _ r h => p45 h, rfl, fun _ _ r h => p83 h, rfl, fun _ r h => p84 h, rfl, fun _ _ r h => p85 h, rfl, fun _ _ _ r h => p86 h, rfl⟩) (FGRb_14 F) (.inl rfl)
def TGRb_16 (F : Nat) : List Ent := e66 F :: TGRb_15 F
theorem FGRb_16 (F : Nat) : Fits2 Try.prog (tD (TGRb_16 F)) (tS (TGRb_16 F)) := fits_cons (o66 (FGRb_15 F) ⟨⟩) (FGRb_15 F) (.inl rfl)
def TGRb_17 (F : Nat) : List Ent := e141 F :: TGRb_16 F
theorem FGRb_17 (F : Nat) : Fits2 Try.prog (tD (TGRb_17 F)) (tS (TGRb_17 F)) := fits_cons (o141 (FGRb_16 F) ⟨⟩) (FGRb_16 F) (.inl rfl)
def TGRb_18 (F : Nat) : List Ent := e131 F :: TGRb_17 F
theorem FGRb_18 (F : Nat) : Fits2 Try.prog (tD (TGRb_18 F)) (tS (TGRb_18 F)) := fits_cons (o131 (FGRb_17 F) ⟨fun _ r h => p141 h, rfl⟩) (FGRb_17 F) (.inl rfl)
def TGRb_19 (F : Nat) : List Ent := e100 F :: TGRb_18 F
theorem FGRb_19 (F : Nat) : Fits2 Try.prog (tD (TGRb_19 F)) (tS (TGRb_19 F)) := fits_cons (o100 (FGRb_18 F) ⟨fun _ _ r h => p131 h, rfl⟩) (FGRb_18 F) (.inl rfl)
def TGRb_20 (F : Nat) : List Ent := e50 F :: TGRb_19 F
theorem FGRb_20 (F : Nat) : Fits2 Try.prog (tD (TGRb_20 F)) (tS (TGRb_20 F)) := fits_cons (o50 (FGRb_19 F) ⟨fun _ _ _ r h => p66 h, rfl, fun _ _ r h => p100 h, rfl⟩) (FGRb_19 F) (.inl rfl)
def TGRb_21 (F : Nat) : List Ent := e101 F :: TGRb_20 F
theorem FGRb_21 (F : Nat) : Fits2 Try.prog (tD (TGRb_21 F)) (tS (TGRb_21 F)) := fits_cons (o101 (FGRb_20 F) ⟨fun _ _ _ r h => p66 h, rfl⟩) (FGRb_20 F) (.inl rfl)
def TGRb_22 (F : Nat) : List Ent := e123 F :: TGRb_21 F
theorem FGRb_22 (F : Nat) : Fits2 Try.prog (tD (TGRb_22 F)) (tS (TGRb_22 F)) := fits_cons (o123 (FGRb_21 F) ⟨fun _ r h => p50 h, rfl, fun _ _ _ r h => p101 h, rfl⟩) (FGRb_21 F) (.inl rfl)
def TGRb_23 (F : Nat) : List Ent := e124 F :: TGRb_22 F
theorem FGRb_23 (F : Nat) : Fits2 Try.prog (tD (TGRb_23 F)) (tS (TGRb_23 F)) := fits_cons (o124 (FGRb_22 F) ⟨⟩) (FGRb_22 F) (.inl rfl)
def TGRb_24 (F : Nat) : List Ent := e87 F :: TGRb_23 F
theorem FGRb_24 (F : Nat) : Fits2 Try.prog (tD (TGRb_24 F)) (tS (TGRb_24 F)) := fits_cons (o87 (FGRb_23 F) ⟨fun _ _ r h => p123 h, rfl, fun _ r h => p124 h, rfl⟩) (FGRb_23 F) (.inl rfl)
def TGRb_25 (F : Nat) : List Ent := e55 F :: TGRb_24 F
theorem FGRb_25 (F : Nat) : Fits2 Try.prog (tD (TGRb_25 F)) (tS (TGRb_25 F)) := fits_cons (o55 (FGRb_24 F) ⟨⟩) (FGRb_24 F) (.inl rfl)
def TGRb_26 (F : Nat) : List Ent := e88 F :: TGRb_25 F
theorem FGRb_26 (F : Nat) : Fits2 Try.prog (tD (TGRb_26 F)) (tS (TGRb_26 F)) := fits_cons (o88 (FGRb_25 F) ⟨⟩) (FGRb_25 F) (.inl rfl)
def TGRb_27 (F : Nat) : List Ent := e103 F :: TGRb_26 F
theorem FGRb_27 (F : Nat) : Fits2 Try.prog (tD (TGRb_27 F)) (tS (TGRb_27 F)) := fits_cons (o103 (FGRb_26 F) ⟨⟩) (FGRb_26 F) (.inl rfl)
def TGRb_28 (F : Nat) : List Ent := e52 F :: TGRb_27 F
theorem FGRb_28 (F : Nat) : Fits2 Try.prog (tD (TGRb_28 F)) (tS (TGRb_28 F)) := fits_cons (o52 (FGRb_27 F) ⟨fun _ r h => p103 h, rfl⟩) (FGRb_27 F) (.inl rfl)
def TGRb_29 (F : Nat) : List Ent := e89 F :: TGRb_28 F
theorem FGRb_29 (F : Nat) : Fits2 Try.prog (tD (TGRb_29 F)) (tS (TGRb_29 F)) := fits_cons (o89 (FGRb_28 F) ⟨fun _ r h => p52 h, rfl⟩) (FGRb_28 F) (.inl rfl)
def TGRb_30 (F : Nat) : List Ent := e118s1 F :: TGRb_29 F
theorem FGRb_30 (F : Nat) : Fits2 Try.prog (tD (TGRb_30 F)) (tS (TGRb_30 F)) := fits_cons (o118s1 (FGRb_29 F) ⟨fun _ _ _ _ r h => p89 h, rfl⟩) (FGRb_29 F) (.inl rfl)
def TGRb_31 (F : Nat) : List Ent := e74s1 F :: TGRb_30 F
theorem FGRb_31 (F : Nat) : Fits2 Try.prog (tD (TGRb_31 F)) (tS (TGRb_31 F)) := fits_cons (o74s1 (FGRb_30 F) ⟨fun _ _ r h => p118s1 h, rfl⟩) (FGRb_30 F) (.inl rfl)
def TGRb_32 (F : Nat) : List Ent := e37 F :: TGRb_31 F
theorem FGRb_32 (F : Nat) : Fits2 Try.prog (tD (TGRb_32 F)) (tS (TGRb_32 F)) := fits_cons (o37 (FGRb_31 F) ⟨fun _ _ r h => p87 h, rfl, fun _ _ _ r h => p66 h, rfl, fun _ r h => p55 h, rfl, fun _ r h => p88 h, rfl, fun _ _ r h => p74s1 h, rfl⟩) (FGRb_31 F) (.inl rfl)
def TGRb_33 (F : Nat) : List Ent := e104 F :: TGRb_32 F
theorem FGRb_33 (F : Nat) : Fits2 Try.prog (tD (TGRb_33 F)) (tS (TGRb_33 F)) := fits_cons (o104 (FGRb_32 F) ⟨⟩) (FGRb_32 F) (.inl rfl)
def TGRb_34 (F : Nat) : List Ent := e53 F :: TGRb_33 F
theorem FGRb_34 (F : Nat) : Fits2 Try.prog (tD (TGRb_34 F)) (tS (TGRb_34 F)) := fits_cons (o53 (FGRb_33 F) ⟨fun _ _ r h => p104 h, rfl⟩) (FGRb_33 F) (.inl rfl)
def TGRb_35 (F : Nat) : List Ent := e20 F :: TGRb_34 F
theorem FGRb_35 (F : Nat) : Fits2 Try.prog (tD (TGRb_35 F)) (tS (TGRb_35 F)) := fits_cons (o20 (FGRb_34 F) ⟨fun _ _ r h => p53 h, rfl⟩) (FGRb_34 F) (.inl rfl)
def TGRb_36 (F : Nat) : List Ent := e21 F :: TGRb_35 F
theorem FGRb_36 (F : Nat) : Fits2 Try.prog (tD (TGRb_36 F)) (tS (TGRb_36 F)) := fits_cons (o21 (FGRb_35 F) ⟨⟩) (FGRb_35 F) (.inl rfl)
def TGRb_37 (F : Nat) : List Ent := e11 F :: TGRb_36 F
theorem FGRb_37 (F : Nat) : Fits2 Try.prog (tD (TGRb_37 F)) (tS (TGRb_37 F)) := fits_cons (o11 (FGRb_36 F) ⟨fun _ _ r h => p15 h, rfl, fun _ r h => p17 h, rfl, fun _ r h => p18 h, rfl, fun _ _ _ r h => p36 h, rfl, fun _ _ _ r h => p37 h, rfl, fun _ _ r h => p20 h, rfl, fun _ _ r h => p21 h, rfl⟩) (FGRb_36 F) (.inl rfl)
theorem law11 (F : Nat) (x0 : (Int × (List (Int × Int)))) (x1 : (List Int)) (x2 : Int) (h : w_FnExactIsStopping F x0 x1 x2 = some true) : Contract Try.prog 11 0 false [Enc.enc x0, Enc.enc x1, Enc.enc x2] (.bool true) := contract_plain ((FGRb_37 F).con 11 _ _ 0 false (p11 h) rfl) rfl rfl
end Go.Zq
