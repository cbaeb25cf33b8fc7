/- The table of the functions' contracts. No further condition. -/
import Derived.Test.YtonidecbmdpfhaaK3
import Derived.Test.YtonidecbmdpfhaaKC
import Derived.Test.YtonidecbmdpfhaaProg
import Derived.Test.YtonidecbmdpfhaaChecked
import Derived.KernelRfl
import Derived.Test.YtonidecbmdpfhaaG3
set_option linter.unusedVariables false
set_option linter.unusedSimpArgs false
/- Functions of the program, as typed functions, and that the machine runs as they say. -/
namespace Go.Zq
open Go.Proofs Go.Shelf
def TGT3_0 (F : Nat) : List Ent := e47 F :: []
theorem FGT3_0 (F : Nat) : Fits2 Try.prog (tD (TGT3_0 F)) (tS (TGT3_0 F)) := fits_cons (o47 (fits_nil) ⟨⟩) (fits_nil) (.inl rfl)
def TGT3_1 (F : Nat) : List Ent := e15 F :: TGT3_0 F
theorem FGT3_1 (F : Nat) : Fits2 Try.prog (tD (TGT3_1 F)) (tS (TGT3_1 F)) := fits_cons (o15 (FGT3_0 F) ⟨fun _ _ r h => p47 h, rfl⟩) (FGT3_0 F) (.inl rfl)
def TGT3_2 (F : Nat) : List Ent := e99 F :: TGT3_1 F
theorem FGT3_2 (F : Nat) : Fits2 Try.prog (tD (TGT3_2 F)) (tS (TGT3_2 F)) := fits_cons (o99 (FGT3_1 F) ⟨⟩) (FGT3_1 F) (.inl rfl)
def TGT3_3 (F : Nat) : List Ent := e50 F :: TGT3_2 F
theorem FGT3_3 (F : Nat) : Fits2 Try.prog (tD (TGT3_3 F)) (tS (TGT3_3 F)) := fits_cons (o50 (FGT3_2 F) ⟨fun _ r h => p99 h, rfl⟩) (FGT3_2 F) (.inl rfl)
def TGT3_4 (F : Nat) : List Ent := e17 F :: TGT3_3 F
theorem FGT3_4 (F : Nat) : Fits2 Try.prog (tD (TGT3_4 F)) (tS (TGT3_4 F)) := fits_cons (o17 (FGT3_3 F) ⟨fun _ r h => p50 h, rfl⟩) (FGT3_3 F) (.inl rfl)
def TGT3_5 (F : Nat) : List Ent := e95 F :: TGT3_4 F
theorem FGT3_5 (F : Nat) : Fits2 Try.prog (tD (TGT3_5 F)) (tS (TGT3_5 F)) := fits_cons (o95 (FGT3_4 F) ⟨⟩) (FGT3_4 F) (.inl rfl)
def TGT3_6 (F : Nat) : List Ent := e96 F :: TGT3_5 F
theorem FGT3_6 (F : Nat) : Fits2 Try.prog (tD (TGT3_6 F)) (tS (TGT3_6 F)) := fits_cons (o96 (FGT3_5 F) ⟨⟩) (FGT3_5 F) (.inl rfl)
def TGT3_7 (F : Nat) : List Ent := e48 F :: TGT3_6 F
theorem FGT3_7 (F : Nat) : Fits2 Try.prog (tD (TGT3_7 F)) (tS (TGT3_7 F)) := fits_cons (o48 (FGT3_6 F) ⟨fun _ _ _ r h => p95 h, rfl, fun _ _ r h => p96 h, rfl⟩) (FGT3_6 F) (.inl rfl)
def TGT3_8 (F : Nat) : List Ent := e68 F :: TGT3_7 F
theorem FGT3_8 (F : Nat) : Fits2 Try.prog (tD (TGT3_8 F)) (tS (TGT3_8 F)) := fits_cons (o68 (FGT3_7 F) ⟨⟩) (FGT3_7 F) (.inl rfl)
def TGT3_9 (F : Nat) : List Ent := e97 F :: TGT3_8 F
theorem FGT3_9 (F : Nat) : Fits2 Try.prog (tD (TGT3_9 F)) (tS (TGT3_9 F)) := fits_cons (o97 (FGT3_8 F) ⟨⟩) (FGT3_8 F) (.inl rfl)
def TGT3_10 (F : Nat) : List Ent := e98 F :: TGT3_9 F
theorem FGT3_10 (F : Nat) : Fits2 Try.prog (tD (TGT3_10 F)) (tS (TGT3_10 F)) := fits_cons (o98 (FGT3_9 F) ⟨⟩) (FGT3_9 F) (.inl rfl)
def TGT3_11 (F : Nat) : List Ent := e98o F :: TGT3_10 F
theorem FGT3_11 (F : Nat) : Fits2 Try.prog (tD (TGT3_11 F)) (tS (TGT3_11 F)) := fits_cons (o98o (FGT3_10 F) ⟨⟩) (FGT3_10 F) (.inl rfl)
def TGT3_12 (F : Nat) : List Ent := e49 F F :: TGT3_11 F
theorem QGT3_12 (F : Nat) : ∀ k, Fits2 Try.prog (tD (e49 F k :: TGT3_11 F)) (tS (e49 F k :: TGT3_11 F))
  | 0 => fits_cons z49 (FGT3_11 F) (.inl rfl)
  | k + 1 => fits_cons (o49 (QGT3_12 F k) ⟨fun _ _ r h => p68 h, rfl, fun _ _ _ r h => p97 h, rfl, fun _ r h => p98o h, rfl, fun _ _ r h => p49 (k := k) h, rfl⟩) (FGT3_11 F) (.inl rfl)
theorem FGT3_12 (F : Nat) : Fits2 Try.prog (tD (TGT3_12 F)) (tS (TGT3_12 F)) := QGT3_12 F F
def TGT3_13 (F : Nat) : List Ent := e16 F :: TGT3_12 F
theorem FGT3_13 (F : Nat) : Fits2 Try.prog (tD (TGT3_13 F)) (tS (TGT3_13 F)) := fits_cons (o16 (FGT3_12 F) ⟨fun _ r h => p48 h, rfl, fun _ _ r h => p49 (k := F) h, rfl⟩) (FGT3_12 F) (.inl rfl)
def TGT3_14 (F : Nat) : List Ent := e100 F :: TGT3_13 F
theorem FGT3_14 (F : Nat) : Fits2 Try.prog (tD (TGT3_14 F)) (tS (TGT3_14 F)) := fits_cons (o100 (FGT3_13 F) ⟨⟩) (FGT3_13 F) (.inl rfl)
def TGT3_15 (F : Nat) : List Ent := e126 F :: TGT3_14 F
theorem FGT3_15 (F : Nat) : Fits2 Try.prog (tD (TGT3_15 F)) (tS (TGT3_15 F)) := fits_cons (o126 (FGT3_14 F) ⟨⟩) (FGT3_14 F) (.inl rfl)
def TGT3_16 (F : Nat) : List Ent := e123 F :: TGT3_15 F
theorem FGT3_16 (F : Nat) : Fits2 Try.prog (tD (TGT3_16 F)) (tS (TGT3_16 F)) := fits_cons (o123 (FGT3_15 F) ⟨fun _ r h => p126 h, rfl⟩) (FGT3_15 F) (.inl rfl)
def TGT3_17 (F : Nat) : List Ent := e101 F :: TGT3_16 F
theorem FGT3_17 (F : Nat) : Fits2 Try.prog (tD (TGT3_17 F)) (tS (TGT3_17 F)) := fits_cons (o101 (FGT3_16 F) ⟨fun _ _ r h => p123 h, rfl⟩) (FGT3_16 F) (.inl rfl)
def TGT3_18 (F : Nat) : List Ent := e51 F :: TGT3_17 F
theorem FGT3_18 (F : Nat) : Fits2 Try.prog (tD (TGT3_18 F)) (tS (TGT3_18 F)) := fits_cons (o51 (FGT3_17 F) ⟨fun _ _ _ r h => p100 h, rfl, fun _ _ r h => p101 h, rfl⟩) (FGT3_17 F) (.inl rfl)
def TGT3_19 (F : Nat) : List Ent := e52 F :: TGT3_18 F
theorem FGT3_19 (F : Nat) : Fits2 Try.prog (tD (TGT3_19 F)) (tS (TGT3_19 F)) := fits_cons (o52 (FGT3_18 F) ⟨⟩) (FGT3_18 F) (.inl rfl)
def TGT3_20 (F : Nat) : List Ent := e102 F :: TGT3_19 F
theorem FGT3_20 (F : Nat) : Fits2 Try.prog (tD (TGT3_20 F)) (tS (TGT3_20 F)) := fits_cons (o102 (FGT3_19 F) ⟨⟩) (FGT3_19 F) (.inl rfl)
def TGT3_21 (F : Nat) : List Ent := e75 F :: TGT3_20 F
theorem FGT3_21 (F : Nat) : Fits2 Try.prog (tD (TGT3_21 F)) (tS (TGT3_21 F)) := fits_cons (o75 (FGT3_20 F) ⟨⟩) (FGT3_20 F) (.inl rfl)
def TGT3_22 (F : Nat) : List Ent := e60 F :: TGT3_21 F
theorem FGT3_22 (F : Nat) : Fits2 Try.prog (tD (TGT3_22 F)) (tS (TGT3_22 F)) := fits_cons (o60 (FGT3_21 F) ⟨⟩) (FGT3_21 F) (.inl rfl)
def TGT3_23 (F : Nat) : List Ent := e102o F :: TGT3_22 F
theorem FGT3_23 (F : Nat) : Fits2 Try.prog (tD (TGT3_23 F)) (tS (TGT3_23 F)) := fits_cons (o102o (FGT3_22 F) ⟨⟩) (FGT3_22 F) (.inl rfl)
def TGT3_24 (F : Nat) : List Ent := e53 F F :: TGT3_23 F
theorem QGT3_24 (F : Nat) : ∀ k, Fits2 Try.prog (tD (e53 F k :: TGT3_23 F)) (tS (e53 F k :: TGT3_23 F))
  | 0 => fits_cons z53 (FGT3_23 F) (.inl rfl)
  | k + 1 => fits_cons (o53 (QGT3_24 F k) ⟨fun _ r h => p102 h, rfl, fun _ r h => p75 h, rfl, fun _ r h => p60 h, rfl, fun _ r h => p102o h, rfl, fun _ _ _ r h => p53 (k := k) h, rfl⟩) (FGT3_23 F) (.inl rfl)
theorem FGT3_24 (F : Nat) : Fits2 Try.prog (tD (TGT3_24 F)) (tS (TGT3_24 F)) := QGT3_24 F F
def TGT3_25 (F : Nat) : List Ent := e53o F F :: TGT3_24 F
theorem QGT3_25 (F : Nat) : ∀ k, Fits2 Try.prog (tD (e53o F k :: TGT3_24 F)) (tS (e53o F k :: TGT3_24 F))
  | 0 => fits_cons z53o (FGT3_24 F) (.inl rfl)
  | k + 1 => fits_cons (o53o (QGT3_25 F k) ⟨fun _ r h => p102o h, rfl, fun _ r h => p75 h, rfl, fun _ r h => p60 h, rfl, fun _ _ _ r h => p53o (k := k) h, rfl⟩) (FGT3_24 F) (.inl rfl)
theorem FGT3_25 (F : Nat) : Fits2 Try.prog (tD (TGT3_25 F)) (tS (TGT3_25 F)) := QGT3_25 F F
def TGT3_26 (F : Nat) : List Ent := e18o F :: TGT3_25 F
theorem FGT3_26 (F : Nat) : Fits2 Try.prog (tD (TGT3_26 F)) (tS (TGT3_26 F)) := fits_cons (o18o (FGT3_25 F) ⟨fun _ r h => p51 h, rfl, fun _ r h => p52 h, rfl, fun _ _ _ r h => p53o (k := F) h, rfl⟩) (FGT3_25 F) (.inl rfl)
def TGT3_27 (F : Nat) : List Ent := e19 F :: TGT3_26 F
theorem FGT3_27 (F : Nat) : Fits2 Try.prog (tD (TGT3_27 F)) (tS (TGT3_27 F)) := fits_cons (o19 (FGT3_26 F) ⟨⟩) (FGT3_26 F) (.inl rfl)
def TGT3_28 (F : Nat) : List Ent := e103 F :: TGT3_27 F
theorem FGT3_28 (F : Nat) : Fits2 Try.prog (tD (TGT3_28 F)) (tS (TGT3_28 F)) := fits_cons (o103 (FGT3_27 F) ⟨⟩) (FGT3_27 F) (.inl rfl)
def TGT3_29 (F : Nat) : List Ent := e54 F :: TGT3_28 F
theorem FGT3_29 (F : Nat) : Fits2 Try.prog (tD (TGT3_29 F)) (tS (TGT3_29 F)) := fits_cons (o54 (FGT3_28 F) ⟨fun _ _ r h => p103 h, rfl⟩) (FGT3_28 F) (.inl rfl)
def TGT3_30 (F : Nat) : List Ent := e20 F :: TGT3_29 F
theorem FGT3_30 (F : Nat) : Fits2 Try.prog (tD (TGT3_30 F)) (tS (TGT3_30 F)) := fits_cons (o20 (FGT3_29 F) ⟨fun _ _ r h => p54 h, rfl⟩) (FGT3_29 F) (.inl rfl)
def TGT3_31 (F : Nat) : List Ent := e50o F :: TGT3_30 F
theorem FGT3_31 (F : Nat) : Fits2 Try.prog (tD (TGT3_31 F)) (tS (TGT3_31 F)) := fits_cons (o50o (FGT3_30 F) ⟨fun _ r h => p99 h, rfl⟩) (FGT3_30 F) (.inl rfl)
def TGT3_32 (F : Nat) : List Ent := e17o F :: TGT3_31 F
theorem FGT3_32 (F : Nat) : Fits2 Try.prog (tD (TGT3_32 F)) (tS (TGT3_32 F)) := fits_cons (o17o (FGT3_31 F) ⟨fun _ r h => p50o h, rfl⟩) (FGT3_31 F) (.inl rfl)
def TGT3_33 (F : Nat) : List Ent := e55 F :: TGT3_32 F
theorem FGT3_33 (F : Nat) : Fits2 Try.prog (tD (TGT3_33 F)) (tS (TGT3_33 F)) := fits_cons (o55 (FGT3_32 F) ⟨⟩) (FGT3_32 F) (.inl rfl)
def TGT3_34 (F : Nat) : List Ent := e21 F :: TGT3_33 F
theorem FGT3_34 (F : Nat) : Fits2 Try.prog (tD (TGT3_34 F)) (tS (TGT3_34 F)) := fits_cons (o21 (FGT3_33 F) ⟨fun _ _ r h => p55 h, rfl⟩) (FGT3_33 F) (.inl rfl)
def TGT3_35 (F : Nat) : List Ent := e22 F :: TGT3_34 F
theorem FGT3_35 (F : Nat) : Fits2 Try.prog (tD (TGT3_35 F)) (tS (TGT3_35 F)) := fits_cons (o22 (FGT3_34 F) ⟨⟩) (FGT3_34 F) (.inl rfl)
def TGT3_36 (F : Nat) : List Ent := e23 F :: TGT3_35 F
theorem FGT3_36 (F : Nat) : Fits2 Try.prog (tD (TGT3_36 F)) (tS (TGT3_36 F)) := fits_cons (o23 (FGT3_35 F) ⟨⟩) (FGT3_35 F) (.inl rfl)
def TGT3_37 (F : Nat) : List Ent := e3 F :: TGT3_36 F
theorem FGT3_37 (F : Nat) : Fits2 Try.prog (tD (TGT3_37 F)) (tS (TGT3_37 F)) := fits_cons (o3 (FGT3_36 F) ⟨fun _ _ r h => p15 h, rfl, fun _ r h => p17 h, rfl, fun _ r h => p16 h, rfl, fun _ r h => p17o h, rfl, fun _ r h => p18o h, rfl, fun _ _ r h => p19 h, rfl, fun _ _ r h => p20 h, rfl, fun _ _ r h => p21 h, rfl, fun _ _ r h => p22 h, rfl, fun _ _ r h => p23 h, rfl⟩) (FGT3_36 F) (.inl rfl)
theorem law3 (F : Nat) (x0 : (Int × (List (Int × Int)))) (h : w_FnExactLongestPath F x0 = some true) : Contract Try.prog 3 0 false [Enc.enc x0] (.bool true) := contract_plain ((FGT3_37 F).con 3 _ _ 0 false (p3 h) rfl) rfl rfl
end Go.Zq
