/- The table of the functions' contracts. No further condition. -/
import Derived.Test.YthblbfcloccopaaK3
import Derived.Test.YthblbfcloccopaaProg
import Derived.Test.YthblbfcloccopaaChecked
import Derived.KernelRfl
import Derived.Test.YthblbfcloccopaaG3
set_option linter.unusedVariables false
set_option linter.unusedSimpArgs false
/- Functions of the program, as typed functions, and that the machine runs as they say. -/
namespace Go.Zq
open Go.Proofs
def TGRa_0 (F : Nat) : List Ent := e44 F :: []
theorem FGRa_0 (F : Nat) : Fits2 Try.prog (tD (TGRa_0 F)) (tS (TGRa_0 F)) := fits_cons (o44 (fits_nil) ⟨⟩) (fits_nil) (.inl rfl)
def TGRa_1 (F : Nat) : List Ent := e15 F :: TGRa_0 F
theorem FGRa_1 (F : Nat) : Fits2 Try.prog (tD (TGRa_1 F)) (tS (TGRa_1 F)) := fits_cons (o15 (FGRa_0 F) ⟨fun _ _ r h => p44 h, rfl⟩) (FGRa_0 F) (.inl rfl)
def TGRa_2 (F : Nat) : List Ent := e99 F :: TGRa_1 F
theorem FGRa_2 (F : Nat) : Fits2 Try.prog (tD (TGRa_2 F)) (tS (TGRa_2 F)) := fits_cons (o99 (FGRa_1 F) ⟨⟩) (FGRa_1 F) (.inl rfl)
def TGRa_3 (F : Nat) : List Ent := e49 F :: TGRa_2 F
theorem FGRa_3 (F : Nat) : Fits2 Try.prog (tD (TGRa_3 F)) (tS (TGRa_3 F)) := fits_cons (o49 (FGRa_2 F) ⟨fun _ r h => p99 h, rfl⟩) (FGRa_2 F) (.inl rfl)
def TGRa_4 (F : Nat) : List Ent := e17 F :: TGRa_3 F
theorem FGRa_4 (F : Nat) : Fits2 Try.prog (tD (TGRa_4 F)) (tS (TGRa_4 F)) := fits_cons (o17 (FGRa_3 F) ⟨fun _ r h => p49 h, rfl⟩) (FGRa_3 F) (.inl rfl)
def TGRa_5 (F : Nat) : List Ent := e18 F :: TGRa_4 F
theorem FGRa_5 (F : Nat) : Fits2 Try.prog (tD (TGRa_5 F)) (tS (TGRa_5 F)) := fits_cons (o18 (FGRa_4 F) ⟨⟩) (FGRa_4 F) (.inl rfl)
def TGRa_6 (F : Nat) : List Ent := e62 F :: TGRa_5 F
theorem FGRa_6 (F : Nat) : Fits2 Try.prog (tD (TGRa_6 F)) (tS (TGRa_6 F)) := fits_cons (o62 (FGRa_5 F) ⟨⟩) (FGRa_5 F) (.inl rfl)
def TGRa_7 (F : Nat) : List Ent := e97 F :: TGRa_6 F
theorem FGRa_7 (F : Nat) : Fits2 Try.prog (tD (TGRa_7 F)) (tS (TGRa_7 F)) := fits_cons (o97 (FGRa_6 F) ⟨⟩) (FGRa_6 F) (.inl rfl)
def TGRa_8 (F : Nat) : List Ent := e45 F :: TGRa_7 F
theorem FGRa_8 (F : Nat) : Fits2 Try.prog (tD (TGRa_8 F)) (tS (TGRa_8 F)) := fits_cons (o45 (FGRa_7 F) ⟨fun _ _ _ r h => p62 h, rfl, fun _ _ r h => p97 h, rfl⟩) (FGRa_7 F) (.inl rfl)
def TGRa_9 (F : Nat) : List Ent := e73 F :: TGRa_8 F
theorem FGRa_9 (F : Nat) : Fits2 Try.prog (tD (TGRa_9 F)) (tS (TGRa_9 F)) := fits_cons (o73 (FGRa_8 F) ⟨⟩) (FGRa_8 F) (.inl rfl)
def TGRa_10 (F : Nat) : List Ent := e98 F :: TGRa_9 F
theorem FGRa_10 (F : Nat) : Fits2 Try.prog (tD (TGRa_10 F)) (tS (TGRa_10 F)) := fits_cons (o98 (FGRa_9 F) ⟨⟩) (FGRa_9 F) (.inl rfl)
def TGRa_11 (F : Nat) : List Ent := e117 F :: TGRa_10 F
theorem FGRa_11 (F : Nat) : Fits2 Try.prog (tD (TGRa_11 F)) (tS (TGRa_11 F)) := fits_cons (o117 (FGRa_10 F) ⟨⟩) (FGRa_10 F) (.inl rfl)
def TGRa_12 (F : Nat) : List Ent := e111 F :: TGRa_11 F
theorem FGRa_12 (F : Nat) : Fits2 Try.prog (tD (TGRa_12 F)) (tS (TGRa_12 F)) := fits_cons (o111 (FGRa_11 F) ⟨⟩) (FGRa_11 F) (.inl rfl)
def TGRa_13 (F : Nat) : List Ent := e72 F :: TGRa_12 F
theorem FGRa_13 (F : Nat) : Fits2 Try.prog (tD (TGRa_13 F)) (tS (TGRa_13 F)) := fits_cons (o72 (FGRa_12 F) ⟨fun _ _ r h => p98 h, rfl, fun _ _ _ r h => p117 h, rfl, fun _ _ r h => p111 h, rfl⟩) (FGRa_12 F) (.inl rfl)
def TGRa_14 (F : Nat) : List Ent := e32 F :: TGRa_13 F
theorem FGRa_14 (F : Nat) : Fits2 Try.prog (tD (TGRa_14 F)) (tS (TGRa_14 F)) := fits_cons (o32 (FGRa_13 F) ⟨fun _ r h => p45 h, rfl, fun _ _ r h => p73 h, rfl, fun _ _ _ r h => p72 h, rfl⟩) (FGRa_13 F) (.inl rfl)
def TGRa_15 (F : Nat) : List Ent := e66 F :: TGRa_14 F
theorem FGRa_15 (F : Nat) : Fits2 Try.prog (tD (TGRa_15 F)) (tS (TGRa_15 F)) := fits_cons (o66 (FGRa_14 F) ⟨⟩) (FGRa_14 F) (.inl rfl)
def TGRa_16 (F : Nat) : List Ent := e141 F :: TGRa_15 F
theorem FGRa_16 (F : Nat) : Fits2 Try.prog (tD (TGRa_16 F)) (tS (TGRa_16 F)) := fits_cons (o141 (FGRa_15 F) ⟨⟩) (FGRa_15 F) (.inl rfl)
def TGRa_17 (F : Nat) : List Ent := e131 F :: TGRa_16 F
theorem FGRa_17 (F : Nat) : Fits2 Try.prog (tD (TGRa_17 F)) (tS (TGRa_17 F)) := fits_cons (o131 (FGRa_16 F) ⟨fun _ r h => p141 h, rfl⟩) (FGRa_16 F) (.inl rfl)
def TGRa_18 (F : Nat) : List Ent := e100 F :: TGRa_17 F
theorem FGRa_18 (F : Nat) : Fits2 Try.prog (tD (TGRa_18 F)) (tS (TGRa_18 F)) := fits_cons (o100 (FGRa_17 F) ⟨fun _ _ r h => p131 h, rfl⟩) (FGRa_17 F) (.inl rfl)
def TGRa_19 (F : Nat) : List Ent := e50 F :: TGRa_18 F
theorem FGRa_19 (F : Nat) : Fits2 Try.prog (tD (TGRa_19 F)) (tS (TGRa_19 F)) := fits_cons (o50 (FGRa_18 F) ⟨fun _ _ _ r h => p66 h, rfl, fun _ _ r h => p100 h, rfl⟩) (FGRa_18 F) (.inl rfl)
def TGRa_20 (F : Nat) : List Ent := e75 F :: TGRa_19 F
theorem FGRa_20 (F : Nat) : Fits2 Try.prog (tD (TGRa_20 F)) (tS (TGRa_20 F)) := fits_cons (o75 (FGRa_19 F) ⟨⟩) (FGRa_19 F) (.inl rfl)
def TGRa_21 (F : Nat) : List Ent := e118s1 F :: TGRa_20 F
theorem FGRa_21 (F : Nat) : Fits2 Try.prog (tD (TGRa_21 F)) (tS (TGRa_21 F)) := fits_cons (o118s1 (FGRa_20 F) ⟨fun _ r h => p75 h, rfl⟩) (FGRa_20 F) (.inl rfl)
def TGRa_22 (F : Nat) : List Ent := e74s1 F :: TGRa_21 F
theorem FGRa_22 (F : Nat) : Fits2 Try.prog (tD (TGRa_22 F)) (tS (TGRa_22 F)) := fits_cons (o74s1 (FGRa_21 F) ⟨fun _ _ r h => p118s1 h, rfl⟩) (FGRa_21 F) (.inl rfl)
def TGRa_23 (F : Nat) : List Ent := e55 F :: TGRa_22 F
theorem FGRa_23 (F : Nat) : Fits2 Try.prog (tD (TGRa_23 F)) (tS (TGRa_23 F)) := fits_cons (o55 (FGRa_22 F) ⟨⟩) (FGRa_22 F) (.inl rfl)
def TGRa_24 (F : Nat) : List Ent := e119 F :: TGRa_23 F
theorem FGRa_24 (F : Nat) : Fits2 Try.prog (tD (TGRa_24 F)) (tS (TGRa_24 F)) := fits_cons (o119 (FGRa_23 F) ⟨⟩) (FGRa_23 F) (.inl rfl)
def TGRa_25 (F : Nat) : List Ent := e76 F :: TGRa_24 F
theorem FGRa_25 (F : Nat) : Fits2 Try.prog (tD (TGRa_25 F)) (tS (TGRa_25 F)) := fits_cons (o76 (FGRa_24 F) ⟨fun _ _ r h => p119 h, rfl⟩) (FGRa_24 F) (.inl rfl)
def TGRa_26 (F : Nat) : List Ent := e103 F :: TGRa_25 F
theorem FGRa_26 (F : Nat) : Fits2 Try.prog (tD (TGRa_26 F)) (tS (TGRa_26 F)) := fits_cons (o103 (FGRa_25 F) ⟨⟩) (FGRa_25 F) (.inl rfl)
def TGRa_27 (F : Nat) : List Ent := e52 F :: TGRa_26 F
theorem FGRa_27 (F : Nat) : Fits2 Try.prog (tD (TGRa_27 F)) (tS (TGRa_27 F)) := fits_cons (o52 (FGRa_26 F) ⟨fun _ r h => p103 h, rfl⟩) (FGRa_26 F) (.inl rfl)
def TGRa_28 (F : Nat) : List Ent := e77 F :: TGRa_27 F
theorem FGRa_28 (F : Nat) : Fits2 Try.prog (tD (TGRa_28 F)) (tS (TGRa_28 F)) := fits_cons (o77 (FGRa_27 F) ⟨fun _ r h => p52 h, rfl⟩) (FGRa_27 F) (.inl rfl)
def TGRa_29 (F : Nat) : List Ent := e118s2 F :: TGRa_28 F
theorem FGRa_29 (F : Nat) : Fits2 Try.prog (tD (TGRa_29 F)) (tS (TGRa_29 F)) := fits_cons (o118s2 (FGRa_28 F) ⟨fun _ _ r h => p77 h, rfl⟩) (FGRa_28 F) (.inr rfl)
def TGRa_30 (F : Nat) : List Ent := e74s2 F :: TGRa_29 F
theorem FGRa_30 (F : Nat) : Fits2 Try.prog (tD (TGRa_30 F)) (tS (TGRa_30 F)) := fits_cons (o74s2 (FGRa_29 F) ⟨fun _ _ r h => p118s2 h, rfl⟩) (FGRa_29 F) (.inr rfl)
def TGRa_31 (F : Nat) : List Ent := e33 F :: TGRa_30 F
theorem FGRa_31 (F : Nat) : Fits2 Try.prog (tD (TGRa_31 F)) (tS (TGRa_31 F)) := fits_cons (o33 (FGRa_30 F) ⟨fun _ r h => p50 h, rfl, fun _ _ r h => p74s1 h, rfl, fun _ r h => p55 h, rfl, fun _ _ r h => p76 h, rfl, fun _ _ r h => p74s2 h, rfl⟩) (FGRa_30 F) (.inl rfl)
def TGRa_32 (F : Nat) : List Ent := e104 F :: TGRa_31 F
theorem FGRa_32 (F : Nat) : Fits2 Try.prog (tD (TGRa_32 F)) (tS (TGRa_32 F)) := fits_cons (o104 (FGRa_31 F) ⟨⟩) (FGRa_31 F) (.inl rfl)
def TGRa_33 (F : Nat) : List Ent := e53 F :: TGRa_32 F
theorem FGRa_33 (F : Nat) : Fits2 Try.prog (tD (TGRa_33 F)) (tS (TGRa_33 F)) := fits_cons (o53 (FGRa_32 F) ⟨fun _ _ r h => p104 h, rfl⟩) (FGRa_32 F) (.inl rfl)
def TGRa_34 (F : Nat) : List Ent := e20 F :: TGRa_33 F
theorem FGRa_34 (F : Nat) : Fits2 Try.prog (tD (TGRa_34 F)) (tS (TGRa_34 F)) := fits_cons (o20 (FGRa_33 F) ⟨fun _ _ r h => p53 h, rfl⟩) (FGRa_33 F) (.inl rfl)
def TGRa_35 (F : Nat) : List Ent := e21 F :: TGRa_34 F
theorem FGRa_35 (F : Nat) : Fits2 Try.prog (tD (TGRa_35 F)) (tS (TGRa_35 F)) := fits_cons (o21 (FGRa_34 F) ⟨⟩) (FGRa_34 F) (.inl rfl)
def TGRa_36 (F : Nat) : List Ent := e9 F :: TGRa_35 F
theorem FGRa_36 (F : Nat) : Fits2 Try.prog (tD (TGRa_36 F)) (tS (TGRa_36 F)) := fits_cons (o9 (FGRa_35 F) ⟨fun _ _ r h => p15 h, rfl, fun _ r h => p17 h, rfl, fun _ r h => p18 h, rfl, fun _ _ r h => p32 h, rfl, fun _ _ r h => p33 h, rfl, fun _ _ r h => p20 h, rfl, fun _ _ r h => p21 h, rfl⟩) (FGRa_35 F) (.inl rfl)
theorem law9 (F : Nat) (x0 : (Int × (List (Int × Int)))) (x1 : (List Int)) (h : w_FnExactIsRanking F x0 x1 = some true) : Contract Try.prog 9 0 false [Enc.enc x0, Enc.enc x1] (.bool true) := contract_plain ((FGRa_36 F).con 9 _ _ 0 false (p9 h) rfl) rfl rfl
end Go.Zq
