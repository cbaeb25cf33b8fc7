/- The table of the functions' contracts. No further condition. -/
import Derived.Test.YthblbfcloccopaaK2
import Derived.Test.YthblbfcloccopaaProg
import Derived.Test.YthblbfcloccopaaChecked
import Derived.KernelRfl
import Derived.Test.YthblbfcloccopaaG3
set_option linter.unusedVariables false
set_option linter.unusedSimpArgs false
/- Functions of the program, as typed functions, and that the machine runs as they say. -/
namespace Go.Zq
open Go.Proofs
def TGt4_0 (F : Nat) : List Ent := e44 F :: []
theorem FGt4_0 (F : Nat) : Fits2 Try.prog (tD (TGt4_0 F)) (tS (TGt4_0 F)) := fits_cons (o44 (fits_nil) ⟨⟩) (fits_nil) (.inl rfl)
def TGt4_1 (F : Nat) : List Ent := e15 F :: TGt4_0 F
theorem FGt4_1 (F : Nat) : Fits2 Try.prog (tD (TGt4_1 F)) (tS (TGt4_1 F)) := fits_cons (o15 (FGt4_0 F) ⟨fun _ _ r h => p44 h, rfl⟩) (FGt4_0 F) (.inl rfl)
def TGt4_2 (F : Nat) : List Ent := e99 F :: TGt4_1 F
theorem FGt4_2 (F : Nat) : Fits2 Try.prog (tD (TGt4_2 F)) (tS (TGt4_2 F)) := fits_cons (o99 (FGt4_1 F) ⟨⟩) (FGt4_1 F) (.inl rfl)
def TGt4_3 (F : Nat) : List Ent := e49 F :: TGt4_2 F
theorem FGt4_3 (F : Nat) : Fits2 Try.prog (tD (TGt4_3 F)) (tS (TGt4_3 F)) := fits_cons (o49 (FGt4_2 F) ⟨fun _ r h => p99 h, rfl⟩) (FGt4_2 F) (.inl rfl)
def TGt4_4 (F : Nat) : List Ent := e17 F :: TGt4_3 F
theorem FGt4_4 (F : Nat) : Fits2 Try.prog (tD (TGt4_4 F)) (tS (TGt4_4 F)) := fits_cons (o17 (FGt4_3 F) ⟨fun _ r h => p49 h, rfl⟩) (FGt4_3 F) (.inl rfl)
def TGt4_5 (F : Nat) : List Ent := e62 F :: TGt4_4 F
theorem FGt4_5 (F : Nat) : Fits2 Try.prog (tD (TGt4_5 F)) (tS (TGt4_5 F)) := fits_cons (o62 (FGt4_4 F) ⟨⟩) (FGt4_4 F) (.inl rfl)
def TGt4_6 (F : Nat) : List Ent := e97 F :: TGt4_5 F
theorem FGt4_6 (F : Nat) : Fits2 Try.prog (tD (TGt4_6 F)) (tS (TGt4_6 F)) := fits_cons (o97 (FGt4_5 F) ⟨⟩) (FGt4_5 F) (.inl rfl)
def TGt4_7 (F : Nat) : List Ent := e45 F :: TGt4_6 F
theorem FGt4_7 (F : Nat) : Fits2 Try.prog (tD (TGt4_7 F)) (tS (TGt4_7 F)) := fits_cons (o45 (FGt4_6 F) ⟨fun _ _ _ r h => p62 h, rfl, fun _ _ r h => p97 h, rfl⟩) (FGt4_6 F) (.inl rfl)
def TGt4_8 (F : Nat) : List Ent := e78 F :: TGt4_7 F
theorem FGt4_8 (F : Nat) : Fits2 Try.prog (tD (TGt4_8 F)) (tS (TGt4_8 F)) := fits_cons (o78 (FGt4_7 F) ⟨⟩) (FGt4_7 F) (.inl rfl)
def TGt4_9 (F : Nat) : List Ent := e117 F :: TGt4_8 F
theorem FGt4_9 (F : Nat) : Fits2 Try.prog (tD (TGt4_9 F)) (tS (TGt4_9 F)) := fits_cons (o117 (FGt4_8 F) ⟨⟩) (FGt4_8 F) (.inl rfl)
def TGt4_10 (F : Nat) : List Ent := e98 F :: TGt4_9 F
theorem FGt4_10 (F : Nat) : Fits2 Try.prog (tD (TGt4_10 F)) (tS (TGt4_10 F)) := fits_cons (o98 (FGt4_9 F) ⟨⟩) (FGt4_9 F) (.inl rfl)
def TGt4_11 (F : Nat) : List Ent := e111 F :: TGt4_10 F
theorem FGt4_11 (F : Nat) : Fits2 Try.prog (tD (TGt4_11 F)) (tS (TGt4_11 F)) := fits_cons (o111 (FGt4_10 F) ⟨⟩) (FGt4_10 F) (.inl rfl)
def TGt4_12 (F : Nat) : List Ent := e79 F :: TGt4_11 F
theorem FGt4_12 (F : Nat) : Fits2 Try.prog (tD (TGt4_12 F)) (tS (TGt4_12 F)) := fits_cons (o79 (FGt4_11 F) ⟨fun _ _ _ r h => p117 h, rfl, fun _ _ r h => p98 h, rfl, fun _ _ r h => p111 h, rfl⟩) (FGt4_11 F) (.inl rfl)
def TGt4_13 (F : Nat) : List Ent := e47 F :: TGt4_12 F
theorem FGt4_13 (F : Nat) : Fits2 Try.prog (tD (TGt4_13 F)) (tS (TGt4_13 F)) := fits_cons (o47 (FGt4_12 F) ⟨⟩) (FGt4_12 F) (.inl rfl)
def TGt4_14 (F : Nat) : List Ent := e105 F :: TGt4_13 F
theorem FGt4_14 (F : Nat) : Fits2 Try.prog (tD (TGt4_14 F)) (tS (TGt4_14 F)) := fits_cons (o105 (FGt4_13 F) ⟨fun _ _ r h => p78 h, rfl, fun _ _ r h => p79 h, rfl, fun _ _ r h => p47 h, rfl⟩) (FGt4_13 F) (.inl rfl)
def TGt4_15 (F : Nat) : List Ent := e54 F :: TGt4_14 F
theorem FGt4_15 (F : Nat) : Fits2 Try.prog (tD (TGt4_15 F)) (tS (TGt4_15 F)) := fits_cons (o54 (FGt4_14 F) ⟨fun _ r h => p105 h, rfl⟩) (FGt4_14 F) (.inl rfl)
def TGt4_16 (F : Nat) : List Ent := e22 F :: TGt4_15 F
theorem FGt4_16 (F : Nat) : Fits2 Try.prog (tD (TGt4_16 F)) (tS (TGt4_16 F)) := fits_cons (o22 (FGt4_15 F) ⟨fun _ r h => p45 h, rfl, fun _ r h => p54 h, rfl⟩) (FGt4_15 F) (.inl rfl)
def TGt4_17 (F : Nat) : List Ent := e66 F :: TGt4_16 F
theorem FGt4_17 (F : Nat) : Fits2 Try.prog (tD (TGt4_17 F)) (tS (TGt4_17 F)) := fits_cons (o66 (FGt4_16 F) ⟨⟩) (FGt4_16 F) (.inl rfl)
def TGt4_18 (F : Nat) : List Ent := e141 F :: TGt4_17 F
theorem FGt4_18 (F : Nat) : Fits2 Try.prog (tD (TGt4_18 F)) (tS (TGt4_18 F)) := fits_cons (o141 (FGt4_17 F) ⟨⟩) (FGt4_17 F) (.inl rfl)
def TGt4_19 (F : Nat) : List Ent := e131 F :: TGt4_18 F
theorem FGt4_19 (F : Nat) : Fits2 Try.prog (tD (TGt4_19 F)) (tS (TGt4_19 F)) := fits_cons (o131 (FGt4_18 F) ⟨fun _ r h => p141 h, rfl⟩) (FGt4_18 F) (.inl rfl)
def TGt4_20 (F : Nat) : List Ent := e100 F :: TGt4_19 F
theorem FGt4_20 (F : Nat) : Fits2 Try.prog (tD (TGt4_20 F)) (tS (TGt4_20 F)) := fits_cons (o100 (FGt4_19 F) ⟨fun _ _ r h => p131 h, rfl⟩) (FGt4_19 F) (.inl rfl)
def TGt4_21 (F : Nat) : List Ent := e50 F :: TGt4_20 F
theorem FGt4_21 (F : Nat) : Fits2 Try.prog (tD (TGt4_21 F)) (tS (TGt4_21 F)) := fits_cons (o50 (FGt4_20 F) ⟨fun _ _ _ r h => p66 h, rfl, fun _ _ r h => p100 h, rfl⟩) (FGt4_20 F) (.inl rfl)
def TGt4_22 (F : Nat) : List Ent := e55 F :: TGt4_21 F
theorem FGt4_22 (F : Nat) : Fits2 Try.prog (tD (TGt4_22 F)) (tS (TGt4_22 F)) := fits_cons (o55 (FGt4_21 F) ⟨⟩) (FGt4_21 F) (.inl rfl)
def TGt4_23 (F : Nat) : List Ent := e68 F :: TGt4_22 F
theorem FGt4_23 (F : Nat) : Fits2 Try.prog (tD (TGt4_23 F)) (tS (TGt4_23 F)) := fits_cons (o68 (FGt4_22 F) ⟨⟩) (FGt4_22 F) (.inl rfl)
def TGt4_24 (F : Nat) : List Ent := e121 F :: TGt4_23 F
theorem FGt4_24 (F : Nat) : Fits2 Try.prog (tD (TGt4_24 F)) (tS (TGt4_24 F)) := fits_cons (o121 (FGt4_23 F) ⟨⟩) (FGt4_23 F) (.inl rfl)
def TGt4_25 (F : Nat) : List Ent := e81 F :: TGt4_24 F
theorem FGt4_25 (F : Nat) : Fits2 Try.prog (tD (TGt4_25 F)) (tS (TGt4_25 F)) := fits_cons (o81 (FGt4_24 F) ⟨fun _ r h => p121 h, rfl⟩) (FGt4_24 F) (.inl rfl)
def TGt4_26 (F : Nat) : List Ent := e103 F :: TGt4_25 F
theorem FGt4_26 (F : Nat) : Fits2 Try.prog (tD (TGt4_26 F)) (tS (TGt4_26 F)) := fits_cons (o103 (FGt4_25 F) ⟨⟩) (FGt4_25 F) (.inl rfl)
def TGt4_27 (F : Nat) : List Ent := e52 F :: TGt4_26 F
theorem FGt4_27 (F : Nat) : Fits2 Try.prog (tD (TGt4_27 F)) (tS (TGt4_27 F)) := fits_cons (o52 (FGt4_26 F) ⟨fun _ r h => p103 h, rfl⟩) (FGt4_26 F) (.inl rfl)
def TGt4_28 (F : Nat) : List Ent := e107 F :: TGt4_27 F
theorem FGt4_28 (F : Nat) : Fits2 Try.prog (tD (TGt4_28 F)) (tS (TGt4_28 F)) := fits_cons (o107 (FGt4_27 F) ⟨fun _ _ r h => p81 h, rfl, fun _ r h => p52 h, rfl⟩) (FGt4_27 F) (.inl rfl)
def TGt4_29 (F : Nat) : List Ent := e106s1 F :: TGt4_28 F
theorem FGt4_29 (F : Nat) : Fits2 Try.prog (tD (TGt4_29 F)) (tS (TGt4_29 F)) := fits_cons (o106s1 (FGt4_28 F) ⟨fun _ r h => p68 h, rfl, fun _ r h => p121 h, rfl, fun _ _ _ r h => p107 h, rfl⟩) (FGt4_28 F) (.inl rfl)
def TGt4_30 (F : Nat) : List Ent := e56 F :: TGt4_29 F
theorem FGt4_30 (F : Nat) : Fits2 Try.prog (tD (TGt4_30 F)) (tS (TGt4_30 F)) := fits_cons (o56 (FGt4_29 F) ⟨fun _ _ _ r h => p106s1 h, rfl⟩) (FGt4_29 F) (.inl rfl)
def TGt4_31 (F : Nat) : List Ent := e23 F :: TGt4_30 F
theorem FGt4_31 (F : Nat) : Fits2 Try.prog (tD (TGt4_31 F)) (tS (TGt4_31 F)) := fits_cons (o23 (FGt4_30 F) ⟨fun _ r h => p50 h, rfl, fun _ r h => p55 h, rfl, fun _ r h => p56 h, rfl⟩) (FGt4_30 F) (.inl rfl)
def TGt4_32 (F : Nat) : List Ent := e104 F :: TGt4_31 F
theorem FGt4_32 (F : Nat) : Fits2 Try.prog (tD (TGt4_32 F)) (tS (TGt4_32 F)) := fits_cons (o104 (FGt4_31 F) ⟨⟩) (FGt4_31 F) (.inl rfl)
def TGt4_33 (F : Nat) : List Ent := e53 F :: TGt4_32 F
theorem FGt4_33 (F : Nat) : Fits2 Try.prog (tD (TGt4_33 F)) (tS (TGt4_33 F)) := fits_cons (o53 (FGt4_32 F) ⟨fun _ _ r h => p104 h, rfl⟩) (FGt4_32 F) (.inl rfl)
def TGt4_34 (F : Nat) : List Ent := e20 F :: TGt4_33 F
theorem FGt4_34 (F : Nat) : Fits2 Try.prog (tD (TGt4_34 F)) (tS (TGt4_34 F)) := fits_cons (o20 (FGt4_33 F) ⟨fun _ _ r h => p53 h, rfl⟩) (FGt4_33 F) (.inl rfl)
def TGt4_35 (F : Nat) : List Ent := e4 F :: TGt4_34 F
theorem FGt4_35 (F : Nat) : Fits2 Try.prog (tD (TGt4_35 F)) (tS (TGt4_35 F)) := fits_cons (o4 (FGt4_34 F) ⟨fun _ _ r h => p15 h, rfl, fun _ r h => p17 h, rfl, fun _ r h => p22 h, rfl, fun _ r h => p23 h, rfl, fun _ _ r h => p20 h, rfl⟩) (FGt4_34 F) (.inl rfl)
theorem law4 (F : Nat) (x0 : (Int × (List (Int × Int)))) (h : w_FnExactPathwidthOf F x0 = some true) : Contract Try.prog 4 0 false [Enc.enc x0] (.bool true) := (FGt4_35 F).con 4 _ _ 0 false (p4 h) rfl
end Go.Zq
