/- The table of the functions' contracts. No further condition. -/
import Derived.Test.YthblbfcloccopaaK2
import Derived.Test.YthblbfcloccopaaProg
import Derived.Test.YthblbfcloccopaaChecked
import Derived.KernelRfl
import Derived.Test.YthblbfcloccopaaG3
set_option linter.unusedVariables false
set_option linter.unusedSimpArgs false
/- Functions of the program, as typed functions, and that the machine runs as they say. -/
namespace Go.Zq
open Go.Proofs
def TGt8_0 (F : Nat) : List Ent := e44 F :: []
theorem FGt8_0 (F : Nat) : Fits2 Try.prog (tD (TGt8_0 F)) (tS (TGt8_0 F)) := fits_cons (o44 (fits_nil) ⟨⟩) (fits_nil) (.inl rfl)
def TGt8_1 (F : Nat) : List Ent := e15 F :: TGt8_0 F
theorem FGt8_1 (F : Nat) : Fits2 Try.prog (tD (TGt8_1 F)) (tS (TGt8_1 F)) := fits_cons (o15 (FGt8_0 F) ⟨fun _ _ r h => p44 h, rfl⟩) (FGt8_0 F) (.inl rfl)
def TGt8_2 (F : Nat) : List Ent := e99 F :: TGt8_1 F
theorem FGt8_2 (F : Nat) : Fits2 Try.prog (tD (TGt8_2 F)) (tS (TGt8_2 F)) := fits_cons (o99 (FGt8_1 F) ⟨⟩) (FGt8_1 F) (.inl rfl)
def TGt8_3 (F : Nat) : List Ent := e49 F :: TGt8_2 F
theorem FGt8_3 (F : Nat) : Fits2 Try.prog (tD (TGt8_3 F)) (tS (TGt8_3 F)) := fits_cons (o49 (FGt8_2 F) ⟨fun _ r h => p99 h, rfl⟩) (FGt8_2 F) (.inl rfl)
def TGt8_4 (F : Nat) : List Ent := e17 F :: TGt8_3 F
theorem FGt8_4 (F : Nat) : Fits2 Try.prog (tD (TGt8_4 F)) (tS (TGt8_4 F)) := fits_cons (o17 (FGt8_3 F) ⟨fun _ r h => p49 h, rfl⟩) (FGt8_3 F) (.inl rfl)
def TGt8_5 (F : Nat) : List Ent := e62 F :: TGt8_4 F
theorem FGt8_5 (F : Nat) : Fits2 Try.prog (tD (TGt8_5 F)) (tS (TGt8_5 F)) := fits_cons (o62 (FGt8_4 F) ⟨⟩) (FGt8_4 F) (.inl rfl)
def TGt8_6 (F : Nat) : List Ent := e97 F :: TGt8_5 F
theorem FGt8_6 (F : Nat) : Fits2 Try.prog (tD (TGt8_6 F)) (tS (TGt8_6 F)) := fits_cons (o97 (FGt8_5 F) ⟨⟩) (FGt8_5 F) (.inl rfl)
def TGt8_7 (F : Nat) : List Ent := e45 F :: TGt8_6 F
theorem FGt8_7 (F : Nat) : Fits2 Try.prog (tD (TGt8_7 F)) (tS (TGt8_7 F)) := fits_cons (o45 (FGt8_6 F) ⟨fun _ _ _ r h => p62 h, rfl, fun _ _ r h => p97 h, rfl⟩) (FGt8_6 F) (.inl rfl)
def TGt8_8 (F : Nat) : List Ent := e78 F :: TGt8_7 F
theorem FGt8_8 (F : Nat) : Fits2 Try.prog (tD (TGt8_8 F)) (tS (TGt8_8 F)) := fits_cons (o78 (FGt8_7 F) ⟨⟩) (FGt8_7 F) (.inl rfl)
def TGt8_9 (F : Nat) : List Ent := e98 F :: TGt8_8 F
theorem FGt8_9 (F : Nat) : Fits2 Try.prog (tD (TGt8_9 F)) (tS (TGt8_9 F)) := fits_cons (o98 (FGt8_8 F) ⟨⟩) (FGt8_8 F) (.inl rfl)
def TGt8_10 (F : Nat) : List Ent := e117 F :: TGt8_9 F
theorem FGt8_10 (F : Nat) : Fits2 Try.prog (tD (TGt8_10 F)) (tS (TGt8_10 F)) := fits_cons (o117 (FGt8_9 F) ⟨⟩) (FGt8_9 F) (.inl rfl)
def TGt8_11 (F : Nat) : List Ent := e85 F :: TGt8_10 F
theorem FGt8_11 (F : Nat) : Fits2 Try.prog (tD (TGt8_11 F)) (tS (TGt8_11 F)) := fits_cons (o85 (FGt8_10 F) ⟨fun _ _ _ r h => p117 h, rfl⟩) (FGt8_10 F) (.inl rfl)
def TGt8_12 (F : Nat) : List Ent := e111 F :: TGt8_11 F
theorem FGt8_12 (F : Nat) : Fits2 Try.prog (tD (TGt8_12 F)) (tS (TGt8_12 F)) := fits_cons (o111 (FGt8_11 F) ⟨⟩) (FGt8_11 F) (.inl rfl)
def TGt8_13 (F : Nat) : List Ent := e129 F :: TGt8_12 F
theorem FGt8_13 (F : Nat) : Fits2 Try.prog (tD (TGt8_13 F)) (tS (TGt8_13 F)) := fits_cons (o129 (FGt8_12 F) ⟨fun _ _ r h => p85 h, rfl, fun _ _ r h => p98 h, rfl, fun _ _ r h => p111 h, rfl⟩) (FGt8_12 F) (.inl rfl)
def TGt8_14 (F : Nat) : List Ent := e47 F :: TGt8_13 F
theorem FGt8_14 (F : Nat) : Fits2 Try.prog (tD (TGt8_14 F)) (tS (TGt8_14 F)) := fits_cons (o47 (FGt8_13 F) ⟨⟩) (FGt8_13 F) (.inl rfl)
def TGt8_15 (F : Nat) : List Ent := e115 F :: TGt8_14 F
theorem FGt8_15 (F : Nat) : Fits2 Try.prog (tD (TGt8_15 F)) (tS (TGt8_15 F)) := fits_cons (o115 (FGt8_14 F) ⟨fun _ _ r h => p78 h, rfl, fun _ _ r h => p98 h, rfl, fun _ _ _ r h => p129 h, rfl, fun _ _ r h => p47 h, rfl⟩) (FGt8_14 F) (.inl rfl)
def TGt8_16 (F : Nat) : List Ent := e70 F :: TGt8_15 F
theorem FGt8_16 (F : Nat) : Fits2 Try.prog (tD (TGt8_16 F)) (tS (TGt8_16 F)) := fits_cons (o70 (FGt8_15 F) ⟨fun _ r h => p115 h, rfl⟩) (FGt8_15 F) (.inl rfl)
def TGt8_17 (F : Nat) : List Ent := e30 F :: TGt8_16 F
theorem FGt8_17 (F : Nat) : Fits2 Try.prog (tD (TGt8_17 F)) (tS (TGt8_17 F)) := fits_cons (o30 (FGt8_16 F) ⟨fun _ r h => p45 h, rfl, fun _ r h => p70 h, rfl⟩) (FGt8_16 F) (.inl rfl)
def TGt8_18 (F : Nat) : List Ent := e66 F :: TGt8_17 F
theorem FGt8_18 (F : Nat) : Fits2 Try.prog (tD (TGt8_18 F)) (tS (TGt8_18 F)) := fits_cons (o66 (FGt8_17 F) ⟨⟩) (FGt8_17 F) (.inl rfl)
def TGt8_19 (F : Nat) : List Ent := e141 F :: TGt8_18 F
theorem FGt8_19 (F : Nat) : Fits2 Try.prog (tD (TGt8_19 F)) (tS (TGt8_19 F)) := fits_cons (o141 (FGt8_18 F) ⟨⟩) (FGt8_18 F) (.inl rfl)
def TGt8_20 (F : Nat) : List Ent := e131 F :: TGt8_19 F
theorem FGt8_20 (F : Nat) : Fits2 Try.prog (tD (TGt8_20 F)) (tS (TGt8_20 F)) := fits_cons (o131 (FGt8_19 F) ⟨fun _ r h => p141 h, rfl⟩) (FGt8_19 F) (.inl rfl)
def TGt8_21 (F : Nat) : List Ent := e100 F :: TGt8_20 F
theorem FGt8_21 (F : Nat) : Fits2 Try.prog (tD (TGt8_21 F)) (tS (TGt8_21 F)) := fits_cons (o100 (FGt8_20 F) ⟨fun _ _ r h => p131 h, rfl⟩) (FGt8_20 F) (.inl rfl)
def TGt8_22 (F : Nat) : List Ent := e50 F :: TGt8_21 F
theorem FGt8_22 (F : Nat) : Fits2 Try.prog (tD (TGt8_22 F)) (tS (TGt8_22 F)) := fits_cons (o50 (FGt8_21 F) ⟨fun _ _ _ r h => p66 h, rfl, fun _ _ r h => p100 h, rfl⟩) (FGt8_21 F) (.inl rfl)
def TGt8_23 (F : Nat) : List Ent := e55 F :: TGt8_22 F
theorem FGt8_23 (F : Nat) : Fits2 Try.prog (tD (TGt8_23 F)) (tS (TGt8_23 F)) := fits_cons (o55 (FGt8_22 F) ⟨⟩) (FGt8_22 F) (.inl rfl)
def TGt8_24 (F : Nat) : List Ent := e68 F :: TGt8_23 F
theorem FGt8_24 (F : Nat) : Fits2 Try.prog (tD (TGt8_24 F)) (tS (TGt8_24 F)) := fits_cons (o68 (FGt8_23 F) ⟨⟩) (FGt8_23 F) (.inl rfl)
def TGt8_25 (F : Nat) : List Ent := e121 F :: TGt8_24 F
theorem FGt8_25 (F : Nat) : Fits2 Try.prog (tD (TGt8_25 F)) (tS (TGt8_25 F)) := fits_cons (o121 (FGt8_24 F) ⟨⟩) (FGt8_24 F) (.inl rfl)
def TGt8_26 (F : Nat) : List Ent := e119 F :: TGt8_25 F
theorem FGt8_26 (F : Nat) : Fits2 Try.prog (tD (TGt8_26 F)) (tS (TGt8_26 F)) := fits_cons (o119 (FGt8_25 F) ⟨⟩) (FGt8_25 F) (.inl rfl)
def TGt8_27 (F : Nat) : List Ent := e103 F :: TGt8_26 F
theorem FGt8_27 (F : Nat) : Fits2 Try.prog (tD (TGt8_27 F)) (tS (TGt8_27 F)) := fits_cons (o103 (FGt8_26 F) ⟨⟩) (FGt8_26 F) (.inl rfl)
def TGt8_28 (F : Nat) : List Ent := e52 F :: TGt8_27 F
theorem FGt8_28 (F : Nat) : Fits2 Try.prog (tD (TGt8_28 F)) (tS (TGt8_28 F)) := fits_cons (o52 (FGt8_27 F) ⟨fun _ r h => p103 h, rfl⟩) (FGt8_27 F) (.inl rfl)
def TGt8_29 (F : Nat) : List Ent := e134 F :: TGt8_28 F
theorem FGt8_29 (F : Nat) : Fits2 Try.prog (tD (TGt8_29 F)) (tS (TGt8_29 F)) := fits_cons (o134 (FGt8_28 F) ⟨fun _ _ r h => p119 h, rfl, fun _ r h => p52 h, rfl⟩) (FGt8_28 F) (.inl rfl)
def TGt8_30 (F : Nat) : List Ent := e106s1 F :: TGt8_29 F
theorem FGt8_30 (F : Nat) : Fits2 Try.prog (tD (TGt8_30 F)) (tS (TGt8_30 F)) := fits_cons (o106s1 (FGt8_29 F) ⟨fun _ r h => p68 h, rfl, fun _ r h => p121 h, rfl, fun _ _ _ r h => p134 h, rfl⟩) (FGt8_29 F) (.inl rfl)
def TGt8_31 (F : Nat) : List Ent := e116 F :: TGt8_30 F
theorem FGt8_31 (F : Nat) : Fits2 Try.prog (tD (TGt8_31 F)) (tS (TGt8_31 F)) := fits_cons (o116 (FGt8_30 F) ⟨fun _ _ _ r h => p106s1 h, rfl⟩) (FGt8_30 F) (.inl rfl)
def TGt8_32 (F : Nat) : List Ent := e71 F :: TGt8_31 F
theorem FGt8_32 (F : Nat) : Fits2 Try.prog (tD (TGt8_32 F)) (tS (TGt8_32 F)) := fits_cons (o71 (FGt8_31 F) ⟨fun _ r h => p116 h, rfl⟩) (FGt8_31 F) (.inl rfl)
def TGt8_33 (F : Nat) : List Ent := e31 F :: TGt8_32 F
theorem FGt8_33 (F : Nat) : Fits2 Try.prog (tD (TGt8_33 F)) (tS (TGt8_33 F)) := fits_cons (o31 (FGt8_32 F) ⟨fun _ r h => p50 h, rfl, fun _ r h => p55 h, rfl, fun _ r h => p71 h, rfl⟩) (FGt8_32 F) (.inl rfl)
def TGt8_34 (F : Nat) : List Ent := e104 F :: TGt8_33 F
theorem FGt8_34 (F : Nat) : Fits2 Try.prog (tD (TGt8_34 F)) (tS (TGt8_34 F)) := fits_cons (o104 (FGt8_33 F) ⟨⟩) (FGt8_33 F) (.inl rfl)
def TGt8_35 (F : Nat) : List Ent := e53 F :: TGt8_34 F
theorem FGt8_35 (F : Nat) : Fits2 Try.prog (tD (TGt8_35 F)) (tS (TGt8_35 F)) := fits_cons (o53 (FGt8_34 F) ⟨fun _ _ r h => p104 h, rfl⟩) (FGt8_34 F) (.inl rfl)
def TGt8_36 (F : Nat) : List Ent := e20 F :: TGt8_35 F
theorem FGt8_36 (F : Nat) : Fits2 Try.prog (tD (TGt8_36 F)) (tS (TGt8_36 F)) := fits_cons (o20 (FGt8_35 F) ⟨fun _ _ r h => p53 h, rfl⟩) (FGt8_35 F) (.inl rfl)
def TGt8_37 (F : Nat) : List Ent := e8 F :: TGt8_36 F
theorem FGt8_37 (F : Nat) : Fits2 Try.prog (tD (TGt8_37 F)) (tS (TGt8_37 F)) := fits_cons (o8 (FGt8_36 F) ⟨fun _ _ r h => p15 h, rfl, fun _ r h => p17 h, rfl, fun _ r h => p30 h, rfl, fun _ r h => p31 h, rfl, fun _ _ r h => p20 h, rfl⟩) (FGt8_36 F) (.inl rfl)
theorem law8 (F : Nat) (x0 : (Int × (List (Int × Int)))) (h : w_FnExactTreewidthOf F x0 = some true) : Contract Try.prog 8 0 false [Enc.enc x0] (.bool true) := (FGt8_37 F).con 8 _ _ 0 false (p8 h) rfl
end Go.Zq
