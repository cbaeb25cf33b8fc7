/- The table of the functions' contracts. No further condition. -/
import Derived.Test.YthblbfcloccopaaKC
import Derived.Test.YthblbfcloccopaaProg
import Derived.Test.YthblbfcloccopaaChecked
import Derived.KernelRfl
import Derived.Test.YthblbfcloccopaaG3
set_option linter.unusedVariables false
set_option linter.unusedSimpArgs false
/- Functions of the program, as typed functions, and that the machine runs as they say. -/
namespace Go.Zq
open Go.Proofs Go.Shelf
def TGSh_0 (F : Nat) : List Ent := e44 F :: []
theorem FGSh_0 (F : Nat) : Fits2 Try.prog (tD (TGSh_0 F)) (tS (TGSh_0 F)) := fits_cons (o44 (fits_nil) ⟨⟩) (fits_nil) (.inl rfl)
def TGSh_1 (F : Nat) : List Ent := e15 F :: TGSh_0 F
theorem FGSh_1 (F : Nat) : Fits2 Try.prog (tD (TGSh_1 F)) (tS (TGSh_1 F)) := fits_cons (o15 (FGSh_0 F) ⟨fun _ _ r h => p44 h, rfl⟩) (FGSh_0 F) (.inl rfl)
def TGSh_2 (F : Nat) : List Ent := e99 F :: TGSh_1 F
theorem FGSh_2 (F : Nat) : Fits2 Try.prog (tD (TGSh_2 F)) (tS (TGSh_2 F)) := fits_cons (o99 (FGSh_1 F) ⟨⟩) (FGSh_1 F) (.inl rfl)
def TGSh_3 (F : Nat) : List Ent := e49 F :: TGSh_2 F
theorem FGSh_3 (F : Nat) : Fits2 Try.prog (tD (TGSh_3 F)) (tS (TGSh_3 F)) := fits_cons (o49 (FGSh_2 F) ⟨fun _ r h => p99 h, rfl⟩) (FGSh_2 F) (.inl rfl)
def TGSh_4 (F : Nat) : List Ent := e17 F :: TGSh_3 F
theorem FGSh_4 (F : Nat) : Fits2 Try.prog (tD (TGSh_4 F)) (tS (TGSh_4 F)) := fits_cons (o17 (FGSh_3 F) ⟨fun _ r h => p49 h, rfl⟩) (FGSh_3 F) (.inl rfl)
def TGSh_5 (F : Nat) : List Ent := e18 F :: TGSh_4 F
theorem FGSh_5 (F : Nat) : Fits2 Try.prog (tD (TGSh_5 F)) (tS (TGSh_5 F)) := fits_cons (o18 (FGSh_4 F) ⟨⟩) (FGSh_4 F) (.inl rfl)
def TGSh_6 (F : Nat) : List Ent := e62 F :: TGSh_5 F
theorem FGSh_6 (F : Nat) : Fits2 Try.prog (tD (TGSh_6 F)) (tS (TGSh_6 F)) := fits_cons (o62 (FGSh_5 F) ⟨⟩) (FGSh_5 F) (.inl rfl)
def TGSh_7 (F : Nat) : List Ent := e97 F :: TGSh_6 F
theorem FGSh_7 (F : Nat) : Fits2 Try.prog (tD (TGSh_7 F)) (tS (TGSh_7 F)) := fits_cons (o97 (FGSh_6 F) ⟨⟩) (FGSh_6 F) (.inl rfl)
def TGSh_8 (F : Nat) : List Ent := e45 F :: TGSh_7 F
theorem FGSh_8 (F : Nat) : Fits2 Try.prog (tD (TGSh_8 F)) (tS (TGSh_8 F)) := fits_cons (o45 (FGSh_7 F) ⟨fun _ _ _ r h => p62 h, rfl, fun _ _ r h => p97 h, rfl⟩) (FGSh_7 F) (.inl rfl)
def TGSh_9 (F : Nat) : List Ent := e98 F :: TGSh_8 F
theorem FGSh_9 (F : Nat) : Fits2 Try.prog (tD (TGSh_9 F)) (tS (TGSh_9 F)) := fits_cons (o98 (FGSh_8 F) ⟨⟩) (FGSh_8 F) (.inl rfl)
def TGSh_10 (F : Nat) : List Ent := e108 F :: TGSh_9 F
theorem FGSh_10 (F : Nat) : Fits2 Try.prog (tD (TGSh_10 F)) (tS (TGSh_10 F)) := fits_cons (o108 (FGSh_9 F) ⟨fun _ _ r h => p98 h, rfl⟩) (FGSh_9 F) (.inl rfl)
def TGSh_11 (F : Nat) : List Ent := e94 F :: TGSh_10 F
theorem FGSh_11 (F : Nat) : Fits2 Try.prog (tD (TGSh_11 F)) (tS (TGSh_11 F)) := fits_cons (o94 (FGSh_10 F) ⟨fun _ r h => p45 h, rfl, fun _ _ r h => p108 h, rfl⟩) (FGSh_10 F) (.inl rfl)
def TGSh_12 (F : Nat) : List Ent := e117 F :: TGSh_11 F
theorem FGSh_12 (F : Nat) : Fits2 Try.prog (tD (TGSh_12 F)) (tS (TGSh_12 F)) := fits_cons (o117 (FGSh_11 F) ⟨⟩) (FGSh_11 F) (.inl rfl)
def TGSh_13 (F : Nat) : List Ent := e85 F :: TGSh_12 F
theorem FGSh_13 (F : Nat) : Fits2 Try.prog (tD (TGSh_13 F)) (tS (TGSh_13 F)) := fits_cons (o85 (FGSh_12 F) ⟨fun _ _ _ r h => p117 h, rfl⟩) (FGSh_12 F) (.inl rfl)
def TGSh_14 (F : Nat) : List Ent := e111 F :: TGSh_13 F
theorem FGSh_14 (F : Nat) : Fits2 Try.prog (tD (TGSh_14 F)) (tS (TGSh_14 F)) := fits_cons (o111 (FGSh_13 F) ⟨⟩) (FGSh_13 F) (.inl rfl)
def TGSh_15 (F : Nat) : List Ent := e129 F :: TGSh_14 F
theorem FGSh_15 (F : Nat) : Fits2 Try.prog (tD (TGSh_15 F)) (tS (TGSh_15 F)) := fits_cons (o129 (FGSh_14 F) ⟨fun _ _ r h => p85 h, rfl, fun _ _ r h => p98 h, rfl, fun _ _ r h => p111 h, rfl⟩) (FGSh_14 F) (.inl rfl)
def TGSh_16 (F : Nat) : List Ent := e47 F :: TGSh_15 F
theorem FGSh_16 (F : Nat) : Fits2 Try.prog (tD (TGSh_16 F)) (tS (TGSh_16 F)) := fits_cons (o47 (FGSh_15 F) ⟨⟩) (FGSh_15 F) (.inl rfl)
def TGSh_17 (F : Nat) : List Ent := e95 F :: TGSh_16 F
theorem FGSh_17 (F : Nat) : Fits2 Try.prog (tD (TGSh_17 F)) (tS (TGSh_17 F)) := fits_cons (o95 (FGSh_16 F) ⟨fun _ _ _ r h => p129 h, rfl, fun _ _ r h => p47 h, rfl⟩) (FGSh_16 F) (.inl rfl)
def TGSh_18 (F : Nat) : List Ent := e42 F :: TGSh_17 F
theorem FGSh_18 (F : Nat) : Fits2 Try.prog (tD (TGSh_18 F)) (tS (TGSh_18 F)) := fits_cons (o42 (FGSh_17 F) ⟨fun _ _ r h => p94 h, rfl, fun _ _ r h => p95 h, rfl⟩) (FGSh_17 F) (.inl rfl)
def TGSh_19 (F : Nat) : List Ent := e66 F :: TGSh_18 F
theorem FGSh_19 (F : Nat) : Fits2 Try.prog (tD (TGSh_19 F)) (tS (TGSh_19 F)) := fits_cons (o66 (FGSh_18 F) ⟨⟩) (FGSh_18 F) (.inl rfl)
def TGSh_20 (F : Nat) : List Ent := e141 F :: TGSh_19 F
theorem FGSh_20 (F : Nat) : Fits2 Try.prog (tD (TGSh_20 F)) (tS (TGSh_20 F)) := fits_cons (o141 (FGSh_19 F) ⟨⟩) (FGSh_19 F) (.inl rfl)
def TGSh_21 (F : Nat) : List Ent := e131 F :: TGSh_20 F
theorem FGSh_21 (F : Nat) : Fits2 Try.prog (tD (TGSh_21 F)) (tS (TGSh_21 F)) := fits_cons (o131 (FGSh_20 F) ⟨fun _ r h => p141 h, rfl⟩) (FGSh_20 F) (.inl rfl)
def TGSh_22 (F : Nat) : List Ent := e100 F :: TGSh_21 F
theorem FGSh_22 (F : Nat) : Fits2 Try.prog (tD (TGSh_22 F)) (tS (TGSh_22 F)) := fits_cons (o100 (FGSh_21 F) ⟨fun _ _ r h => p131 h, rfl⟩) (FGSh_21 F) (.inl rfl)
def TGSh_23 (F : Nat) : List Ent := e50 F :: TGSh_22 F
theorem FGSh_23 (F : Nat) : Fits2 Try.prog (tD (TGSh_23 F)) (tS (TGSh_23 F)) := fits_cons (o50 (FGSh_22 F) ⟨fun _ _ _ r h => p66 h, rfl, fun _ _ r h => p100 h, rfl⟩) (FGSh_22 F) (.inl rfl)
def TGSh_24 (F : Nat) : List Ent := e101 F :: TGSh_23 F
theorem FGSh_24 (F : Nat) : Fits2 Try.prog (tD (TGSh_24 F)) (tS (TGSh_24 F)) := fits_cons (o101 (FGSh_23 F) ⟨fun _ _ _ r h => p66 h, rfl⟩) (FGSh_23 F) (.inl rfl)
def TGSh_25 (F : Nat) : List Ent := e88 F :: TGSh_24 F
theorem FGSh_25 (F : Nat) : Fits2 Try.prog (tD (TGSh_25 F)) (tS (TGSh_25 F)) := fits_cons (o88 (FGSh_24 F) ⟨⟩) (FGSh_24 F) (.inl rfl)
def TGSh_26 (F : Nat) : List Ent := e60 F :: TGSh_25 F
theorem FGSh_26 (F : Nat) : Fits2 Try.prog (tD (TGSh_26 F)) (tS (TGSh_26 F)) := fits_cons (o60 (FGSh_25 F) ⟨fun _ _ _ r h => p101 h, rfl, fun _ r h => p88 h, rfl⟩) (FGSh_25 F) (.inl rfl)
def TGSh_27 (F : Nat) : List Ent := e55 F :: TGSh_26 F
theorem FGSh_27 (F : Nat) : Fits2 Try.prog (tD (TGSh_27 F)) (tS (TGSh_27 F)) := fits_cons (o55 (FGSh_26 F) ⟨⟩) (FGSh_26 F) (.inl rfl)
def TGSh_28 (F : Nat) : List Ent := e142 F :: TGSh_27 F
theorem FGSh_28 (F : Nat) : Fits2 Try.prog (tD (TGSh_28 F)) (tS (TGSh_28 F)) := fits_cons (o142 (FGSh_27 F) ⟨⟩) (FGSh_27 F) (.inl rfl)
def TGSh_29 (F : Nat) : List Ent := e140 F :: TGSh_28 F
theorem FGSh_29 (F : Nat) : Fits2 Try.prog (tD (TGSh_29 F)) (tS (TGSh_29 F)) := fits_cons (o140 (FGSh_28 F) ⟨fun _ r h => p142 h, rfl⟩) (FGSh_28 F) (.inl rfl)
def TGSh_30 (F : Nat) : List Ent := e68 F :: TGSh_29 F
theorem FGSh_30 (F : Nat) : Fits2 Try.prog (tD (TGSh_30 F)) (tS (TGSh_30 F)) := fits_cons (o68 (FGSh_29 F) ⟨⟩) (FGSh_29 F) (.inl rfl)
def TGSh_31 (F : Nat) : List Ent := e121 F :: TGSh_30 F
theorem FGSh_31 (F : Nat) : Fits2 Try.prog (tD (TGSh_31 F)) (tS (TGSh_31 F)) := fits_cons (o121 (FGSh_30 F) ⟨⟩) (FGSh_30 F) (.inl rfl)
def TGSh_32 (F : Nat) : List Ent := e142o F :: TGSh_31 F
theorem FGSh_32 (F : Nat) : Fits2 Try.prog (tD (TGSh_32 F)) (tS (TGSh_32 F)) := fits_cons (o142o (FGSh_31 F) ⟨⟩) (FGSh_31 F) (.inl rfl)
def TGSh_33 (F : Nat) : List Ent := e140o F :: TGSh_32 F
theorem FGSh_33 (F : Nat) : Fits2 Try.prog (tD (TGSh_33 F)) (tS (TGSh_33 F)) := fits_cons (o140o (FGSh_32 F) ⟨fun _ r h => p142o h, rfl⟩) (FGSh_32 F) (.inl rfl)
def TGSh_34 (F : Nat) : List Ent := e130 F :: TGSh_33 F
theorem FGSh_34 (F : Nat) : Fits2 Try.prog (tD (TGSh_34 F)) (tS (TGSh_34 F)) := fits_cons (o130 (FGSh_33 F) ⟨fun _ r h => p140o h, rfl, fun _ r h => p68 h, rfl, fun _ r h => p121 h, rfl⟩) (FGSh_33 F) (.inl rfl)
def TGSh_35 (F : Nat) : List Ent := e96 F :: TGSh_34 F
theorem FGSh_35 (F : Nat) : Fits2 Try.prog (tD (TGSh_35 F)) (tS (TGSh_35 F)) := fits_cons (o96 (FGSh_34 F) ⟨fun _ _ r h => p130 h, rfl, fun _ r h => p68 h, rfl⟩) (FGSh_34 F) (.inl rfl)
def TGSh_36 (F : Nat) : List Ent := e103 F :: TGSh_35 F
theorem FGSh_36 (F : Nat) : Fits2 Try.prog (tD (TGSh_36 F)) (tS (TGSh_36 F)) := fits_cons (o103 (FGSh_35 F) ⟨⟩) (FGSh_35 F) (.inl rfl)
def TGSh_37 (F : Nat) : List Ent := e52 F :: TGSh_36 F
theorem FGSh_37 (F : Nat) : Fits2 Try.prog (tD (TGSh_37 F)) (tS (TGSh_37 F)) := fits_cons (o52 (FGSh_36 F) ⟨fun _ r h => p103 h, rfl⟩) (FGSh_36 F) (.inl rfl)
def TGSh_38 (F : Nat) : List Ent := e43 F :: TGSh_37 F
theorem FGSh_38 (F : Nat) : Fits2 Try.prog (tD (TGSh_38 F)) (tS (TGSh_38 F)) := fits_cons (o43 (FGSh_37 F) ⟨fun _ r h => p50 h, rfl, fun _ _ r h => p60 h, rfl, fun _ r h => p55 h, rfl, fun _ _ r h => p96 h, rfl, fun _ r h => p52 h, rfl⟩) (FGSh_37 F) (.inl rfl)
def TGSh_39 (F : Nat) : List Ent := e104 F :: TGSh_38 F
theorem FGSh_39 (F : Nat) : Fits2 Try.prog (tD (TGSh_39 F)) (tS (TGSh_39 F)) := fits_cons (o104 (FGSh_38 F) ⟨⟩) (FGSh_38 F) (.inl rfl)
def TGSh_40 (F : Nat) : List Ent := e53 F :: TGSh_39 F
theorem FGSh_40 (F : Nat) : Fits2 Try.prog (tD (TGSh_40 F)) (tS (TGSh_40 F)) := fits_cons (o53 (FGSh_39 F) ⟨fun _ _ r h => p104 h, rfl⟩) (FGSh_39 F) (.inl rfl)
def TGSh_41 (F : Nat) : List Ent := e20 F :: TGSh_40 F
theorem FGSh_41 (F : Nat) : Fits2 Try.prog (tD (TGSh_41 F)) (tS (TGSh_41 F)) := fits_cons (o20 (FGSh_40 F) ⟨fun _ _ r h => p53 h, rfl⟩) (FGSh_40 F) (.inl rfl)
def TGSh_42 (F : Nat) : List Ent := e21 F :: TGSh_41 F
theorem FGSh_42 (F : Nat) : Fits2 Try.prog (tD (TGSh_42 F)) (tS (TGSh_42 F)) := fits_cons (o21 (FGSh_41 F) ⟨⟩) (FGSh_41 F) (.inl rfl)
def TGSh_43 (F : Nat) : List Ent := e14 F :: TGSh_42 F
theorem FGSh_43 (F : Nat) : Fits2 Try.prog (tD (TGSh_43 F)) (tS (TGSh_43 F)) := fits_cons (o14 (FGSh_42 F) ⟨fun _ _ r h => p15 h, rfl, fun _ r h => p17 h, rfl, fun _ r h => p18 h, rfl, fun _ _ r h => p42 h, rfl, fun _ _ r h => p43 h, rfl, fun _ _ r h => p20 h, rfl, fun _ _ r h => p21 h, rfl⟩) (FGSh_42 F) (.inl rfl)
theorem law14 (F : Nat) (x0 : (Int × (List (Int × Int)))) (x1 : (List Int)) (h : w_FnExactEliminationWidth F x0 x1 = some true) : Contract Try.prog 14 0 false [Enc.enc x0, Enc.enc x1] (.bool true) := contract_plain ((FGSh_43 F).con 14 _ _ 0 false (p14 h) rfl) rfl rfl
end Go.Zq
