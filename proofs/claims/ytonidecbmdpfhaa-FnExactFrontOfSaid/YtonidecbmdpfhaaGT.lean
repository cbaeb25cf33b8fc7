/- The table of the functions' contracts. No further condition. -/
import Derived.Test.YtonidecbmdpfhaaK3
import Derived.Test.YtonidecbmdpfhaaProg
import Derived.Test.YtonidecbmdpfhaaChecked
import Derived.KernelRfl
import Derived.Test.YtonidecbmdpfhaaG3
set_option linter.unusedVariables false
set_option linter.unusedSimpArgs false
/- Functions of the program, as typed functions, and that the machine runs as they say. -/
namespace Go.Zq
open Go.Proofs
def TGQ7_0 (F : Nat) : List Ent := e47 F :: []
theorem FGQ7_0 (F : Nat) : Fits2 Try.prog (tD (TGQ7_0 F)) (tS (TGQ7_0 F)) := fits_cons (o47 (fits_nil) ⟨⟩) (fits_nil) (.inl rfl)
def TGQ7_1 (F : Nat) : List Ent := e15 F :: TGQ7_0 F
theorem FGQ7_1 (F : Nat) : Fits2 Try.prog (tD (TGQ7_1 F)) (tS (TGQ7_1 F)) := fits_cons (o15 (FGQ7_0 F) ⟨fun _ _ r h => p47 h, rfl⟩) (FGQ7_0 F) (.inl rfl)
def TGQ7_2 (F : Nat) : List Ent := e99 F :: TGQ7_1 F
theorem FGQ7_2 (F : Nat) : Fits2 Try.prog (tD (TGQ7_2 F)) (tS (TGQ7_2 F)) := fits_cons (o99 (FGQ7_1 F) ⟨⟩) (FGQ7_1 F) (.inl rfl)
def TGQ7_3 (F : Nat) : List Ent := e50 F :: TGQ7_2 F
theorem FGQ7_3 (F : Nat) : Fits2 Try.prog (tD (TGQ7_3 F)) (tS (TGQ7_3 F)) := fits_cons (o50 (FGQ7_2 F) ⟨fun _ r h => p99 h, rfl⟩) (FGQ7_2 F) (.inl rfl)
def TGQ7_4 (F : Nat) : List Ent := e17 F :: TGQ7_3 F
theorem FGQ7_4 (F : Nat) : Fits2 Try.prog (tD (TGQ7_4 F)) (tS (TGQ7_4 F)) := fits_cons (o17 (FGQ7_3 F) ⟨fun _ r h => p50 h, rfl⟩) (FGQ7_3 F) (.inl rfl)
def TGQ7_5 (F : Nat) : List Ent := e31 F :: TGQ7_4 F
theorem FGQ7_5 (F : Nat) : Fits2 Try.prog (tD (TGQ7_5 F)) (tS (TGQ7_5 F)) := fits_cons (o31 (FGQ7_4 F) ⟨⟩) (FGQ7_4 F) (.inl rfl)
def TGQ7_6 (F : Nat) : List Ent := e95 F :: TGQ7_5 F
theorem FGQ7_6 (F : Nat) : Fits2 Try.prog (tD (TGQ7_6 F)) (tS (TGQ7_6 F)) := fits_cons (o95 (FGQ7_5 F) ⟨⟩) (FGQ7_5 F) (.inl rfl)
def TGQ7_7 (F : Nat) : List Ent := e96 F :: TGQ7_6 F
theorem FGQ7_7 (F : Nat) : Fits2 Try.prog (tD (TGQ7_7 F)) (tS (TGQ7_7 F)) := fits_cons (o96 (FGQ7_6 F) ⟨⟩) (FGQ7_6 F) (.inl rfl)
def TGQ7_8 (F : Nat) : List Ent := e48 F :: TGQ7_7 F
theorem FGQ7_8 (F : Nat) : Fits2 Try.prog (tD (TGQ7_8 F)) (tS (TGQ7_8 F)) := fits_cons (o48 (FGQ7_7 F) ⟨fun _ _ _ r h => p95 h, rfl, fun _ _ r h => p96 h, rfl⟩) (FGQ7_7 F) (.inl rfl)
def TGQ7_9 (F : Nat) : List Ent := e110 F :: TGQ7_8 F
theorem FGQ7_9 (F : Nat) : Fits2 Try.prog (tD (TGQ7_9 F)) (tS (TGQ7_9 F)) := fits_cons (o110 (FGQ7_8 F) ⟨fun _ _ _ r h => p95 h, rfl⟩) (FGQ7_8 F) (.inl rfl)
def TGQ7_10 (F : Nat) : List Ent := e71 F :: TGQ7_9 F
theorem FGQ7_10 (F : Nat) : Fits2 Try.prog (tD (TGQ7_10 F)) (tS (TGQ7_10 F)) := fits_cons (o71 (FGQ7_9 F) ⟨fun _ _ _ r h => p110 h, rfl⟩) (FGQ7_9 F) (.inl rfl)
def TGQ7_11 (F : Nat) : List Ent := e97 F :: TGQ7_10 F
theorem FGQ7_11 (F : Nat) : Fits2 Try.prog (tD (TGQ7_11 F)) (tS (TGQ7_11 F)) := fits_cons (o97 (FGQ7_10 F) ⟨⟩) (FGQ7_10 F) (.inl rfl)
def TGQ7_12 (F : Nat) : List Ent := e68 F :: TGQ7_11 F
theorem FGQ7_12 (F : Nat) : Fits2 Try.prog (tD (TGQ7_12 F)) (tS (TGQ7_12 F)) := fits_cons (o68 (FGQ7_11 F) ⟨⟩) (FGQ7_11 F) (.inl rfl)
def TGQ7_13 (F : Nat) : List Ent := e77 F :: TGQ7_12 F
theorem FGQ7_13 (F : Nat) : Fits2 Try.prog (tD (TGQ7_13 F)) (tS (TGQ7_13 F)) := fits_cons (o77 (FGQ7_12 F) ⟨⟩) (FGQ7_12 F) (.inl rfl)
def TGQ7_14 (F : Nat) : List Ent := e72 F :: TGQ7_13 F
theorem FGQ7_14 (F : Nat) : Fits2 Try.prog (tD (TGQ7_14 F)) (tS (TGQ7_14 F)) := fits_cons (o72 (FGQ7_13 F) ⟨fun _ _ _ r h => p97 h, rfl, fun _ _ r h => p68 h, rfl, fun _ _ r h => p77 h, rfl⟩) (FGQ7_13 F) (.inl rfl)
def TGQ7_15 (F : Nat) : List Ent := e30 F :: TGQ7_14 F
theorem FGQ7_15 (F : Nat) : Fits2 Try.prog (tD (TGQ7_15 F)) (tS (TGQ7_15 F)) := fits_cons (o30 (FGQ7_14 F) ⟨fun _ r h => p48 h, rfl, fun _ _ r h => p71 h, rfl, fun _ _ r h => p72 h, rfl⟩) (FGQ7_14 F) (.inl rfl)
def TGQ7_16 (F : Nat) : List Ent := e100 F :: TGQ7_15 F
theorem FGQ7_16 (F : Nat) : Fits2 Try.prog (tD (TGQ7_16 F)) (tS (TGQ7_16 F)) := fits_cons (o100 (FGQ7_15 F) ⟨⟩) (FGQ7_15 F) (.inl rfl)
def TGQ7_17 (F : Nat) : List Ent := e126 F :: TGQ7_16 F
theorem FGQ7_17 (F : Nat) : Fits2 Try.prog (tD (TGQ7_17 F)) (tS (TGQ7_17 F)) := fits_cons (o126 (FGQ7_16 F) ⟨⟩) (FGQ7_16 F) (.inl rfl)
def TGQ7_18 (F : Nat) : List Ent := e123 F :: TGQ7_17 F
theorem FGQ7_18 (F : Nat) : Fits2 Try.prog (tD (TGQ7_18 F)) (tS (TGQ7_18 F)) := fits_cons (o123 (FGQ7_17 F) ⟨fun _ r h => p126 h, rfl⟩) (FGQ7_17 F) (.inl rfl)
def TGQ7_19 (F : Nat) : List Ent := e101 F :: TGQ7_18 F
theorem FGQ7_19 (F : Nat) : Fits2 Try.prog (tD (TGQ7_19 F)) (tS (TGQ7_19 F)) := fits_cons (o101 (FGQ7_18 F) ⟨fun _ _ r h => p123 h, rfl⟩) (FGQ7_18 F) (.inl rfl)
def TGQ7_20 (F : Nat) : List Ent := e51 F :: TGQ7_19 F
theorem FGQ7_20 (F : Nat) : Fits2 Try.prog (tD (TGQ7_20 F)) (tS (TGQ7_20 F)) := fits_cons (o51 (FGQ7_19 F) ⟨fun _ _ _ r h => p100 h, rfl, fun _ _ r h => p101 h, rfl⟩) (FGQ7_19 F) (.inl rfl)
def TGQ7_21 (F : Nat) : List Ent := e114 F :: TGQ7_20 F
theorem FGQ7_21 (F : Nat) : Fits2 Try.prog (tD (TGQ7_21 F)) (tS (TGQ7_21 F)) := fits_cons (o114 (FGQ7_20 F) ⟨fun _ _ _ r h => p100 h, rfl⟩) (FGQ7_20 F) (.inl rfl)
def TGQ7_22 (F : Nat) : List Ent := e111 F :: TGQ7_21 F
theorem FGQ7_22 (F : Nat) : Fits2 Try.prog (tD (TGQ7_22 F)) (tS (TGQ7_22 F)) := fits_cons (o111 (FGQ7_21 F) ⟨fun _ r h => p51 h, rfl, fun _ _ _ r h => p114 h, rfl⟩) (FGQ7_21 F) (.inl rfl)
def TGQ7_23 (F : Nat) : List Ent := e112 F :: TGQ7_22 F
theorem FGQ7_23 (F : Nat) : Fits2 Try.prog (tD (TGQ7_23 F)) (tS (TGQ7_23 F)) := fits_cons (o112 (FGQ7_22 F) ⟨⟩) (FGQ7_22 F) (.inl rfl)
def TGQ7_24 (F : Nat) : List Ent := e73 F :: TGQ7_23 F
theorem FGQ7_24 (F : Nat) : Fits2 Try.prog (tD (TGQ7_24 F)) (tS (TGQ7_24 F)) := fits_cons (o73 (FGQ7_23 F) ⟨fun _ _ r h => p111 h, rfl, fun _ r h => p112 h, rfl⟩) (FGQ7_23 F) (.inl rfl)
def TGQ7_25 (F : Nat) : List Ent := e52 F :: TGQ7_24 F
theorem FGQ7_25 (F : Nat) : Fits2 Try.prog (tD (TGQ7_25 F)) (tS (TGQ7_25 F)) := fits_cons (o52 (FGQ7_24 F) ⟨⟩) (FGQ7_24 F) (.inl rfl)
def TGQ7_26 (F : Nat) : List Ent := e75 F :: TGQ7_25 F
theorem FGQ7_26 (F : Nat) : Fits2 Try.prog (tD (TGQ7_26 F)) (tS (TGQ7_26 F)) := fits_cons (o75 (FGQ7_25 F) ⟨⟩) (FGQ7_25 F) (.inl rfl)
def TGQ7_27 (F : Nat) : List Ent := e60 F :: TGQ7_26 F
theorem FGQ7_27 (F : Nat) : Fits2 Try.prog (tD (TGQ7_27 F)) (tS (TGQ7_27 F)) := fits_cons (o60 (FGQ7_26 F) ⟨⟩) (FGQ7_26 F) (.inl rfl)
def TGQ7_28 (F : Nat) : List Ent := e74 F :: TGQ7_27 F
theorem FGQ7_28 (F : Nat) : Fits2 Try.prog (tD (TGQ7_28 F)) (tS (TGQ7_28 F)) := fits_cons (o74 (FGQ7_27 F) ⟨fun _ r h => p60 h, rfl⟩) (FGQ7_27 F) (.inl rfl)
def TGQ7_29 (F : Nat) : List Ent := e60o F :: TGQ7_28 F
theorem FGQ7_29 (F : Nat) : Fits2 Try.prog (tD (TGQ7_29 F)) (tS (TGQ7_29 F)) := fits_cons (o60o (FGQ7_28 F) ⟨⟩) (FGQ7_28 F) (.inl rfl)
def TGQ7_30 (F : Nat) : List Ent := e32o F :: TGQ7_29 F
theorem FGQ7_30 (F : Nat) : Fits2 Try.prog (tD (TGQ7_30 F)) (tS (TGQ7_30 F)) := fits_cons (o32o (FGQ7_29 F) ⟨fun _ _ r h => p73 h, rfl, fun _ r h => p52 h, rfl, fun _ r h => p75 h, rfl, fun _ _ r h => p74 h, rfl, fun _ r h => p60o h, rfl⟩) (FGQ7_29 F) (.inl rfl)
def TGQ7_31 (F : Nat) : List Ent := e19 F :: TGQ7_30 F
theorem FGQ7_31 (F : Nat) : Fits2 Try.prog (tD (TGQ7_31 F)) (tS (TGQ7_31 F)) := fits_cons (o19 (FGQ7_30 F) ⟨⟩) (FGQ7_30 F) (.inl rfl)
def TGQ7_32 (F : Nat) : List Ent := e103 F :: TGQ7_31 F
theorem FGQ7_32 (F : Nat) : Fits2 Try.prog (tD (TGQ7_32 F)) (tS (TGQ7_32 F)) := fits_cons (o103 (FGQ7_31 F) ⟨⟩) (FGQ7_31 F) (.inl rfl)
def TGQ7_33 (F : Nat) : List Ent := e54 F :: TGQ7_32 F
theorem FGQ7_33 (F : Nat) : Fits2 Try.prog (tD (TGQ7_33 F)) (tS (TGQ7_33 F)) := fits_cons (o54 (FGQ7_32 F) ⟨fun _ _ r h => p103 h, rfl⟩) (FGQ7_32 F) (.inl rfl)
def TGQ7_34 (F : Nat) : List Ent := e20 F :: TGQ7_33 F
theorem FGQ7_34 (F : Nat) : Fits2 Try.prog (tD (TGQ7_34 F)) (tS (TGQ7_34 F)) := fits_cons (o20 (FGQ7_33 F) ⟨fun _ _ r h => p54 h, rfl⟩) (FGQ7_33 F) (.inl rfl)
def TGQ7_35 (F : Nat) : List Ent := e50o F :: TGQ7_34 F
theorem FGQ7_35 (F : Nat) : Fits2 Try.prog (tD (TGQ7_35 F)) (tS (TGQ7_35 F)) := fits_cons (o50o (FGQ7_34 F) ⟨fun _ r h => p99 h, rfl⟩) (FGQ7_34 F) (.inl rfl)
def TGQ7_36 (F : Nat) : List Ent := e17o F :: TGQ7_35 F
theorem FGQ7_36 (F : Nat) : Fits2 Try.prog (tD (TGQ7_36 F)) (tS (TGQ7_36 F)) := fits_cons (o17o (FGQ7_35 F) ⟨fun _ r h => p50o h, rfl⟩) (FGQ7_35 F) (.inl rfl)
def TGQ7_37 (F : Nat) : List Ent := e55 F :: TGQ7_36 F
theorem FGQ7_37 (F : Nat) : Fits2 Try.prog (tD (TGQ7_37 F)) (tS (TGQ7_37 F)) := fits_cons (o55 (FGQ7_36 F) ⟨⟩) (FGQ7_36 F) (.inl rfl)
def TGQ7_38 (F : Nat) : List Ent := e21 F :: TGQ7_37 F
theorem FGQ7_38 (F : Nat) : Fits2 Try.prog (tD (TGQ7_38 F)) (tS (TGQ7_38 F)) := fits_cons (o21 (FGQ7_37 F) ⟨fun _ _ r h => p55 h, rfl⟩) (FGQ7_37 F) (.inl rfl)
def TGQ7_39 (F : Nat) : List Ent := e31o F :: TGQ7_38 F
theorem FGQ7_39 (F : Nat) : Fits2 Try.prog (tD (TGQ7_39 F)) (tS (TGQ7_39 F)) := fits_cons (o31o (FGQ7_38 F) ⟨⟩) (FGQ7_38 F) (.inl rfl)
def TGQ7_40 (F : Nat) : List Ent := e22 F :: TGQ7_39 F
theorem FGQ7_40 (F : Nat) : Fits2 Try.prog (tD (TGQ7_40 F)) (tS (TGQ7_40 F)) := fits_cons (o22 (FGQ7_39 F) ⟨⟩) (FGQ7_39 F) (.inl rfl)
def TGQ7_41 (F : Nat) : List Ent := e23 F :: TGQ7_40 F
theorem FGQ7_41 (F : Nat) : Fits2 Try.prog (tD (TGQ7_41 F)) (tS (TGQ7_41 F)) := fits_cons (o23 (FGQ7_40 F) ⟨⟩) (FGQ7_40 F) (.inl rfl)
def TGQ7_42 (F : Nat) : List Ent := e7 F :: TGQ7_41 F
theorem FGQ7_42 (F : Nat) : Fits2 Try.prog (tD (TGQ7_42 F)) (tS (TGQ7_42 F)) := fits_cons (o7 (FGQ7_41 F) ⟨fun _ _ r h => p15 h, rfl, fun _ r h => p17 h, rfl, fun _ r h => p31 h, rfl, fun _ _ r h => p30 h, rfl, fun _ r h => p17o h, rfl, fun _ r h => p31o h, rfl, fun _ _ r h => p32o h, rfl, fun _ _ r h => p19 h, rfl, fun _ _ r h => p20 h, rfl, fun _ _ r h => p21 h, rfl, fun _ _ r h => p22 h, rfl, fun _ _ r h => p23 h, rfl⟩) (FGQ7_41 F) (.inl rfl)
theorem law7 (F : Nat) (x0 : (Int × (List (Int × Int)))) (x1 : (List Int)) (h : w_FnExactFrontOf F x0 x1 = some true) : Contract Try.prog 7 0 false [Enc.enc x0, Enc.enc x1] (.bool true) := contract_plain ((FGQ7_42 F).con 7 _ _ 0 false (p7 h) rfl) rfl rfl
end Go.Zq
