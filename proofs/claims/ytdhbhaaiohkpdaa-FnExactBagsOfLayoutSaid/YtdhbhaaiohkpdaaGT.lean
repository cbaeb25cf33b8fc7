/- The table of the functions' contracts. No further condition. -/
import Derived.Test.YtdhbhaaiohkpdaaK3
import Derived.Test.YtdhbhaaiohkpdaaProg
import Derived.Test.YtdhbhaaiohkpdaaChecked
import Derived.KernelRfl
import Derived.Test.YtdhbhaaiohkpdaaG2
set_option linter.unusedVariables false
set_option linter.unusedSimpArgs false
/- Functions of the program, as typed functions, and that the machine runs as they say. -/
namespace Go.Zq
open Go.Proofs
def TGC7_0 (F : Nat) : List Ent := e59 F :: []
theorem FGC7_0 (F : Nat) : Fits2 Try.prog (tD (TGC7_0 F)) (tS (TGC7_0 F)) := fits_cons (o59 (fits_nil) ⟨⟩) (fits_nil) (.inl rfl)
def TGC7_1 (F : Nat) : List Ent := e15 F :: TGC7_0 F
theorem FGC7_1 (F : Nat) : Fits2 Try.prog (tD (TGC7_1 F)) (tS (TGC7_1 F)) := fits_cons (o15 (FGC7_0 F) ⟨fun _ _ r h => p59 h, rfl⟩) (FGC7_0 F) (.inl rfl)
def TGC7_2 (F : Nat) : List Ent := e123 F :: TGC7_1 F
theorem FGC7_2 (F : Nat) : Fits2 Try.prog (tD (TGC7_2 F)) (tS (TGC7_2 F)) := fits_cons (o123 (FGC7_1 F) ⟨⟩) (FGC7_1 F) (.inl rfl)
def TGC7_3 (F : Nat) : List Ent := e62 F :: TGC7_2 F
theorem FGC7_3 (F : Nat) : Fits2 Try.prog (tD (TGC7_3 F)) (tS (TGC7_3 F)) := fits_cons (o62 (FGC7_2 F) ⟨fun _ r h => p123 h, rfl⟩) (FGC7_2 F) (.inl rfl)
def TGC7_4 (F : Nat) : List Ent := e17 F :: TGC7_3 F
theorem FGC7_4 (F : Nat) : Fits2 Try.prog (tD (TGC7_4 F)) (tS (TGC7_4 F)) := fits_cons (o17 (FGC7_3 F) ⟨fun _ r h => p62 h, rfl⟩) (FGC7_3 F) (.inl rfl)
def TGC7_5 (F : Nat) : List Ent := e18 F :: TGC7_4 F
theorem FGC7_5 (F : Nat) : Fits2 Try.prog (tD (TGC7_5 F)) (tS (TGC7_5 F)) := fits_cons (o18 (FGC7_4 F) ⟨⟩) (FGC7_4 F) (.inl rfl)
def TGC7_6 (F : Nat) : List Ent := e103 F :: TGC7_5 F
theorem FGC7_6 (F : Nat) : Fits2 Try.prog (tD (TGC7_6 F)) (tS (TGC7_6 F)) := fits_cons (o103 (FGC7_5 F) ⟨⟩) (FGC7_5 F) (.inl rfl)
def TGC7_7 (F : Nat) : List Ent := e130 F :: TGC7_6 F
theorem FGC7_7 (F : Nat) : Fits2 Try.prog (tD (TGC7_7 F)) (tS (TGC7_7 F)) := fits_cons (o130 (FGC7_6 F) ⟨⟩) (FGC7_6 F) (.inl rfl)
def TGC7_8 (F : Nat) : List Ent := e72 F :: TGC7_7 F
theorem FGC7_8 (F : Nat) : Fits2 Try.prog (tD (TGC7_8 F)) (tS (TGC7_8 F)) := fits_cons (o72 (FGC7_7 F) ⟨fun _ _ _ r h => p103 h, rfl, fun _ _ r h => p130 h, rfl⟩) (FGC7_7 F) (.inl rfl)
def TGC7_9 (F : Nat) : List Ent := e74 F :: TGC7_8 F
theorem FGC7_9 (F : Nat) : Fits2 Try.prog (tD (TGC7_9 F)) (tS (TGC7_9 F)) := fits_cons (o74 (FGC7_8 F) ⟨⟩) (FGC7_8 F) (.inl rfl)
def TGC7_10 (F : Nat) : List Ent := e119 F :: TGC7_9 F
theorem FGC7_10 (F : Nat) : Fits2 Try.prog (tD (TGC7_10 F)) (tS (TGC7_10 F)) := fits_cons (o119 (FGC7_9 F) ⟨fun _ _ r h => p74 h, rfl⟩) (FGC7_9 F) (.inl rfl)
def TGC7_11 (F : Nat) : List Ent := e81 F :: TGC7_10 F
theorem FGC7_11 (F : Nat) : Fits2 Try.prog (tD (TGC7_11 F)) (tS (TGC7_11 F)) := fits_cons (o81 (FGC7_10 F) ⟨fun _ _ r h => p119 h, rfl⟩) (FGC7_10 F) (.inl rfl)
def TGC7_12 (F : Nat) : List Ent := e145 F :: TGC7_11 F
theorem FGC7_12 (F : Nat) : Fits2 Try.prog (tD (TGC7_12 F)) (tS (TGC7_12 F)) := fits_cons (o145 (FGC7_11 F) ⟨⟩) (FGC7_11 F) (.inl rfl)
def TGC7_13 (F : Nat) : List Ent := e146 F :: TGC7_12 F
theorem FGC7_13 (F : Nat) : Fits2 Try.prog (tD (TGC7_13 F)) (tS (TGC7_13 F)) := fits_cons (o146 (FGC7_12 F) ⟨⟩) (FGC7_12 F) (.inl rfl)
def TGC7_14 (F : Nat) : List Ent := e82 F :: TGC7_13 F
theorem FGC7_14 (F : Nat) : Fits2 Try.prog (tD (TGC7_14 F)) (tS (TGC7_14 F)) := fits_cons (o82 (FGC7_13 F) ⟨fun _ _ _ r h => p145 h, rfl, fun _ _ r h => p146 h, rfl⟩) (FGC7_13 F) (.inl rfl)
def TGC7_15 (F : Nat) : List Ent := e36 F :: TGC7_14 F
theorem FGC7_15 (F : Nat) : Fits2 Try.prog (tD (TGC7_15 F)) (tS (TGC7_15 F)) := fits_cons (o36 (FGC7_14 F) ⟨fun _ r h => p72 h, rfl, fun _ _ r h => p81 h, rfl, fun _ _ r h => p82 h, rfl⟩) (FGC7_14 F) (.inl rfl)
def TGC7_16 (F : Nat) : List Ent := e105 F :: TGC7_15 F
theorem FGC7_16 (F : Nat) : Fits2 Try.prog (tD (TGC7_16 F)) (tS (TGC7_16 F)) := fits_cons (o105 (FGC7_15 F) ⟨⟩) (FGC7_15 F) (.inl rfl)
def TGC7_17 (F : Nat) : List Ent := e180 F :: TGC7_16 F
theorem FGC7_17 (F : Nat) : Fits2 Try.prog (tD (TGC7_17 F)) (tS (TGC7_17 F)) := fits_cons (o180 (FGC7_16 F) ⟨⟩) (FGC7_16 F) (.inl rfl)
def TGC7_18 (F : Nat) : List Ent := e153 F :: TGC7_17 F
theorem FGC7_18 (F : Nat) : Fits2 Try.prog (tD (TGC7_18 F)) (tS (TGC7_18 F)) := fits_cons (o153 (FGC7_17 F) ⟨fun _ r h => p180 h, rfl⟩) (FGC7_17 F) (.inl rfl)
def TGC7_19 (F : Nat) : List Ent := e94 F :: TGC7_18 F
theorem FGC7_19 (F : Nat) : Fits2 Try.prog (tD (TGC7_19 F)) (tS (TGC7_19 F)) := fits_cons (o94 (FGC7_18 F) ⟨fun _ _ r h => p153 h, rfl⟩) (FGC7_18 F) (.inl rfl)
def TGC7_20 (F : Nat) : List Ent := e63 F :: TGC7_19 F
theorem FGC7_20 (F : Nat) : Fits2 Try.prog (tD (TGC7_20 F)) (tS (TGC7_20 F)) := fits_cons (o63 (FGC7_19 F) ⟨fun _ _ _ r h => p105 h, rfl, fun _ _ r h => p94 h, rfl⟩) (FGC7_19 F) (.inl rfl)
def TGC7_21 (F : Nat) : List Ent := e124 F :: TGC7_20 F
theorem FGC7_21 (F : Nat) : Fits2 Try.prog (tD (TGC7_21 F)) (tS (TGC7_21 F)) := fits_cons (o124 (FGC7_20 F) ⟨fun _ _ _ r h => p105 h, rfl⟩) (FGC7_20 F) (.inl rfl)
def TGC7_22 (F : Nat) : List Ent := e93 F :: TGC7_21 F
theorem FGC7_22 (F : Nat) : Fits2 Try.prog (tD (TGC7_22 F)) (tS (TGC7_22 F)) := fits_cons (o93 (FGC7_21 F) ⟨⟩) (FGC7_21 F) (.inl rfl)
def TGC7_23 (F : Nat) : List Ent := e64 F :: TGC7_22 F
theorem FGC7_23 (F : Nat) : Fits2 Try.prog (tD (TGC7_23 F)) (tS (TGC7_23 F)) := fits_cons (o64 (FGC7_22 F) ⟨fun _ _ _ r h => p124 h, rfl, fun _ r h => p93 h, rfl⟩) (FGC7_22 F) (.inl rfl)
def TGC7_24 (F : Nat) : List Ent := e65 F :: TGC7_23 F
theorem FGC7_24 (F : Nat) : Fits2 Try.prog (tD (TGC7_24 F)) (tS (TGC7_24 F)) := fits_cons (o65 (FGC7_23 F) ⟨⟩) (FGC7_23 F) (.inl rfl)
def TGC7_25 (F : Nat) : List Ent := e83 F :: TGC7_24 F
theorem FGC7_25 (F : Nat) : Fits2 Try.prog (tD (TGC7_25 F)) (tS (TGC7_25 F)) := fits_cons (o83 (FGC7_24 F) ⟨⟩) (FGC7_24 F) (.inl rfl)
def TGC7_26 (F : Nat) : List Ent := e84 F :: TGC7_25 F
theorem FGC7_26 (F : Nat) : Fits2 Try.prog (tD (TGC7_26 F)) (tS (TGC7_26 F)) := fits_cons (o84 (FGC7_25 F) ⟨fun _ r h => p83 h, rfl⟩) (FGC7_25 F) (.inl rfl)
def TGC7_27 (F : Nat) : List Ent := e83o F :: TGC7_26 F
theorem FGC7_27 (F : Nat) : Fits2 Try.prog (tD (TGC7_27 F)) (tS (TGC7_27 F)) := fits_cons (o83o (FGC7_26 F) ⟨⟩) (FGC7_26 F) (.inl rfl)
def TGC7_28 (F : Nat) : List Ent := e37o F :: TGC7_27 F
theorem FGC7_28 (F : Nat) : Fits2 Try.prog (tD (TGC7_28 F)) (tS (TGC7_28 F)) := fits_cons (o37o (FGC7_27 F) ⟨fun _ r h => p63 h, rfl, fun _ _ r h => p64 h, rfl, fun _ r h => p65 h, rfl, fun _ _ r h => p84 h, rfl, fun _ r h => p83o h, rfl⟩) (FGC7_27 F) (.inl rfl)
def TGC7_29 (F : Nat) : List Ent := e21 F :: TGC7_28 F
theorem FGC7_29 (F : Nat) : Fits2 Try.prog (tD (TGC7_29 F)) (tS (TGC7_29 F)) := fits_cons (o21 (FGC7_28 F) ⟨⟩) (FGC7_28 F) (.inl rfl)
def TGC7_30 (F : Nat) : List Ent := e29 F :: TGC7_29 F
theorem FGC7_30 (F : Nat) : Fits2 Try.prog (tD (TGC7_30 F)) (tS (TGC7_30 F)) := fits_cons (o29 (FGC7_29 F) ⟨fun _ _ r h => p21 h, rfl⟩) (FGC7_29 F) (.inl rfl)
def TGC7_31 (F : Nat) : List Ent := e129 F :: TGC7_30 F
theorem FGC7_31 (F : Nat) : Fits2 Try.prog (tD (TGC7_31 F)) (tS (TGC7_31 F)) := fits_cons (o129 (FGC7_30 F) ⟨⟩) (FGC7_30 F) (.inl rfl)
def TGC7_32 (F : Nat) : List Ent := e68 F :: TGC7_31 F
theorem FGC7_32 (F : Nat) : Fits2 Try.prog (tD (TGC7_32 F)) (tS (TGC7_32 F)) := fits_cons (o68 (FGC7_31 F) ⟨fun _ _ r h => p129 h, rfl⟩) (FGC7_31 F) (.inl rfl)
def TGC7_33 (F : Nat) : List Ent := e20 F :: TGC7_32 F
theorem FGC7_33 (F : Nat) : Fits2 Try.prog (tD (TGC7_33 F)) (tS (TGC7_33 F)) := fits_cons (o20 (FGC7_32 F) ⟨fun _ _ r h => p68 h, rfl⟩) (FGC7_32 F) (.inl rfl)
def TGC7_34 (F : Nat) : List Ent := e62o F :: TGC7_33 F
theorem FGC7_34 (F : Nat) : Fits2 Try.prog (tD (TGC7_34 F)) (tS (TGC7_34 F)) := fits_cons (o62o (FGC7_33 F) ⟨fun _ r h => p123 h, rfl⟩) (FGC7_33 F) (.inl rfl)
def TGC7_35 (F : Nat) : List Ent := e17o F :: TGC7_34 F
theorem FGC7_35 (F : Nat) : Fits2 Try.prog (tD (TGC7_35 F)) (tS (TGC7_35 F)) := fits_cons (o17o (FGC7_34 F) ⟨fun _ r h => p62o h, rfl⟩) (FGC7_34 F) (.inl rfl)
def TGC7_36 (F : Nat) : List Ent := e69 F :: TGC7_35 F
theorem FGC7_36 (F : Nat) : Fits2 Try.prog (tD (TGC7_36 F)) (tS (TGC7_36 F)) := fits_cons (o69 (FGC7_35 F) ⟨⟩) (FGC7_35 F) (.inl rfl)
def TGC7_37 (F : Nat) : List Ent := e22 F :: TGC7_36 F
theorem FGC7_37 (F : Nat) : Fits2 Try.prog (tD (TGC7_37 F)) (tS (TGC7_37 F)) := fits_cons (o22 (FGC7_36 F) ⟨fun _ _ r h => p69 h, rfl⟩) (FGC7_36 F) (.inl rfl)
def TGC7_38 (F : Nat) : List Ent := e18o F :: TGC7_37 F
theorem FGC7_38 (F : Nat) : Fits2 Try.prog (tD (TGC7_38 F)) (tS (TGC7_38 F)) := fits_cons (o18o (FGC7_37 F) ⟨⟩) (FGC7_37 F) (.inl rfl)
def TGC7_39 (F : Nat) : List Ent := e23 F :: TGC7_38 F
theorem FGC7_39 (F : Nat) : Fits2 Try.prog (tD (TGC7_39 F)) (tS (TGC7_39 F)) := fits_cons (o23 (FGC7_38 F) ⟨⟩) (FGC7_38 F) (.inl rfl)
def TGC7_40 (F : Nat) : List Ent := e30 F :: TGC7_39 F
theorem FGC7_40 (F : Nat) : Fits2 Try.prog (tD (TGC7_40 F)) (tS (TGC7_40 F)) := fits_cons (o30 (FGC7_39 F) ⟨fun _ _ r h => p23 h, rfl⟩) (FGC7_39 F) (.inl rfl)
def TGC7_41 (F : Nat) : List Ent := e31 F :: TGC7_40 F
theorem FGC7_41 (F : Nat) : Fits2 Try.prog (tD (TGC7_41 F)) (tS (TGC7_41 F)) := fits_cons (o31 (FGC7_40 F) ⟨⟩) (FGC7_40 F) (.inl rfl)
def TGC7_42 (F : Nat) : List Ent := e38 F :: TGC7_41 F
theorem FGC7_42 (F : Nat) : Fits2 Try.prog (tD (TGC7_42 F)) (tS (TGC7_42 F)) := fits_cons (o38 (FGC7_41 F) ⟨fun _ _ r h => p31 h, rfl⟩) (FGC7_41 F) (.inl rfl)
def TGC7_43 (F : Nat) : List Ent := e7 F :: TGC7_42 F
theorem FGC7_43 (F : Nat) : Fits2 Try.prog (tD (TGC7_43 F)) (tS (TGC7_43 F)) := fits_cons (o7 (FGC7_42 F) ⟨fun _ _ r h => p15 h, rfl, fun _ r h => p17 h, rfl, fun _ r h => p18 h, rfl, fun _ _ r h => p36 h, rfl, fun _ r h => p17o h, rfl, fun _ r h => p18o h, rfl, fun _ _ r h => p37o h, rfl, fun _ _ r h => p29 h, rfl, fun _ _ r h => p20 h, rfl, fun _ _ r h => p21 h, rfl, fun _ _ r h => p22 h, rfl, fun _ _ r h => p23 h, rfl, fun _ _ r h => p30 h, rfl, fun _ _ r h => p38 h, rfl⟩) (FGC7_42 F) (.inl rfl)
theorem law7 (F : Nat) (x0 : (Int × (List (Int × Int)))) (x1 : (List Int)) (h : w_FnExactBagsOfLayout F x0 x1 = some true) : Contract Try.prog 7 0 false [Enc.enc x0, Enc.enc x1] (.bool true) := contract_plain ((FGC7_43 F).con 7 _ _ 0 false (p7 h) rfl) rfl rfl
end Go.Zq
