/- The table of the functions' contracts. No further condition. -/
import Derived.Test.YtonidecbmdpfhaaK3
import Derived.Test.YtonidecbmdpfhaaKC
import Derived.Test.YtonidecbmdpfhaaProg
import Derived.Test.YtonidecbmdpfhaaChecked
import Derived.KernelRfl
import Derived.Test.YtonidecbmdpfhaaG3
set_option linter.unusedVariables false
set_option linter.unusedSimpArgs false
/- Functions of the program, as typed functions, and that the machine runs as they say. -/
namespace Go.Zq
open Go.Proofs Go.Shelf
def TGT9_0 (F : Nat) : List Ent := e47 F :: []
theorem FGT9_0 (F : Nat) : Fits2 Try.prog (tD (TGT9_0 F)) (tS (TGT9_0 F)) := fits_cons (o47 (fits_nil) ⟨⟩) (fits_nil) (.inl rfl)
def TGT9_1 (F : Nat) : List Ent := e15 F :: TGT9_0 F
theorem FGT9_1 (F : Nat) : Fits2 Try.prog (tD (TGT9_1 F)) (tS (TGT9_1 F)) := fits_cons (o15 (FGT9_0 F) ⟨fun _ _ r h => p47 h, rfl⟩) (FGT9_0 F) (.inl rfl)
def TGT9_2 (F : Nat) : List Ent := e99 F :: TGT9_1 F
theorem FGT9_2 (F : Nat) : Fits2 Try.prog (tD (TGT9_2 F)) (tS (TGT9_2 F)) := fits_cons (o99 (FGT9_1 F) ⟨⟩) (FGT9_1 F) (.inl rfl)
def TGT9_3 (F : Nat) : List Ent := e50 F :: TGT9_2 F
theorem FGT9_3 (F : Nat) : Fits2 Try.prog (tD (TGT9_3 F)) (tS (TGT9_3 F)) := fits_cons (o50 (FGT9_2 F) ⟨fun _ r h => p99 h, rfl⟩) (FGT9_2 F) (.inl rfl)
def TGT9_4 (F : Nat) : List Ent := e17 F :: TGT9_3 F
theorem FGT9_4 (F : Nat) : Fits2 Try.prog (tD (TGT9_4 F)) (tS (TGT9_4 F)) := fits_cons (o17 (FGT9_3 F) ⟨fun _ r h => p50 h, rfl⟩) (FGT9_3 F) (.inl rfl)
def TGT9_5 (F : Nat) : List Ent := e95 F :: TGT9_4 F
theorem FGT9_5 (F : Nat) : Fits2 Try.prog (tD (TGT9_5 F)) (tS (TGT9_5 F)) := fits_cons (o95 (FGT9_4 F) ⟨⟩) (FGT9_4 F) (.inl rfl)
def TGT9_6 (F : Nat) : List Ent := e96 F :: TGT9_5 F
theorem FGT9_6 (F : Nat) : Fits2 Try.prog (tD (TGT9_6 F)) (tS (TGT9_6 F)) := fits_cons (o96 (FGT9_5 F) ⟨⟩) (FGT9_5 F) (.inl rfl)
def TGT9_7 (F : Nat) : List Ent := e48 F :: TGT9_6 F
theorem FGT9_7 (F : Nat) : Fits2 Try.prog (tD (TGT9_7 F)) (tS (TGT9_7 F)) := fits_cons (o48 (FGT9_6 F) ⟨fun _ _ _ r h => p95 h, rfl, fun _ _ r h => p96 h, rfl⟩) (FGT9_6 F) (.inl rfl)
def TGT9_8 (F : Nat) : List Ent := e97 F :: TGT9_7 F
theorem FGT9_8 (F : Nat) : Fits2 Try.prog (tD (TGT9_8 F)) (tS (TGT9_8 F)) := fits_cons (o97 (FGT9_7 F) ⟨⟩) (FGT9_7 F) (.inl rfl)
def TGT9_9 (F : Nat) : List Ent := e107 F :: TGT9_8 F
theorem FGT9_9 (F : Nat) : Fits2 Try.prog (tD (TGT9_9 F)) (tS (TGT9_9 F)) := fits_cons (o107 (FGT9_8 F) ⟨fun _ _ _ r h => p97 h, rfl⟩) (FGT9_8 F) (.inl rfl)
def TGT9_10 (F : Nat) : List Ent := e68 F :: TGT9_9 F
theorem FGT9_10 (F : Nat) : Fits2 Try.prog (tD (TGT9_10 F)) (tS (TGT9_10 F)) := fits_cons (o68 (FGT9_9 F) ⟨⟩) (FGT9_9 F) (.inl rfl)
def TGT9_11 (F : Nat) : List Ent := e124 F :: TGT9_10 F
theorem FGT9_11 (F : Nat) : Fits2 Try.prog (tD (TGT9_11 F)) (tS (TGT9_11 F)) := fits_cons (o124 (FGT9_10 F) ⟨⟩) (FGT9_10 F) (.inl rfl)
def TGT9_12 (F : Nat) : List Ent := e115 F :: TGT9_11 F
theorem FGT9_12 (F : Nat) : Fits2 Try.prog (tD (TGT9_12 F)) (tS (TGT9_12 F)) := fits_cons (o115 (FGT9_11 F) ⟨fun _ _ r h => p107 h, rfl, fun _ _ r h => p68 h, rfl, fun _ _ r h => p124 h, rfl⟩) (FGT9_11 F) (.inl rfl)
def TGT9_13 (F : Nat) : List Ent := e98 F :: TGT9_12 F
theorem FGT9_13 (F : Nat) : Fits2 Try.prog (tD (TGT9_13 F)) (tS (TGT9_13 F)) := fits_cons (o98 (FGT9_12 F) ⟨⟩) (FGT9_12 F) (.inl rfl)
def TGT9_14 (F : Nat) : List Ent := e98o F :: TGT9_13 F
theorem FGT9_14 (F : Nat) : Fits2 Try.prog (tD (TGT9_14 F)) (tS (TGT9_14 F)) := fits_cons (o98o (FGT9_13 F) ⟨⟩) (FGT9_13 F) (.inl rfl)
def TGT9_15 (F : Nat) : List Ent := e79 F F :: TGT9_14 F
theorem QGT9_15 (F : Nat) : ∀ k, Fits2 Try.prog (tD (e79 F k :: TGT9_14 F)) (tS (e79 F k :: TGT9_14 F))
  | 0 => fits_cons z79 (FGT9_14 F) (.inl rfl)
  | k + 1 => fits_cons (o79 (QGT9_15 F k) ⟨fun _ _ _ r h => p115 h, rfl, fun _ _ r h => p68 h, rfl, fun _ r h => p98o h, rfl, fun _ _ _ r h => p79 (k := k) h, rfl⟩) (FGT9_14 F) (.inl rfl)
theorem FGT9_15 (F : Nat) : Fits2 Try.prog (tD (TGT9_15 F)) (tS (TGT9_15 F)) := QGT9_15 F F
def TGT9_16 (F : Nat) : List Ent := e35 F :: TGT9_15 F
theorem FGT9_16 (F : Nat) : Fits2 Try.prog (tD (TGT9_16 F)) (tS (TGT9_16 F)) := fits_cons (o35 (FGT9_15 F) ⟨fun _ r h => p48 h, rfl, fun _ _ _ r h => p79 (k := F) h, rfl⟩) (FGT9_15 F) (.inl rfl)
def TGT9_17 (F : Nat) : List Ent := e100 F :: TGT9_16 F
theorem FGT9_17 (F : Nat) : Fits2 Try.prog (tD (TGT9_17 F)) (tS (TGT9_17 F)) := fits_cons (o100 (FGT9_16 F) ⟨⟩) (FGT9_16 F) (.inl rfl)
def TGT9_18 (F : Nat) : List Ent := e126 F :: TGT9_17 F
theorem FGT9_18 (F : Nat) : Fits2 Try.prog (tD (TGT9_18 F)) (tS (TGT9_18 F)) := fits_cons (o126 (FGT9_17 F) ⟨⟩) (FGT9_17 F) (.inl rfl)
def TGT9_19 (F : Nat) : List Ent := e123 F :: TGT9_18 F
theorem FGT9_19 (F : Nat) : Fits2 Try.prog (tD (TGT9_19 F)) (tS (TGT9_19 F)) := fits_cons (o123 (FGT9_18 F) ⟨fun _ r h => p126 h, rfl⟩) (FGT9_18 F) (.inl rfl)
def TGT9_20 (F : Nat) : List Ent := e101 F :: TGT9_19 F
theorem FGT9_20 (F : Nat) : Fits2 Try.prog (tD (TGT9_20 F)) (tS (TGT9_20 F)) := fits_cons (o101 (FGT9_19 F) ⟨fun _ _ r h => p123 h, rfl⟩) (FGT9_19 F) (.inl rfl)
def TGT9_21 (F : Nat) : List Ent := e51 F :: TGT9_20 F
theorem FGT9_21 (F : Nat) : Fits2 Try.prog (tD (TGT9_21 F)) (tS (TGT9_21 F)) := fits_cons (o51 (FGT9_20 F) ⟨fun _ _ _ r h => p100 h, rfl, fun _ _ r h => p101 h, rfl⟩) (FGT9_20 F) (.inl rfl)
def TGT9_22 (F : Nat) : List Ent := e52 F :: TGT9_21 F
theorem FGT9_22 (F : Nat) : Fits2 Try.prog (tD (TGT9_22 F)) (tS (TGT9_22 F)) := fits_cons (o52 (FGT9_21 F) ⟨⟩) (FGT9_21 F) (.inl rfl)
def TGT9_23 (F : Nat) : List Ent := e116 F :: TGT9_22 F
theorem FGT9_23 (F : Nat) : Fits2 Try.prog (tD (TGT9_23 F)) (tS (TGT9_23 F)) := fits_cons (o116 (FGT9_22 F) ⟨⟩) (FGT9_22 F) (.inl rfl)
def TGT9_24 (F : Nat) : List Ent := e125 F :: TGT9_23 F
theorem FGT9_24 (F : Nat) : Fits2 Try.prog (tD (TGT9_24 F)) (tS (TGT9_24 F)) := fits_cons (o125 (FGT9_23 F) ⟨⟩) (FGT9_23 F) (.inl rfl)
def TGT9_25 (F : Nat) : List Ent := e117 F :: TGT9_24 F
theorem FGT9_25 (F : Nat) : Fits2 Try.prog (tD (TGT9_25 F)) (tS (TGT9_25 F)) := fits_cons (o117 (FGT9_24 F) ⟨fun _ _ r h => p125 h, rfl⟩) (FGT9_24 F) (.inl rfl)
def TGT9_26 (F : Nat) : List Ent := e118 F :: TGT9_25 F
theorem FGT9_26 (F : Nat) : Fits2 Try.prog (tD (TGT9_26 F)) (tS (TGT9_26 F)) := fits_cons (o118 (FGT9_25 F) ⟨⟩) (FGT9_25 F) (.inl rfl)
def TGT9_27 (F : Nat) : List Ent := e102 F :: TGT9_26 F
theorem FGT9_27 (F : Nat) : Fits2 Try.prog (tD (TGT9_27 F)) (tS (TGT9_27 F)) := fits_cons (o102 (FGT9_26 F) ⟨⟩) (FGT9_26 F) (.inl rfl)
def TGT9_28 (F : Nat) : List Ent := e102o F :: TGT9_27 F
theorem FGT9_28 (F : Nat) : Fits2 Try.prog (tD (TGT9_28 F)) (tS (TGT9_28 F)) := fits_cons (o102o (FGT9_27 F) ⟨⟩) (FGT9_27 F) (.inl rfl)
def TGT9_29 (F : Nat) : List Ent := e80 F F :: TGT9_28 F
theorem QGT9_29 (F : Nat) : ∀ k, Fits2 Try.prog (tD (e80 F k :: TGT9_28 F)) (tS (e80 F k :: TGT9_28 F))
  | 0 => fits_cons z80 (FGT9_28 F) (.inl rfl)
  | k + 1 => fits_cons (o80 (QGT9_29 F k) ⟨fun _ r h => p116 h, rfl, fun _ _ r h => p117 h, rfl, fun _ _ _ r h => p118 h, rfl, fun _ r h => p102o h, rfl, fun _ _ _ r h => p80 (k := k) h, rfl⟩) (FGT9_28 F) (.inl rfl)
theorem FGT9_29 (F : Nat) : Fits2 Try.prog (tD (TGT9_29 F)) (tS (TGT9_29 F)) := QGT9_29 F F
def TGT9_30 (F : Nat) : List Ent := e80o F F :: TGT9_29 F
theorem QGT9_30 (F : Nat) : ∀ k, Fits2 Try.prog (tD (e80o F k :: TGT9_29 F)) (tS (e80o F k :: TGT9_29 F))
  | 0 => fits_cons z80o (FGT9_29 F) (.inl rfl)
  | k + 1 => fits_cons (o80o (QGT9_30 F k) ⟨fun _ r h => p116 h, rfl, fun _ _ r h => p117 h, rfl, fun _ _ _ r h => p118 h, rfl, fun _ r h => p102o h, rfl, fun _ _ _ r h => p80o (k := k) h, rfl⟩) (FGT9_29 F) (.inl rfl)
theorem FGT9_30 (F : Nat) : Fits2 Try.prog (tD (TGT9_30 F)) (tS (TGT9_30 F)) := QGT9_30 F F
def TGT9_31 (F : Nat) : List Ent := e36o F :: TGT9_30 F
theorem FGT9_31 (F : Nat) : Fits2 Try.prog (tD (TGT9_31 F)) (tS (TGT9_31 F)) := fits_cons (o36o (FGT9_30 F) ⟨fun _ r h => p51 h, rfl, fun _ r h => p52 h, rfl, fun _ _ _ r h => p80o (k := F) h, rfl⟩) (FGT9_30 F) (.inl rfl)
def TGT9_32 (F : Nat) : List Ent := e19 F :: TGT9_31 F
theorem FGT9_32 (F : Nat) : Fits2 Try.prog (tD (TGT9_32 F)) (tS (TGT9_32 F)) := fits_cons (o19 (FGT9_31 F) ⟨⟩) (FGT9_31 F) (.inl rfl)
def TGT9_33 (F : Nat) : List Ent := e103 F :: TGT9_32 F
theorem FGT9_33 (F : Nat) : Fits2 Try.prog (tD (TGT9_33 F)) (tS (TGT9_33 F)) := fits_cons (o103 (FGT9_32 F) ⟨⟩) (FGT9_32 F) (.inl rfl)
def TGT9_34 (F : Nat) : List Ent := e54 F :: TGT9_33 F
theorem FGT9_34 (F : Nat) : Fits2 Try.prog (tD (TGT9_34 F)) (tS (TGT9_34 F)) := fits_cons (o54 (FGT9_33 F) ⟨fun _ _ r h => p103 h, rfl⟩) (FGT9_33 F) (.inl rfl)
def TGT9_35 (F : Nat) : List Ent := e20 F :: TGT9_34 F
theorem FGT9_35 (F : Nat) : Fits2 Try.prog (tD (TGT9_35 F)) (tS (TGT9_35 F)) := fits_cons (o20 (FGT9_34 F) ⟨fun _ _ r h => p54 h, rfl⟩) (FGT9_34 F) (.inl rfl)
def TGT9_36 (F : Nat) : List Ent := e50o F :: TGT9_35 F
theorem FGT9_36 (F : Nat) : Fits2 Try.prog (tD (TGT9_36 F)) (tS (TGT9_36 F)) := fits_cons (o50o (FGT9_35 F) ⟨fun _ r h => p99 h, rfl⟩) (FGT9_35 F) (.inl rfl)
def TGT9_37 (F : Nat) : List Ent := e17o F :: TGT9_36 F
theorem FGT9_37 (F : Nat) : Fits2 Try.prog (tD (TGT9_37 F)) (tS (TGT9_37 F)) := fits_cons (o17o (FGT9_36 F) ⟨fun _ r h => p50o h, rfl⟩) (FGT9_36 F) (.inl rfl)
def TGT9_38 (F : Nat) : List Ent := e55 F :: TGT9_37 F
theorem FGT9_38 (F : Nat) : Fits2 Try.prog (tD (TGT9_38 F)) (tS (TGT9_38 F)) := fits_cons (o55 (FGT9_37 F) ⟨⟩) (FGT9_37 F) (.inl rfl)
def TGT9_39 (F : Nat) : List Ent := e21 F :: TGT9_38 F
theorem FGT9_39 (F : Nat) : Fits2 Try.prog (tD (TGT9_39 F)) (tS (TGT9_39 F)) := fits_cons (o21 (FGT9_38 F) ⟨fun _ _ r h => p55 h, rfl⟩) (FGT9_38 F) (.inl rfl)
def TGT9_40 (F : Nat) : List Ent := e22 F :: TGT9_39 F
theorem FGT9_40 (F : Nat) : Fits2 Try.prog (tD (TGT9_40 F)) (tS (TGT9_40 F)) := fits_cons (o22 (FGT9_39 F) ⟨⟩) (FGT9_39 F) (.inl rfl)
def TGT9_41 (F : Nat) : List Ent := e23 F :: TGT9_40 F
theorem FGT9_41 (F : Nat) : Fits2 Try.prog (tD (TGT9_41 F)) (tS (TGT9_41 F)) := fits_cons (o23 (FGT9_40 F) ⟨⟩) (FGT9_40 F) (.inl rfl)
def TGT9_42 (F : Nat) : List Ent := e9 F :: TGT9_41 F
theorem FGT9_42 (F : Nat) : Fits2 Try.prog (tD (TGT9_42 F)) (tS (TGT9_42 F)) := fits_cons (o9 (FGT9_41 F) ⟨fun _ _ r h => p15 h, rfl, fun _ r h => p17 h, rfl, fun _ r h => p35 h, rfl, fun _ r h => p17o h, rfl, fun _ r h => p36o h, rfl, fun _ _ r h => p19 h, rfl, fun _ _ r h => p20 h, rfl, fun _ _ r h => p21 h, rfl, fun _ _ r h => p22 h, rfl, fun _ _ r h => p23 h, rfl⟩) (FGT9_41 F) (.inl rfl)
theorem law9 (F : Nat) (x0 : (Int × (List (Int × Int)))) (h : w_FnExactLeastBandwidth F x0 = some true) : Contract Try.prog 9 0 false [Enc.enc x0] (.bool true) := contract_plain ((FGT9_42 F).con 9 _ _ 0 false (p9 h) rfl) rfl rfl
end Go.Zq
