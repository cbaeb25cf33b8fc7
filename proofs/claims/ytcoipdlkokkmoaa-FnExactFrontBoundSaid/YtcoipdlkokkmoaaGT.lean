/- The table of the functions' contracts. No further condition. -/
import Derived.Test.YtcoipdlkokkmoaaK3
import Derived.Test.YtcoipdlkokkmoaaProg
import Derived.Test.YtcoipdlkokkmoaaChecked
import Derived.KernelRfl
import Derived.Test.YtcoipdlkokkmoaaG2
set_option linter.unusedVariables false
set_option linter.unusedSimpArgs false
/- Functions of the program, as typed functions, and that the machine runs as they say. -/
namespace Go.Zq
open Go.Proofs
def TGCF_0 (F : Nat) : List Ent := e9 F :: []
theorem FGCF_0 (F : Nat) : Fits2 Try.prog (tD (TGCF_0 F)) (tS (TGCF_0 F)) := fits_cons (o9 (fits_nil) ⟨⟩) (fits_nil) (.inl rfl)
def TGCF_1 (F : Nat) : List Ent := e4 F :: TGCF_0 F
theorem FGCF_1 (F : Nat) : Fits2 Try.prog (tD (TGCF_1 F)) (tS (TGCF_1 F)) := fits_cons (o4 (FGCF_0 F) ⟨fun _ _ r h => p9 h, rfl⟩) (FGCF_0 F) (.inl rfl)
def TGCF_2 (F : Nat) : List Ent := e28 F :: TGCF_1 F
theorem FGCF_2 (F : Nat) : Fits2 Try.prog (tD (TGCF_2 F)) (tS (TGCF_2 F)) := fits_cons (o28 (FGCF_1 F) ⟨⟩) (FGCF_1 F) (.inl rfl)
def TGCF_3 (F : Nat) : List Ent := e14 F :: TGCF_2 F
theorem FGCF_3 (F : Nat) : Fits2 Try.prog (tD (TGCF_3 F)) (tS (TGCF_3 F)) := fits_cons (o14 (FGCF_2 F) ⟨fun _ r h => p28 h, rfl⟩) (FGCF_2 F) (.inl rfl)
def TGCF_4 (F : Nat) : List Ent := e6 F :: TGCF_3 F
theorem FGCF_4 (F : Nat) : Fits2 Try.prog (tD (TGCF_4 F)) (tS (TGCF_4 F)) := fits_cons (o6 (FGCF_3 F) ⟨fun _ r h => p14 h, rfl⟩) (FGCF_3 F) (.inl rfl)
def TGCF_5 (F : Nat) : List Ent := e23 F :: TGCF_4 F
theorem FGCF_5 (F : Nat) : Fits2 Try.prog (tD (TGCF_5 F)) (tS (TGCF_5 F)) := fits_cons (o23 (FGCF_4 F) ⟨⟩) (FGCF_4 F) (.inl rfl)
def TGCF_6 (F : Nat) : List Ent := e24 F :: TGCF_5 F
theorem FGCF_6 (F : Nat) : Fits2 Try.prog (tD (TGCF_6 F)) (tS (TGCF_6 F)) := fits_cons (o24 (FGCF_5 F) ⟨⟩) (FGCF_5 F) (.inl rfl)
def TGCF_7 (F : Nat) : List Ent := e10 F :: TGCF_6 F
theorem FGCF_7 (F : Nat) : Fits2 Try.prog (tD (TGCF_7 F)) (tS (TGCF_7 F)) := fits_cons (o10 (FGCF_6 F) ⟨fun _ _ _ r h => p23 h, rfl, fun _ _ r h => p24 h, rfl⟩) (FGCF_6 F) (.inl rfl)
def TGCF_8 (F : Nat) : List Ent := e11 F :: TGCF_7 F
theorem FGCF_8 (F : Nat) : Fits2 Try.prog (tD (TGCF_8 F)) (tS (TGCF_8 F)) := fits_cons (o11 (FGCF_7 F) ⟨⟩) (FGCF_7 F) (.inl rfl)
def TGCF_9 (F : Nat) : List Ent := e25 F :: TGCF_8 F
theorem FGCF_9 (F : Nat) : Fits2 Try.prog (tD (TGCF_9 F)) (tS (TGCF_9 F)) := fits_cons (o25 (FGCF_8 F) ⟨⟩) (FGCF_8 F) (.inl rfl)
def TGCF_10 (F : Nat) : List Ent := e26 F :: TGCF_9 F
theorem FGCF_10 (F : Nat) : Fits2 Try.prog (tD (TGCF_10 F)) (tS (TGCF_10 F)) := fits_cons (o26 (FGCF_9 F) ⟨⟩) (FGCF_9 F) (.inl rfl)
def TGCF_11 (F : Nat) : List Ent := e27 F :: TGCF_10 F
theorem FGCF_11 (F : Nat) : Fits2 Try.prog (tD (TGCF_11 F)) (tS (TGCF_11 F)) := fits_cons (o27 (FGCF_10 F) ⟨⟩) (FGCF_10 F) (.inl rfl)
def TGCF_12 (F : Nat) : List Ent := e12 F :: TGCF_11 F
theorem FGCF_12 (F : Nat) : Fits2 Try.prog (tD (TGCF_12 F)) (tS (TGCF_12 F)) := fits_cons (o12 (FGCF_11 F) ⟨fun _ _ _ r h => p25 h, rfl, fun _ _ r h => p26 h, rfl, fun _ _ r h => p27 h, rfl⟩) (FGCF_11 F) (.inl rfl)
def TGCF_13 (F : Nat) : List Ent := e13 F :: TGCF_12 F
theorem FGCF_13 (F : Nat) : Fits2 Try.prog (tD (TGCF_13 F)) (tS (TGCF_13 F)) := fits_cons (o13 (FGCF_12 F) ⟨⟩) (FGCF_12 F) (.inl rfl)
def TGCF_14 (F : Nat) : List Ent := e5 F :: TGCF_13 F
theorem FGCF_14 (F : Nat) : Fits2 Try.prog (tD (TGCF_14 F)) (tS (TGCF_14 F)) := fits_cons (o5 (FGCF_13 F) ⟨fun _ r h => p10 h, rfl, fun _ _ r h => p11 h, rfl, fun _ _ r h => p12 h, rfl, fun _ _ r h => p13 h, rfl⟩) (FGCF_13 F) (.inl rfl)
def TGCF_15 (F : Nat) : List Ent := e29 F :: TGCF_14 F
theorem FGCF_15 (F : Nat) : Fits2 Try.prog (tD (TGCF_15 F)) (tS (TGCF_15 F)) := fits_cons (o29 (FGCF_14 F) ⟨⟩) (FGCF_14 F) (.inl rfl)
def TGCF_16 (F : Nat) : List Ent := e39 F :: TGCF_15 F
theorem FGCF_16 (F : Nat) : Fits2 Try.prog (tD (TGCF_16 F)) (tS (TGCF_16 F)) := fits_cons (o39 (FGCF_15 F) ⟨⟩) (FGCF_15 F) (.inl rfl)
def TGCF_17 (F : Nat) : List Ent := e36 F :: TGCF_16 F
theorem FGCF_17 (F : Nat) : Fits2 Try.prog (tD (TGCF_17 F)) (tS (TGCF_17 F)) := fits_cons (o36 (FGCF_16 F) ⟨fun _ r h => p39 h, rfl⟩) (FGCF_16 F) (.inl rfl)
def TGCF_18 (F : Nat) : List Ent := e30 F :: TGCF_17 F
theorem FGCF_18 (F : Nat) : Fits2 Try.prog (tD (TGCF_18 F)) (tS (TGCF_18 F)) := fits_cons (o30 (FGCF_17 F) ⟨fun _ _ r h => p36 h, rfl⟩) (FGCF_17 F) (.inl rfl)
def TGCF_19 (F : Nat) : List Ent := e15 F :: TGCF_18 F
theorem FGCF_19 (F : Nat) : Fits2 Try.prog (tD (TGCF_19 F)) (tS (TGCF_19 F)) := fits_cons (o15 (FGCF_18 F) ⟨fun _ _ _ r h => p29 h, rfl, fun _ _ r h => p30 h, rfl⟩) (FGCF_18 F) (.inl rfl)
def TGCF_20 (F : Nat) : List Ent := e16 F :: TGCF_19 F
theorem FGCF_20 (F : Nat) : Fits2 Try.prog (tD (TGCF_20 F)) (tS (TGCF_20 F)) := fits_cons (o16 (FGCF_19 F) ⟨⟩) (FGCF_19 F) (.inl rfl)
def TGCF_21 (F : Nat) : List Ent := e38 F :: TGCF_20 F
theorem FGCF_21 (F : Nat) : Fits2 Try.prog (tD (TGCF_21 F)) (tS (TGCF_21 F)) := fits_cons (o38 (FGCF_20 F) ⟨⟩) (FGCF_20 F) (.inl rfl)
def TGCF_22 (F : Nat) : List Ent := e31 F :: TGCF_21 F
theorem FGCF_22 (F : Nat) : Fits2 Try.prog (tD (TGCF_22 F)) (tS (TGCF_22 F)) := fits_cons (o31 (FGCF_21 F) ⟨fun _ _ r h => p38 h, rfl⟩) (FGCF_21 F) (.inl rfl)
def TGCF_23 (F : Nat) : List Ent := e18 F :: TGCF_22 F
theorem FGCF_23 (F : Nat) : Fits2 Try.prog (tD (TGCF_23 F)) (tS (TGCF_23 F)) := fits_cons (o18 (FGCF_22 F) ⟨⟩) (FGCF_22 F) (.inl rfl)
def TGCF_24 (F : Nat) : List Ent := e33 F :: TGCF_23 F
theorem FGCF_24 (F : Nat) : Fits2 Try.prog (tD (TGCF_24 F)) (tS (TGCF_24 F)) := fits_cons (o33 (FGCF_23 F) ⟨⟩) (FGCF_23 F) (.inl rfl)
def TGCF_25 (F : Nat) : List Ent := e19 F :: TGCF_24 F
theorem FGCF_25 (F : Nat) : Fits2 Try.prog (tD (TGCF_25 F)) (tS (TGCF_25 F)) := fits_cons (o19 (FGCF_24 F) ⟨fun _ r h => p33 h, rfl⟩) (FGCF_24 F) (.inl rfl)
def TGCF_26 (F : Nat) : List Ent := e34 F :: TGCF_25 F
theorem FGCF_26 (F : Nat) : Fits2 Try.prog (tD (TGCF_26 F)) (tS (TGCF_26 F)) := fits_cons (o34 (FGCF_25 F) ⟨⟩) (FGCF_25 F) (.inl rfl)
def TGCF_27 (F : Nat) : List Ent := e20 F :: TGCF_26 F
theorem FGCF_27 (F : Nat) : Fits2 Try.prog (tD (TGCF_27 F)) (tS (TGCF_27 F)) := fits_cons (o20 (FGCF_26 F) ⟨fun _ r h => p34 h, rfl⟩) (FGCF_26 F) (.inl rfl)
def TGCF_28 (F : Nat) : List Ent := e17o F :: TGCF_27 F
theorem FGCF_28 (F : Nat) : Fits2 Try.prog (tD (TGCF_28 F)) (tS (TGCF_28 F)) := fits_cons (o17o (FGCF_27 F) ⟨fun _ _ r h => p31 h, rfl⟩) (FGCF_27 F) (.inl rfl)
def TGCF_29 (F : Nat) : List Ent := e21 F :: TGCF_28 F
theorem FGCF_29 (F : Nat) : Fits2 Try.prog (tD (TGCF_29 F)) (tS (TGCF_29 F)) := fits_cons (o21 (FGCF_28 F) ⟨⟩) (FGCF_28 F) (.inl rfl)
def TGCF_30 (F : Nat) : List Ent := e7 F :: TGCF_29 F
theorem FGCF_30 (F : Nat) : Fits2 Try.prog (tD (TGCF_30 F)) (tS (TGCF_30 F)) := fits_cons (o7 (FGCF_29 F) ⟨fun _ r h => p15 h, rfl, fun _ r h => p16 h, rfl, fun _ _ r h => p17o h, rfl, fun _ r h => p18 h, rfl, fun _ r h => p19 h, rfl, fun _ _ r h => p20 h, rfl, fun _ r h => p21 h, rfl⟩) (FGCF_29 F) (.inl rfl)
def TGCF_31 (F : Nat) : List Ent := e35 F :: TGCF_30 F
theorem FGCF_31 (F : Nat) : Fits2 Try.prog (tD (TGCF_31 F)) (tS (TGCF_31 F)) := fits_cons (o35 (FGCF_30 F) ⟨⟩) (FGCF_30 F) (.inl rfl)
def TGCF_32 (F : Nat) : List Ent := e22 F :: TGCF_31 F
theorem FGCF_32 (F : Nat) : Fits2 Try.prog (tD (TGCF_32 F)) (tS (TGCF_32 F)) := fits_cons (o22 (FGCF_31 F) ⟨fun _ _ r h => p35 h, rfl⟩) (FGCF_31 F) (.inl rfl)
def TGCF_33 (F : Nat) : List Ent := e8 F :: TGCF_32 F
theorem FGCF_33 (F : Nat) : Fits2 Try.prog (tD (TGCF_33 F)) (tS (TGCF_33 F)) := fits_cons (o8 (FGCF_32 F) ⟨fun _ _ r h => p22 h, rfl⟩) (FGCF_32 F) (.inl rfl)
def TGCF_34 (F : Nat) : List Ent := e3 F :: TGCF_33 F
theorem FGCF_34 (F : Nat) : Fits2 Try.prog (tD (TGCF_34 F)) (tS (TGCF_34 F)) := fits_cons (o3 (FGCF_33 F) ⟨fun _ _ r h => p4 h, rfl, fun _ r h => p6 h, rfl, fun _ r h => p5 h, rfl, fun _ r h => p7 h, rfl, fun _ _ r h => p8 h, rfl⟩) (FGCF_33 F) (.inl rfl)
theorem law3 (F : Nat) (x0 : (Int × (List (Int × Int)))) (h : w_FnExactFrontBound F x0 = some true) : Contract Try.prog 3 0 false [Enc.enc x0] (.bool true) := contract_plain ((FGCF_34 F).con 3 _ _ 0 false (p3 h) rfl) rfl rfl
end Go.Zq
