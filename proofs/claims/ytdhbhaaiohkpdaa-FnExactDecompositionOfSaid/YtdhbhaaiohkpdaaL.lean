/- FnExactDecompositionOf holds: the program's answer is the reference's, for all arguments. No further condition. -/
import Derived.Test.YtdhbhaaiohkpdaaGT
import Derived.Test.YtdhbhaaiohkpdaaM4
import Derived.Test.YtdhbhaaiohkpdaaRows
set_option linter.unusedVariables false
set_option linter.unusedSimpArgs false
namespace Go.Proofs.Ytdhbhaaiohkpdaa
open Go Go.Zq Go.RowKit Go.ChangeShapes Go.WideShapes Go.ChangeAt

theorem fnExactDecompositionOf_own : ownKnob Try.prog.godebug = none := by kernel_rfl
theorem fnExactDecompositionOf_laid : laidOutB Try.prog = true := by kernel_rfl

theorem fnExactDecompositionOf_op0 : Opens Try.prog 24 (Int × (List (Int × Int))) (fun (x : (Int × (List (Int × Int)))) => (okI x.1 ∧ (x.2.length ≤ maxLen ∧ ∀ z0 ∈ x.2, (okI z0.1 ∧ okI z0.2)))) := (opens_pair Try.underlying24 (opens_int Try.underlying3 (by kernel_rfl)) (opens_list Try.underlying22 (opens_arr2 Try.underlying103 (opens_int Try.underlying3 (by kernel_rfl)) (by kernel_rfl)) (by kernel_rfl) (by decide)) (by kernel_rfl) (by kernel_rfl) (by kernel_rfl))
theorem fnExactDecompositionOf_op1 : Opens Try.prog 25 (List Int) (fun (x : (List Int)) => (x.length ≤ maxLen ∧ ∀ z0 ∈ x, okI z0)) := (opens_list Try.underlying25 (opens_int Try.underlying3 (by kernel_rfl)) (by kernel_rfl) (by decide))
def fnExactDecompositionOf_Pure : Prop := ∀ (x0 : (Int × (List (Int × Int)))) (x1 : (List Int)), (okI x0.1 ∧ (x0.2.length ≤ maxLen ∧ ∀ z0 ∈ x0.2, (okI z0.1 ∧ okI z0.2))) → (x1.length ≤ maxLen ∧ ∀ z0 ∈ x1, okI z0) → ∃ F, w_FnExactDecompositionOf F x0 x1 = some true
set_option maxRecDepth 100000 in
theorem fnExactDecompositionOf_lifted (hp : fnExactDecompositionOf_Pure) (os : Os) (started : os.Started) (H : Type) (enc : TypeId × Value → H) :
    ReturnsInHanded {} Try.checked os 10 .any (Rows.fnExactDecompositionOfSpec.pre6 enc Try.prog Try.f10 Rows.fnExactDecompositionOfRow.domain false) (Rows.fnExactDecompositionOfSpec.post enc Try.prog Try.f10 false true false false) := by
  refine law_over (C := Try.checked) (tb := 4) fnExactDecompositionOf_own started (by kernel_rfl) Try.func10
    (ChangeSpec.witness6 (enc := enc) (C := Try.checked) false ⟨#[], #[(.agg #[.int .i64 0, .slice none 0 0]), .slice none 0 0], []⟩ 8 (by kernel_rfl) (by kernel_rfl) (by kernel_rfl) (by kernel_rfl)) rfl ?_ rfl Try.underlying4 fnExactDecompositionOf_laid (by kernel_rfl) ?_
  · intro ds hd
    have hd : ds.length = 2 := hd
    match ds, hd with
    | [d0, d1], _ => exact ⟨rfl, rfl, rfl⟩
  · intro W args ds p base hval0 hA0
    have hval : ∀ (j : Nat) t v, Try.f10.params[j]? = some t → args[j]? = some v → Value.okWide Try.prog W .any base t v := hval0
    have hA : DataW.TrodAll enc Try.prog W 0 (fun _ => true) true Try.f10.params.toList args.toList ds p := hA0
    rw [Try.params10] at hA hval
    obtain ⟨v0, vs0, d0, ds0, p0, q0, hargs, rfl, rfl, h0, r0⟩ := trodAll_cons hA
    obtain ⟨v1, vs1, d1, ds1, p1, q1, rfl, rfl, rfl, h1, r1⟩ := trodAll_cons r0
    obtain ⟨rfl, rfl, rfl⟩ := trodAll_nil r1
    obtain rfl : args = #[v0, v1] := by cases args; simp_all
    obtain ⟨x0, hx0, hr0⟩ := arg_many fnExactDecompositionOf_op0 (fun _ => rfl) (by kernel_rfl) (hval 0 24 v0 rfl rfl) h0
    obtain ⟨x1, hx1, hr1⟩ := arg_one fnExactDecompositionOf_op1 (fun _ => rfl) (by kernel_rfl) (hval 1 25 v1 rfl rfl) h1
    obtain ⟨F, hF⟩ := hp x0 x1 hx0 hx1
    exact ⟨_, (args_cons hr0 (args_cons hr1 args_nil)), law10 F x0 x1 hF⟩
theorem fnExactDecompositionOf_over (hp : fnExactDecompositionOf_Pure) : Rows.fnExactDecompositionOfRow.holds Try.pinned (OpenSpec.ofChange Rows.fnExactDecompositionOfSpec) :=
  OpenClaim.holds_of_wide 10 Try.f10 rfl rfl rfl rfl rfl rfl rfl ⟨rfl, rfl, rfl, rfl, rfl⟩ rfl rfl rfl rfl rfl (by kernel_rfl) Try.func10 (by kernel_rfl)
    (of_decide_eq_true (by kernel_rfl)) (by unfold Func.isWrapper; first | (rw [if_pos (by decide +kernel)]; kernel_rfl) | (rw [if_neg (by decide +kernel)]; exact ⟨rfl, rfl⟩))
    (fun os started H enc _ => fnExactDecompositionOf_lifted hp os started H enc)
theorem fnExactDecompositionOf_pure : fnExactDecompositionOf_Pure := fun g l hg _ => ⟨2097152, lawDecompositionOf (by omega) (by have := hg.2.1; unfold maxLen at this; omega)⟩
theorem fnExactDecompositionOf_holds : Rows.FnExactDecompositionOfSaid := fnExactDecompositionOf_over fnExactDecompositionOf_pure
#print axioms fnExactDecompositionOf_holds
end Go.Proofs.Ytdhbhaaiohkpdaa
