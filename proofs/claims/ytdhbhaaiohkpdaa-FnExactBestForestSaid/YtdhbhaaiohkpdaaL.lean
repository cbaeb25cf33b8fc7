/- FnExactBestForest holds: the program's answer is the reference's, for all arguments. No further condition. -/
import Derived.Test.YtdhbhaaiohkpdaaGT
import Derived.Test.YtdhbhaaiohkpdaaM3
import Derived.Test.YtdhbhaaiohkpdaaRows
set_option linter.unusedVariables false
set_option linter.unusedSimpArgs false
namespace Go.Proofs.Ytdhbhaaiohkpdaa
open Go Go.Zq Go.RowKit Go.ChangeShapes Go.WideShapes Go.ChangeAt

theorem fnExactBestForest_own : ownKnob Try.prog.godebug = none := by kernel_rfl
theorem fnExactBestForest_laid : laidOutB Try.prog = true := by kernel_rfl

theorem fnExactBestForest_op0 : Opens Try.prog 24 (Int × (List (Int × Int))) (fun (x : (Int × (List (Int × Int)))) => (okI x.1 ∧ (x.2.length ≤ maxLen ∧ ∀ z0 ∈ x.2, (okI z0.1 ∧ okI z0.2)))) := (opens_pair Try.underlying24 (opens_int Try.underlying3 (by kernel_rfl)) (opens_list Try.underlying22 (opens_arr2 Try.underlying103 (opens_int Try.underlying3 (by kernel_rfl)) (by kernel_rfl)) (by kernel_rfl) (by decide)) (by kernel_rfl) (by kernel_rfl) (by kernel_rfl))
def fnExactBestForest_Pure : Prop := ∀ (x0 : (Int × (List (Int × Int)))), (okI x0.1 ∧ (x0.2.length ≤ maxLen ∧ ∀ z0 ∈ x0.2, (okI z0.1 ∧ okI z0.2))) → ∃ F, w_FnExactBestForest F x0 = some true
set_option maxRecDepth 100000 in
theorem fnExactBestForest_lifted (hp : fnExactBestForest_Pure) (os : Os) (started : os.Started) (H : Type) (enc : TypeId × Value → H) :
    ReturnsInHanded {} Try.checked os 6 .any (Rows.fnExactBestForestSpec.pre6 enc Try.prog Try.f6 Rows.fnExactBestForestRow.domain false) (Rows.fnExactBestForestSpec.post enc Try.prog Try.f6 false true false false) := by
  refine law_over (C := Try.checked) (tb := 4) fnExactBestForest_own started (by kernel_rfl) Try.func6
    (ChangeSpec.witness6 (enc := enc) (C := Try.checked) false ⟨#[], #[(.agg #[.int .i64 0, .slice none 0 0])], []⟩ 8 (by kernel_rfl) (by kernel_rfl) (by kernel_rfl) (by kernel_rfl)) rfl ?_ rfl Try.underlying4 fnExactBestForest_laid (by kernel_rfl) ?_
  · intro ds hd
    have hd : ds.length = 1 := hd
    match ds, hd with
    | [d0], _ => exact ⟨rfl, rfl, rfl⟩
  · intro W args ds p base hval0 hA0
    have hval : ∀ (j : Nat) t v, Try.f6.params[j]? = some t → args[j]? = some v → Value.okWide Try.prog W .any base t v := hval0
    have hA : DataW.TrodAll enc Try.prog W 0 (fun _ => true) true Try.f6.params.toList args.toList ds p := hA0
    rw [Try.params6] at hA hval
    obtain ⟨v0, vs0, d0, ds0, p0, q0, hargs, rfl, rfl, h0, r0⟩ := trodAll_cons hA
    obtain ⟨rfl, rfl, rfl⟩ := trodAll_nil r0
    obtain rfl : args = #[v0] := by cases args; simp_all
    obtain ⟨x0, hx0, hr0⟩ := arg_many fnExactBestForest_op0 (fun _ => rfl) (by kernel_rfl) (hval 0 24 v0 rfl rfl) h0
    obtain ⟨F, hF⟩ := hp x0 hx0
    exact ⟨_, (args_cons hr0 args_nil), law6 F x0 hF⟩
theorem fnExactBestForest_over (hp : fnExactBestForest_Pure) : Rows.fnExactBestForestRow.holds Try.pinned (OpenSpec.ofChange Rows.fnExactBestForestSpec) :=
  OpenClaim.holds_of_wide 6 Try.f6 rfl rfl rfl rfl rfl rfl rfl ⟨rfl, rfl, rfl, rfl, rfl⟩ rfl rfl rfl rfl rfl (by kernel_rfl) Try.func6 (by kernel_rfl)
    (of_decide_eq_true (by kernel_rfl)) (by unfold Func.isWrapper; first | (rw [if_pos (by decide +kernel)]; kernel_rfl) | (rw [if_neg (by decide +kernel)]; exact ⟨rfl, rfl⟩))
    (fun os started H enc _ => fnExactBestForest_lifted hp os started H enc)
theorem fnExactBestForest_pure : fnExactBestForest_Pure := fun g hg => ⟨2097152, lawBestForest (by omega) (by have := hg.2.1; unfold maxLen at this; omega)⟩
theorem fnExactBestForest_holds : Rows.FnExactBestForestSaid := fnExactBestForest_over fnExactBestForest_pure
#print axioms fnExactBestForest_holds
end Go.Proofs.Ytdhbhaaiohkpdaa
