/- FnExactTreedepthOf holds: the program's answer is the reference's, for all arguments. No further condition. -/
import Derived.Test.YthblbfcloccopaaGT
import Derived.Test.YthblbfcloccopaaM1
import Derived.Test.YthblbfcloccopaaRows
set_option linter.unusedVariables false
set_option linter.unusedSimpArgs false
namespace Go.Proofs.Ythblbfcloccopaa
open Go Go.Zq Go.RowKit Go.ChangeShapes Go.WideShapes Go.ChangeAt

theorem fnExactTreedepthOf_own : ownKnob Try.prog.godebug = none := by kernel_rfl
theorem fnExactTreedepthOf_laid : laidOutB Try.prog = true := by kernel_rfl

theorem fnExactTreedepthOf_op0 : Opens Try.prog 24 (Int × (List (Int × Int))) (fun (x : (Int × (List (Int × Int)))) => (okI x.1 ∧ (x.2.length ≤ maxLen ∧ ∀ z0 ∈ x.2, (okI z0.1 ∧ okI z0.2)))) := (opens_pair Try.underlying24 (opens_int Try.underlying3 (by kernel_rfl)) (opens_list Try.underlying22 (opens_arr2 Try.underlying86 (opens_int Try.underlying3 (by kernel_rfl)) (by kernel_rfl)) (by kernel_rfl) (by decide)) (by kernel_rfl) (by kernel_rfl) (by kernel_rfl))
def fnExactTreedepthOf_Pure : Prop := ∀ (x0 : (Int × (List (Int × Int)))), (okI x0.1 ∧ (x0.2.length ≤ maxLen ∧ ∀ z0 ∈ x0.2, (okI z0.1 ∧ okI z0.2))) → ∃ F, w_FnExactTreedepthOf F x0 = some true
set_option maxRecDepth 100000 in
theorem fnExactTreedepthOf_lifted (hp : fnExactTreedepthOf_Pure) (os : Os) (started : os.Started) (H : Type) (enc : TypeId × Value → H) :
    ReturnsInHanded {} Try.checked os 7 .any (Rows.fnExactTreedepthOfSpec.pre6 enc Try.prog Try.f7 Rows.fnExactTreedepthOfRow.domain false) (Rows.fnExactTreedepthOfSpec.post enc Try.prog Try.f7 false true false false) := by
  refine law_over (C := Try.checked) (tb := 4) fnExactTreedepthOf_own started (by kernel_rfl) Try.func7
    (ChangeSpec.witness6 (enc := enc) (C := Try.checked) false ⟨#[], #[(.agg #[.int .i64 0, .slice none 0 0])], []⟩ 8 (by kernel_rfl) (by kernel_rfl) (by kernel_rfl) (by kernel_rfl)) rfl ?_ rfl Try.underlying4 fnExactTreedepthOf_laid (by kernel_rfl) ?_
  · intro ds hd
    have hd : ds.length = 1 := hd
    match ds, hd with
    | [d0], _ => exact ⟨rfl, rfl, rfl⟩
  · intro W args ds p base hval0 hA0
    have hval : ∀ (j : Nat) t v, Try.f7.params[j]? = some t → args[j]? = some v → Value.okWide Try.prog W .any base t v := hval0
    have hA : DataW.TrodAll enc Try.prog W 0 (fun _ => true) true Try.f7.params.toList args.toList ds p := hA0
    rw [Try.params7] at hA hval
    obtain ⟨v0, vs0, d0, ds0, p0, q0, hargs, rfl, rfl, h0, r0⟩ := trodAll_cons hA
    obtain ⟨rfl, rfl, rfl⟩ := trodAll_nil r0
    obtain rfl : args = #[v0] := by cases args; simp_all
    obtain ⟨x0, hx0, hr0⟩ := arg_many fnExactTreedepthOf_op0 (fun _ => rfl) (by kernel_rfl) (hval 0 24 v0 rfl rfl) h0
    obtain ⟨F, hF⟩ := hp x0 hx0
    exact ⟨_, (args_cons hr0 args_nil), law7 F x0 hF⟩
theorem fnExactTreedepthOf_over (hp : fnExactTreedepthOf_Pure) : Rows.fnExactTreedepthOfRow.holds Try.pinned (OpenSpec.ofChange Rows.fnExactTreedepthOfSpec) :=
  OpenClaim.holds_of_wide 7 Try.f7 rfl rfl rfl rfl rfl rfl rfl ⟨rfl, rfl, rfl, rfl, rfl⟩ rfl rfl rfl rfl rfl (by kernel_rfl) Try.func7 (by kernel_rfl)
    (of_decide_eq_true (by kernel_rfl)) (by unfold Func.isWrapper; first | (rw [if_pos (by decide +kernel)]; kernel_rfl) | (rw [if_neg (by decide +kernel)]; exact ⟨rfl, rfl⟩))
    (fun os started H enc _ => fnExactTreedepthOf_lifted hp os started H enc)
theorem fnExactTreedepthOf_pure : fnExactTreedepthOf_Pure := fun g hg => ⟨2097152, lawTreedepthOf (by omega) (by have := hg.2.1; unfold maxLen at this; omega)⟩
theorem fnExactTreedepthOf_holds : Rows.FnExactTreedepthOfSaid := fnExactTreedepthOf_over fnExactTreedepthOf_pure
#print axioms fnExactTreedepthOf_holds
end Go.Proofs.Ythblbfcloccopaa
