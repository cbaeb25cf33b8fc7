/- FnExactSearchNumber holds: the program's answer is the reference's, for all arguments. No further condition. -/
import Derived.Test.YtdhbhaaiohkpdaaGT
import Derived.Test.YtdhbhaaiohkpdaaM3
import Derived.Test.YtdhbhaaiohkpdaaRows
set_option linter.unusedVariables false
set_option linter.unusedSimpArgs false
namespace Go.Proofs.Ytdhbhaaiohkpdaa
open Go Go.Zq Go.RowKit Go.ChangeShapes Go.WideShapes Go.ChangeAt

theorem fnExactSearchNumber_own : ownKnob Try.prog.godebug = none := by kernel_rfl
theorem fnExactSearchNumber_laid : laidOutB Try.prog = true := by kernel_rfl

theorem fnExactSearchNumber_op0 : Opens Try.prog 24 (Int × (List (Int × Int))) (fun (x : (Int × (List (Int × Int)))) => (okI x.1 ∧ (x.2.length ≤ maxLen ∧ ∀ z0 ∈ x.2, (okI z0.1 ∧ okI z0.2)))) := (opens_pair Try.underlying24 (opens_int Try.underlying3 (by kernel_rfl)) (opens_list Try.underlying22 (opens_arr2 Try.underlying103 (opens_int Try.underlying3 (by kernel_rfl)) (by kernel_rfl)) (by kernel_rfl) (by decide)) (by kernel_rfl) (by kernel_rfl) (by kernel_rfl))
def fnExactSearchNumber_Pure : Prop := ∀ (x0 : (Int × (List (Int × Int)))), (okI x0.1 ∧ (x0.2.length ≤ maxLen ∧ ∀ z0 ∈ x0.2, (okI z0.1 ∧ okI z0.2))) → ∃ F, w_FnExactSearchNumber F x0 = some true
set_option maxRecDepth 100000 in
theorem fnExactSearchNumber_lifted (hp : fnExactSearchNumber_Pure) (os : Os) (started : os.Started) (H : Type) (enc : TypeId × Value → H) :
    ReturnsInHanded {} Try.checked os 13 .any (Rows.fnExactSearchNumberSpec.pre6 enc Try.prog Try.f13 Rows.fnExactSearchNumberRow.domain false) (Rows.fnExactSearchNumberSpec.post enc Try.prog Try.f13 false true false false) := by
  refine law_over (C := Try.checked) (tb := 4) fnExactSearchNumber_own started (by kernel_rfl) Try.func13
    (ChangeSpec.witness6 (enc := enc) (C := Try.checked) false ⟨#[], #[(.agg #[.int .i64 0, .slice none 0 0])], []⟩ 8 (by kernel_rfl) (by kernel_rfl) (by kernel_rfl) (by kernel_rfl)) rfl ?_ rfl Try.underlying4 fnExactSearchNumber_laid (by kernel_rfl) ?_
  · intro ds hd
    have hd : ds.length = 1 := hd
    match ds, hd with
    | [d0], _ => exact ⟨rfl, rfl, rfl⟩
  · intro W args ds p base hval0 hA0
    have hval : ∀ (j : Nat) t v, Try.f13.params[j]? = some t → args[j]? = some v → Value.okWide Try.prog W .any base t v := hval0
    have hA : DataW.TrodAll enc Try.prog W 0 (fun _ => true) true Try.f13.params.toList args.toList ds p := hA0
    rw [Try.params13] at hA hval
    obtain ⟨v0, vs0, d0, ds0, p0, q0, hargs, rfl, rfl, h0, r0⟩ := trodAll_cons hA
    obtain ⟨rfl, rfl, rfl⟩ := trodAll_nil r0
    obtain rfl : args = #[v0] := by cases args; simp_all
    obtain ⟨x0, hx0, hr0⟩ := arg_many fnExactSearchNumber_op0 (fun _ => rfl) (by kernel_rfl) (hval 0 24 v0 rfl rfl) h0
    obtain ⟨F, hF⟩ := hp x0 hx0
    exact ⟨_, (args_cons hr0 args_nil), law13 F x0 hF⟩
theorem fnExactSearchNumber_over (hp : fnExactSearchNumber_Pure) : Rows.fnExactSearchNumberRow.holds Try.pinned (OpenSpec.ofChange Rows.fnExactSearchNumberSpec) :=
  OpenClaim.holds_of_wide 13 Try.f13 rfl rfl rfl rfl rfl rfl rfl ⟨rfl, rfl, rfl, rfl, rfl⟩ rfl rfl rfl rfl rfl (by kernel_rfl) Try.func13 (by kernel_rfl)
    (of_decide_eq_true (by kernel_rfl)) (by unfold Func.isWrapper; first | (rw [if_pos (by decide +kernel)]; kernel_rfl) | (rw [if_neg (by decide +kernel)]; exact ⟨rfl, rfl⟩))
    (fun os started H enc _ => fnExactSearchNumber_lifted hp os started H enc)
theorem fnExactSearchNumber_pure : fnExactSearchNumber_Pure := fun g hg => ⟨2097152, lawSearchNumber (by omega) (by have := hg.2.1; unfold maxLen at this; omega)⟩
theorem fnExactSearchNumber_holds : Rows.FnExactSearchNumberSaid := fnExactSearchNumber_over fnExactSearchNumber_pure
#print axioms fnExactSearchNumber_holds
end Go.Proofs.Ytdhbhaaiohkpdaa
