/- FnExactRankingOf holds: the program's answer is the reference's, for all arguments. No further condition. -/
import Derived.Test.YtdhbhaaiohkpdaaGT
import Derived.Test.YtdhbhaaiohkpdaaM3
import Derived.Test.YtdhbhaaiohkpdaaRows
set_option linter.unusedVariables false
set_option linter.unusedSimpArgs false
namespace Go.Proofs.Ytdhbhaaiohkpdaa
open Go Go.Zq Go.RowKit Go.ChangeShapes Go.WideShapes Go.ChangeAt

theorem fnExactRankingOf_own : ownKnob Try.prog.godebug = none := by kernel_rfl
theorem fnExactRankingOf_laid : laidOutB Try.prog = true := by kernel_rfl

theorem fnExactRankingOf_op0 : Opens Try.prog 24 (Int × (List (Int × Int))) (fun (x : (Int × (List (Int × Int)))) => (okI x.1 ∧ (x.2.length ≤ maxLen ∧ ∀ z0 ∈ x.2, (okI z0.1 ∧ okI z0.2)))) := (opens_pair Try.underlying24 (opens_int Try.underlying3 (by kernel_rfl)) (opens_list Try.underlying22 (opens_arr2 Try.underlying103 (opens_int Try.underlying3 (by kernel_rfl)) (by kernel_rfl)) (by kernel_rfl) (by decide)) (by kernel_rfl) (by kernel_rfl) (by kernel_rfl))
def fnExactRankingOf_Pure : Prop := ∀ (x0 : (Int × (List (Int × Int)))), (okI x0.1 ∧ (x0.2.length ≤ maxLen ∧ ∀ z0 ∈ x0.2, (okI z0.1 ∧ okI z0.2))) → ∃ F, w_FnExactRankingOf F x0 = some true
set_option maxRecDepth 100000 in
theorem fnExactRankingOf_lifted (hp : fnExactRankingOf_Pure) (os : Os) (started : os.Started) (H : Type) (enc : TypeId × Value → H) :
    ReturnsInHanded {} Try.checked os 5 .any (Rows.fnExactRankingOfSpec.pre6 enc Try.prog Try.f5 Rows.fnExactRankingOfRow.domain false) (Rows.fnExactRankingOfSpec.post enc Try.prog Try.f5 false true false false) := by
  refine law_over (C := Try.checked) (tb := 4) fnExactRankingOf_own started (by kernel_rfl) Try.func5
    (ChangeSpec.witness6 (enc := enc) (C := Try.checked) false ⟨#[], #[(.agg #[.int .i64 0, .slice none 0 0])], []⟩ 8 (by kernel_rfl) (by kernel_rfl) (by kernel_rfl) (by kernel_rfl)) rfl ?_ rfl Try.underlying4 fnExactRankingOf_laid (by kernel_rfl) ?_
  · intro ds hd
    have hd : ds.length = 1 := hd
    match ds, hd with
    | [d0], _ => exact ⟨rfl, rfl, rfl⟩
  · intro W args ds p base hval0 hA0
    have hval : ∀ (j : Nat) t v, Try.f5.params[j]? = some t → args[j]? = some v → Value.okWide Try.prog W .any base t v := hval0
    have hA : DataW.TrodAll enc Try.prog W 0 (fun _ => true) true Try.f5.params.toList args.toList ds p := hA0
    rw [Try.params5] at hA hval
    obtain ⟨v0, vs0, d0, ds0, p0, q0, hargs, rfl, rfl, h0, r0⟩ := trodAll_cons hA
    obtain ⟨rfl, rfl, rfl⟩ := trodAll_nil r0
    obtain rfl : args = #[v0] := by cases args; simp_all
    obtain ⟨x0, hx0, hr0⟩ := arg_many fnExactRankingOf_op0 (fun _ => rfl) (by kernel_rfl) (hval 0 24 v0 rfl rfl) h0
    obtain ⟨F, hF⟩ := hp x0 hx0
    exact ⟨_, (args_cons hr0 args_nil), law5 F x0 hF⟩
theorem fnExactRankingOf_over (hp : fnExactRankingOf_Pure) : Rows.fnExactRankingOfRow.holds Try.pinned (OpenSpec.ofChange Rows.fnExactRankingOfSpec) :=
  OpenClaim.holds_of_wide 5 Try.f5 rfl rfl rfl rfl rfl rfl rfl ⟨rfl, rfl, rfl, rfl, rfl⟩ rfl rfl rfl rfl rfl (by kernel_rfl) Try.func5 (by kernel_rfl)
    (of_decide_eq_true (by kernel_rfl)) (by unfold Func.isWrapper; first | (rw [if_pos (by decide +kernel)]; kernel_rfl) | (rw [if_neg (by decide +kernel)]; exact ⟨rfl, rfl⟩))
    (fun os started H enc _ => fnExactRankingOf_lifted hp os started H enc)
theorem fnExactRankingOf_pure : fnExactRankingOf_Pure := fun g hg => ⟨2097152, lawRankingOf (by omega) (by have := hg.2.1; unfold maxLen at this; omega)⟩
theorem fnExactRankingOf_holds : Rows.FnExactRankingOfSaid := fnExactRankingOf_over fnExactRankingOf_pure
#print axioms fnExactRankingOf_holds
end Go.Proofs.Ytdhbhaaiohkpdaa
