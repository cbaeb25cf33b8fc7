/- FnExactIsStopping holds: the program's answer is the reference's, for all arguments. No further condition. -/
import Derived.Test.YthblbfcloccopaaGT
import Derived.Test.YthblbfcloccopaaM2
import Derived.Test.YthblbfcloccopaaRows
set_option linter.unusedVariables false
set_option linter.unusedSimpArgs false
namespace Go.Proofs.Ythblbfcloccopaa
open Go Go.Zq Go.RowKit Go.ChangeShapes Go.WideShapes Go.ChangeAt

theorem fnExactIsStopping_own : ownKnob Try.prog.godebug = none := by kernel_rfl
theorem fnExactIsStopping_laid : laidOutB Try.prog = true := by kernel_rfl

theorem fnExactIsStopping_op0 : Opens Try.prog 24 (Int × (List (Int × Int))) (fun (x : (Int × (List (Int × Int)))) => (okI x.1 ∧ (x.2.length ≤ maxLen ∧ ∀ z0 ∈ x.2, (okI z0.1 ∧ okI z0.2)))) := (opens_pair Try.underlying24 (opens_int Try.underlying3 (by kernel_rfl)) (opens_list Try.underlying22 (opens_arr2 Try.underlying86 (opens_int Try.underlying3 (by kernel_rfl)) (by kernel_rfl)) (by kernel_rfl) (by decide)) (by kernel_rfl) (by kernel_rfl) (by kernel_rfl))
theorem fnExactIsStopping_op1 : Opens Try.prog 25 (List Int) (fun (x : (List Int)) => (x.length ≤ maxLen ∧ ∀ z0 ∈ x, okI z0)) := (opens_list Try.underlying25 (opens_int Try.underlying3 (by kernel_rfl)) (by kernel_rfl) (by decide))
theorem fnExactIsStopping_op2 : Opens Try.prog 3 Int (fun (x : Int) => okI x) := (opens_int Try.underlying3 (by kernel_rfl))
def fnExactIsStopping_Pure : Prop := ∀ (x0 : (Int × (List (Int × Int)))) (x1 : (List Int)) (x2 : Int), (okI x0.1 ∧ (x0.2.length ≤ maxLen ∧ ∀ z0 ∈ x0.2, (okI z0.1 ∧ okI z0.2))) → (x1.length ≤ maxLen ∧ ∀ z0 ∈ x1, okI z0) → okI x2 → ∃ F, w_FnExactIsStopping F x0 x1 x2 = some true
set_option maxRecDepth 100000 in
theorem fnExactIsStopping_lifted (hp : fnExactIsStopping_Pure) (os : Os) (started : os.Started) (H : Type) (enc : TypeId × Value → H) :
    ReturnsInHanded {} Try.checked os 11 .any (Rows.fnExactIsStoppingSpec.pre6 enc Try.prog Try.f11 Rows.fnExactIsStoppingRow.domain false) (Rows.fnExactIsStoppingSpec.post enc Try.prog Try.f11 false true false false) := by
  refine law_over (C := Try.checked) (tb := 4) fnExactIsStopping_own started (by kernel_rfl) Try.func11
    (ChangeSpec.witness6 (enc := enc) (C := Try.checked) false ⟨#[], #[(.agg #[.int .i64 0, .slice none 0 0]), .slice none 0 0, .int .i64 0], []⟩ 8 (by kernel_rfl) (by kernel_rfl) (by kernel_rfl) (by kernel_rfl)) rfl ?_ rfl Try.underlying4 fnExactIsStopping_laid (by kernel_rfl) ?_
  · intro ds hd
    have hd : ds.length = 3 := hd
    match ds, hd with
    | [d0, d1, d2], _ => exact ⟨rfl, rfl, rfl⟩
  · intro W args ds p base hval0 hA0
    have hval : ∀ (j : Nat) t v, Try.f11.params[j]? = some t → args[j]? = some v → Value.okWide Try.prog W .any base t v := hval0
    have hA : DataW.TrodAll enc Try.prog W 0 (fun _ => true) true Try.f11.params.toList args.toList ds p := hA0
    rw [Try.params11] at hA hval
    obtain ⟨v0, vs0, d0, ds0, p0, q0, hargs, rfl, rfl, h0, r0⟩ := trodAll_cons hA
    obtain ⟨v1, vs1, d1, ds1, p1, q1, rfl, rfl, rfl, h1, r1⟩ := trodAll_cons r0
    obtain ⟨v2, vs2, d2, ds2, p2, q2, rfl, rfl, rfl, h2, r2⟩ := trodAll_cons r1
    obtain ⟨rfl, rfl, rfl⟩ := trodAll_nil r2
    obtain rfl : args = #[v0, v1, v2] := by cases args; simp_all
    obtain ⟨x0, hx0, hr0⟩ := arg_many fnExactIsStopping_op0 (fun _ => rfl) (by kernel_rfl) (hval 0 24 v0 rfl rfl) h0
    obtain ⟨x1, hx1, hr1⟩ := arg_one fnExactIsStopping_op1 (fun _ => rfl) (by kernel_rfl) (hval 1 25 v1 rfl rfl) h1
    obtain ⟨x2, hx2, hr2⟩ := arg_one fnExactIsStopping_op2 (fun _ => rfl) (by kernel_rfl) (hval 2 3 v2 rfl rfl) h2
    obtain ⟨F, hF⟩ := hp x0 x1 x2 hx0 hx1 hx2
    exact ⟨_, (args_cons hr0 (args_cons hr1 (args_cons hr2 args_nil))), law11 F x0 x1 x2 hF⟩
theorem fnExactIsStopping_over (hp : fnExactIsStopping_Pure) : Rows.fnExactIsStoppingRow.holds Try.pinned (OpenSpec.ofChange Rows.fnExactIsStoppingSpec) :=
  OpenClaim.holds_of_wide 11 Try.f11 rfl rfl rfl rfl rfl rfl rfl ⟨rfl, rfl, rfl, rfl, rfl⟩ rfl rfl rfl rfl rfl (by kernel_rfl) Try.func11 (by kernel_rfl)
    (of_decide_eq_true (by kernel_rfl)) (by unfold Func.isWrapper; first | (rw [if_pos (by decide +kernel)]; kernel_rfl) | (rw [if_neg (by decide +kernel)]; exact ⟨rfl, rfl⟩))
    (fun os started H enc _ => fnExactIsStopping_lifted hp os started H enc)
theorem fnExactIsStopping_pure : fnExactIsStopping_Pure := fun g l k hg _ _ => ⟨2097152, lawIsStopping (by omega) (by have := hg.2.1; unfold maxLen at this; omega)⟩
theorem fnExactIsStopping_holds : Rows.FnExactIsStoppingSaid := fnExactIsStopping_over fnExactIsStopping_pure
#print axioms fnExactIsStopping_holds
end Go.Proofs.Ythblbfcloccopaa
