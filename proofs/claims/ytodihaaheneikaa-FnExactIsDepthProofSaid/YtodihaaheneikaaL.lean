/- FnExactIsDepthProof holds: the program's answer is the reference's, for all arguments. No further condition. -/
import Derived.Test.YtodihaaheneikaaGT
import Derived.Test.YtodihaaheneikaaM2
import Derived.Test.YtodihaaheneikaaRows
set_option linter.unusedVariables false
set_option linter.unusedSimpArgs false
namespace Go.Proofs.Ytodihaaheneikaa
open Go Go.Zq Go.RowKit Go.ChangeShapes Go.WideShapes Go.ChangeAt

theorem fnExactIsDepthProof_own : ownKnob Try.prog.godebug = none := by kernel_rfl
theorem fnExactIsDepthProof_laid : laidOutB Try.prog = true := by kernel_rfl

theorem fnExactIsDepthProof_op0 : Opens Try.prog 24 (Int × (List (Int × Int))) (fun (x : (Int × (List (Int × Int)))) => (okI x.1 ∧ (x.2.length ≤ maxLen ∧ ∀ z0 ∈ x.2, (okI z0.1 ∧ okI z0.2)))) := (opens_pair Try.underlying24 (opens_int Try.underlying3 (by kernel_rfl)) (opens_list Try.underlying22 (opens_arr2 Try.underlying98 (opens_int Try.underlying3 (by kernel_rfl)) (by kernel_rfl)) (by kernel_rfl) (by decide)) (by kernel_rfl) (by kernel_rfl) (by kernel_rfl))
theorem fnExactIsDepthProof_op1 : Opens Try.prog 52 (List (S3 (List Int) Int (List Int))) (fun (x : (List (S3 (List Int) Int (List Int)))) => (x.length ≤ maxLen ∧ ∀ z0 ∈ x, ((z0.a.length ≤ maxLen ∧ ∀ z1 ∈ z0.a, okI z1) ∧ okI z0.b ∧ (z0.c.length ≤ maxLen ∧ ∀ z1 ∈ z0.c, okI z1)))) := (opens_list Try.underlying52 (opens_s3 Try.underlying84 (opens_list Try.underlying25 (opens_int Try.underlying3 (by kernel_rfl)) (by kernel_rfl) (by decide)) (opens_int Try.underlying3 (by kernel_rfl)) (opens_list Try.underlying25 (opens_int Try.underlying3 (by kernel_rfl)) (by kernel_rfl) (by decide)) (by kernel_rfl) (by kernel_rfl) (by kernel_rfl) (by kernel_rfl)) (by kernel_rfl) (by decide))
def fnExactIsDepthProof_Pure : Prop := ∀ (x0 : (Int × (List (Int × Int)))) (x1 : (List (S3 (List Int) Int (List Int)))), (okI x0.1 ∧ (x0.2.length ≤ maxLen ∧ ∀ z0 ∈ x0.2, (okI z0.1 ∧ okI z0.2))) → (x1.length ≤ maxLen ∧ ∀ z0 ∈ x1, ((z0.a.length ≤ maxLen ∧ ∀ z1 ∈ z0.a, okI z1) ∧ okI z0.b ∧ (z0.c.length ≤ maxLen ∧ ∀ z1 ∈ z0.c, okI z1))) → ∃ F, w_FnExactIsDepthProof F x0 x1 = some true
set_option maxRecDepth 100000 in
theorem fnExactIsDepthProof_lifted (hp : fnExactIsDepthProof_Pure) (os : Os) (started : os.Started) (H : Type) (enc : TypeId × Value → H) :
    ReturnsInHanded {} Try.checked os 9 .any (Rows.fnExactIsDepthProofSpec.pre6 enc Try.prog Try.f9 Rows.fnExactIsDepthProofRow.domain false) (Rows.fnExactIsDepthProofSpec.post enc Try.prog Try.f9 false true false false) := by
  refine law_over (C := Try.checked) (tb := 4) fnExactIsDepthProof_own started (by kernel_rfl) Try.func9
    (ChangeSpec.witness6 (enc := enc) (C := Try.checked) false ⟨#[], #[(.agg #[.int .i64 0, .slice none 0 0]), .slice none 0 0], []⟩ 8 (by kernel_rfl) (by kernel_rfl) (by kernel_rfl) (by kernel_rfl)) rfl ?_ rfl Try.underlying4 fnExactIsDepthProof_laid (by kernel_rfl) ?_
  · intro ds hd
    have hd : ds.length = 2 := hd
    match ds, hd with
    | [d0, d1], _ => exact ⟨rfl, rfl, rfl⟩
  · intro W args ds p base hval0 hA0
    have hval : ∀ (j : Nat) t v, Try.f9.params[j]? = some t → args[j]? = some v → Value.okWide Try.prog W .any base t v := hval0
    have hA : DataW.TrodAll enc Try.prog W 0 (fun _ => true) true Try.f9.params.toList args.toList ds p := hA0
    rw [Try.params9] at hA hval
    obtain ⟨v0, vs0, d0, ds0, p0, q0, hargs, rfl, rfl, h0, r0⟩ := trodAll_cons hA
    obtain ⟨v1, vs1, d1, ds1, p1, q1, rfl, rfl, rfl, h1, r1⟩ := trodAll_cons r0
    obtain ⟨rfl, rfl, rfl⟩ := trodAll_nil r1
    obtain rfl : args = #[v0, v1] := by cases args; simp_all
    obtain ⟨x0, hx0, hr0⟩ := arg_many fnExactIsDepthProof_op0 (fun _ => rfl) (by kernel_rfl) (hval 0 24 v0 rfl rfl) h0
    obtain ⟨x1, hx1, hr1⟩ := arg_one fnExactIsDepthProof_op1 (fun _ => rfl) (by kernel_rfl) (hval 1 52 v1 rfl rfl) h1
    obtain ⟨F, hF⟩ := hp x0 x1 hx0 hx1
    exact ⟨_, (args_cons hr0 (args_cons hr1 args_nil)), law9 F x0 x1 hF⟩
theorem fnExactIsDepthProof_over (hp : fnExactIsDepthProof_Pure) : Rows.fnExactIsDepthProofRow.holds Try.pinned (OpenSpec.ofChange Rows.fnExactIsDepthProofSpec) :=
  OpenClaim.holds_of_wide 9 Try.f9 rfl rfl rfl rfl rfl rfl rfl ⟨rfl, rfl, rfl, rfl, rfl⟩ rfl rfl rfl rfl rfl (by kernel_rfl) Try.func9 (by kernel_rfl)
    (of_decide_eq_true (by kernel_rfl)) (by unfold Func.isWrapper; first | (rw [if_pos (by decide +kernel)]; kernel_rfl) | (rw [if_neg (by decide +kernel)]; exact ⟨rfl, rfl⟩))
    (fun os started H enc _ => fnExactIsDepthProof_lifted hp os started H enc)
theorem fnExactIsDepthProof_pure : fnExactIsDepthProof_Pure := fun g b hg hb => ⟨2097152, lawIsDepthProof (by omega) (by have := hg.2.1; unfold maxLen at this; omega) (by have := hb.1; unfold maxLen at this; omega) (fun x hx => by have h1 := (hb.2 x hx).1.1; have h2 := (hb.2 x hx).2.2.1; unfold maxLen at h1 h2; omega) (fun x hx => (hb.2 x hx).2.1)⟩
theorem fnExactIsDepthProof_holds : Rows.FnExactIsDepthProofSaid := fnExactIsDepthProof_over fnExactIsDepthProof_pure
#print axioms fnExactIsDepthProof_holds
end Go.Proofs.Ytodihaaheneikaa
