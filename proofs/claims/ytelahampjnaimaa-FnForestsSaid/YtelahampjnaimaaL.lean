/- FnForests holds: the program's answer is the reference's, for all arguments. No further condition. -/
import Derived.Test.YtelahampjnaimaaGT
import Derived.Test.YtelahampjnaimaaM4
import Derived.Test.YtelahampjnaimaaRows
set_option linter.unusedVariables false
set_option linter.unusedSimpArgs false
namespace Go.Proofs.Ytelahampjnaimaa
open Go Go.Zq Go.RowKit Go.ChangeShapes Go.WideShapes Go.ChangeAt
theorem fnForests_own:ownKnob Try.prog.godebug=none:=by kernel_rfl
theorem fnForests_laid:laidOutB Try.prog=true:=by kernel_rfl
theorem fnForests_op0:zd2 Try.prog 22 (List (Kd .u8)) (fun (x:(List (Kd .u8)))=>(x.length≤maxLen∧∀ z0∈x,(Lit.int .u8 z0.v).wf=true)):=(zfm Try.underlying22 (zkL Try.underlying5 (by kernel_rfl)) (by kernel_rfl) (by decide))
def fnForests_Pure:Prop:=∀ (x0:(List (Kd .u8))),(x0.length≤maxLen∧∀ z0∈x0,(Lit.int .u8 z0.v).wf=true)→∃ F,uZ F x0=some true
set_option maxRecDepth 100000 in
theorem fnForests_lifted (hp:fnForests_Pure) (os:Os) (started:os.Started) (H:Type) (enc:TypeId×Value→H) :
    ReturnsInHanded {} Try.checked os 3 .any (Rows.fnForestsSpec.pre6 enc Try.prog Try.f3 Rows.fnForestsRow.domain false) (Rows.fnForestsSpec.post enc Try.prog Try.f3 false true false false):=by
 refine zkD (C:=Try.checked) (tb:=4) fnForests_own started (by kernel_rfl) Try.func3
  (ChangeSpec.witness6 (enc:=enc) (C:=Try.checked) false ⟨#[],#[.slice none 0 0],[]⟩ 8 (by kernel_rfl) (by kernel_rfl) (by kernel_rfl) (by kernel_rfl)) rfl ?_ rfl Try.underlying4 fnForests_laid (by kernel_rfl) ?_
 · intro ds hd
   have hd:ds.length=1:=hd
   match ds,hd with
   | [d0],_=>exact ⟨rfl,rfl,rfl⟩
 · intro W args ds p base hval0 hA0
   have hval:∀ (j:Nat) t v,Try.f3.params[j]?=some t→args[j]?=some v→Value.okWide Try.prog W .any base t v:=hval0
   have hA:DataW.TrodAll enc Try.prog W 0 (fun _=>true) true Try.f3.params.toList args.toList ds p:=hA0
   rw [Try.params3] at hA hval
   obtain ⟨v0,vs0,d0,ds0,p0,q0,hargs,rfl,rfl,h0,r0⟩:=trodAll_cons hA
   obtain ⟨rfl,rfl,rfl⟩:=trodAll_nil r0
   obtain rfl:args=#[v0]:=by cases args;simp_all
   obtain ⟨x0,hx0,hr0⟩:=zmm fnForests_op0 (fun _=>rfl) (by kernel_rfl) (hval 0 22 v0 rfl rfl) h0
   obtain ⟨F,hF⟩:=hp x0 hx0
   exact ⟨_,(zhQ hr0 zkG),zxh F x0 hF⟩
theorem fnForests_over (hp:fnForests_Pure):Rows.fnForestsRow.holds Try.pinned (OpenSpec.ofChange Rows.fnForestsSpec):=
 OpenClaim.holds_of_wide 3 Try.f3 rfl rfl rfl rfl rfl rfl rfl ⟨rfl,rfl,rfl,rfl,rfl⟩ rfl rfl rfl rfl rfl (by kernel_rfl) Try.func3 (by kernel_rfl)
  (of_decide_eq_true (by kernel_rfl)) (by unfold Func.isWrapper;first | (rw [if_pos (by decide +kernel)];kernel_rfl) | (rw [if_neg (by decide +kernel)];exact ⟨rfl,rfl⟩))
  (fun os started H enc _=>fnForests_lifted hp os started H enc)
theorem fnForests_pure:fnForests_Pure:=fun code hc=>⟨2097152,zci (by omega) (fun y hy=>zpJ (hc.2 y hy))⟩
theorem fnForests_holds:Rows.FnForestsSaid:=fnForests_over fnForests_pure
#print axioms fnForests_holds
end Go.Proofs.Ytelahampjnaimaa
