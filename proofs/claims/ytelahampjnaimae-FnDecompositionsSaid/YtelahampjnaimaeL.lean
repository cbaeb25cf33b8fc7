/- FnDecompositions holds: the program's answer is the reference's, for all arguments. No further condition. -/
import Derived.Test.YtelahampjnaimaeGT
import Derived.Test.YtelahampjnaimaeM5
import Derived.Test.YtelahampjnaimaeRows
set_option linter.unusedVariables false
set_option linter.unusedSimpArgs false
namespace Go.Proofs.Ytelahampjnaimae
open Go Go.Zq Go.RowKit Go.ChangeShapes Go.WideShapes Go.ChangeAt
theorem fnDecompositions_own:ownKnob Try.prog.godebug=none:=by kernel_rfl
theorem fnDecompositions_laid:laidOutB Try.prog=true:=by kernel_rfl
theorem fnDecompositions_op0:zcj Try.prog 22 (List (Kd .u8)) (fun (x:(List (Kd .u8)))=>(x.length≤maxLen∧∀ z0∈x,(Lit.int .u8 z0.v).wf=true)):=(zd7 Try.underlying22 (zh7 Try.underlying5 (by kernel_rfl)) (by kernel_rfl) (by decide))
def fnDecompositions_Pure:Prop:=∀ (x0:(List (Kd .u8))),(x0.length≤maxLen∧∀ z0∈x0,(Lit.int .u8 z0.v).wf=true)→∃ F,wj F x0=some true
set_option maxRecDepth 100000 in
theorem fnDecompositions_lifted (hp:fnDecompositions_Pure) (os:Os) (started:os.Started) (H:Type) (enc:TypeId×Value→H) :
    ReturnsInHanded {} Try.checked os 3 .any (Rows.fnDecompositionsSpec.pre6 enc Try.prog Try.f3 Rows.fnDecompositionsRow.domain false) (Rows.fnDecompositionsSpec.post enc Try.prog Try.f3 false true false false):=by
 refine zjJ (C:=Try.checked) (tb:=4) fnDecompositions_own started (by kernel_rfl) Try.func3
  (ChangeSpec.witness6 (enc:=enc) (C:=Try.checked) false ⟨#[],#[.slice none 0 0],[]⟩ 8 (by kernel_rfl) (by kernel_rfl) (by kernel_rfl) (by kernel_rfl)) rfl ?_ rfl Try.underlying4 fnDecompositions_laid (by kernel_rfl) ?_
 · intro ds hd
   have hd:ds.length=1:=hd
   match ds,hd with
   | [d0],_=>exact ⟨rfl,rfl,rfl⟩
 · intro W args ds p base hval0 hA0
   have hval:∀ (j:Nat) t v,Try.f3.params[j]?=some t→args[j]?=some v→Value.okWide Try.prog W .any base t v:=hval0
   have hA:DataW.TrodAll enc Try.prog W 0 (fun _=>true) true Try.f3.params.toList args.toList ds p:=hA0
   rw [Try.params3] at hA hval
   obtain ⟨v0,vs0,d0,ds0,p0,q0,hargs,rfl,rfl,h0,r0⟩:=trodAll_cons hA
   obtain ⟨rfl,rfl,rfl⟩:=trodAll_nil r0
   obtain rfl:args=#[v0]:=by cases args;simp_all
   obtain ⟨x0,hx0,hr0⟩:=zkC fnDecompositions_op0 (fun _=>rfl) (by kernel_rfl) (hval 0 22 v0 rfl rfl) h0
   obtain ⟨F,hF⟩:=hp x0 hx0
   exact ⟨_,(zgj hr0 zhm),zwi F x0 hF⟩
theorem fnDecompositions_over (hp:fnDecompositions_Pure):Rows.fnDecompositionsRow.holds Try.pinned (OpenSpec.ofChange Rows.fnDecompositionsSpec):=
 OpenClaim.holds_of_wide 3 Try.f3 rfl rfl rfl rfl rfl rfl rfl ⟨rfl,rfl,rfl,rfl,rfl⟩ rfl rfl rfl rfl rfl (by kernel_rfl) Try.func3 (by kernel_rfl)
  (of_decide_eq_true (by kernel_rfl)) (by unfold Func.isWrapper;first | (rw [if_pos (by decide +kernel)];kernel_rfl) | (rw [zy (by decide +kernel)];exact ⟨rfl,rfl⟩))
  (fun os started H enc _=>fnDecompositions_lifted hp os started H enc)
theorem fnDecompositions_pure:fnDecompositions_Pure:=fun code hc=>⟨2097152,KE (by omega) (fun y hy=>zm2 (hc.2 y hy))⟩
theorem fnDecompositions_holds:Rows.FnDecompositionsSaid:=fnDecompositions_over fnDecompositions_pure
#print axioms fnDecompositions_holds
end Go.Proofs.Ytelahampjnaimae
