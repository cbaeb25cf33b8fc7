/-
  No cell of these rows narrows 'for every input' (looked for: loops, veiled, ifaces, maps, wideKeys, modest, calm, conditions, laid).
  DERIVED. THE GIVEN ROWS OF THIS SEAT. 6 by the template 'for every input the law returns true; each argument reads behind the call as it read before'; 0 by the template 'total and deterministic' (their statements: YtikifjdbaggajaaTotals.lean).
  GIVEN WITH THE SEED: the statements are not yours to turn. If you find one false, say at which input.
  Laid BY PROGRAM, IN A SANDBOX (cutbox-rows.mjs): the forced cells as the released guide's own fill.sh prints them over the translation 0d75b6fb4a8caf7e… (all of the seat's roots in one cut). By AI agents, Wed Nov 11 2026. No macro, syntax, notation, axiom, sorry.
-/
import Derived.Test.YtikifjdbaggajaaChecked
import GoSem.Claim
import GoSem.ClaimJoined
import GoSem.ClaimMapViews
import Derived.JoinedTies
import Derived.KernelRfl
namespace Go.Proofs.Ytikifjdbaggajaa
/- THE CELL 'sum', in the pinned program and in every row, IS THE sha256 OF THE DUMP (.gsa) THAT YtikifjdbaggajaaProg.lean LOADS. Nothing in Lean hashes anything: it is a label: what it is worth is what the hold of that sum in a sandbox is worth. -/
noncomputable def Try.pinned : Pinned := { name := "ytikifjdbaggajaa", sum := "0d75b6fb4a8caf7ec62f1dace191b807e67e9c3fe6361939656d880403739c0b", checked := Try.checked }
namespace Rows
def none {H : Type} : Left H := { results := [], args := [] }

/-- 'laws.FnExactIsLayout': WHATEVER THE INPUT: true; the input reads as it did. -/
def fnExactIsLayoutSpec : ChangeSpec := { name := "fnExactIsLayout", fn := fun _ => fun
  | [d1, d2] => { results := [.lit (.bool true)], args := [d1, d2] }
  | _ => none }
def fnExactIsLayoutRow : OpenClaim := { program := "ytikifjdbaggajaa", sum := "0d75b6fb4a8caf7ec62f1dace191b807e67e9c3fe6361939656d880403739c0b", func := "loop.example/g01109/laws.FnExactIsLayout", spec := "fnExactIsLayout", apart := false }
def FnExactIsLayoutSaid : Prop := fnExactIsLayoutRow.holds Try.pinned (OpenSpec.ofChange fnExactIsLayoutSpec)

/-- ITS FALSE NEIGHBOUR: 'it returns false'. Refute it at one input. -/
def fnExactIsLayoutWrong : ChangeSpec := { name := "fnExactIsLayout", fn := fun _ => fun
  | [d1, d2] => { results := [.lit (.bool false)], args := [d1, d2] }
  | _ => none }
def FnExactIsLayoutWrongFalsely : Prop := fnExactIsLayoutRow.holds Try.pinned (OpenSpec.ofChange fnExactIsLayoutWrong)

/-- 'laws.FnExactIsForest': WHATEVER THE INPUT: true; the input reads as it did. -/
def fnExactIsForestSpec : ChangeSpec := { name := "fnExactIsForest", fn := fun _ => fun
  | [d1, d2] => { results := [.lit (.bool true)], args := [d1, d2] }
  | _ => none }
def fnExactIsForestRow : OpenClaim := { program := "ytikifjdbaggajaa", sum := "0d75b6fb4a8caf7ec62f1dace191b807e67e9c3fe6361939656d880403739c0b", func := "loop.example/g01109/laws.FnExactIsForest", spec := "fnExactIsForest", apart := false }
def FnExactIsForestSaid : Prop := fnExactIsForestRow.holds Try.pinned (OpenSpec.ofChange fnExactIsForestSpec)

/-- ITS FALSE NEIGHBOUR: 'it returns false'. Refute it at one input. -/
def fnExactIsForestWrong : ChangeSpec := { name := "fnExactIsForest", fn := fun _ => fun
  | [d1, d2] => { results := [.lit (.bool false)], args := [d1, d2] }
  | _ => none }
def FnExactIsForestWrongFalsely : Prop := fnExactIsForestRow.holds Try.pinned (OpenSpec.ofChange fnExactIsForestWrong)

/-- 'laws.FnExactBandwidthOf': WHATEVER THE INPUT: true; the input reads as it did. -/
def fnExactBandwidthOfSpec : ChangeSpec := { name := "fnExactBandwidthOf", fn := fun _ => fun
  | [d1, d2] => { results := [.lit (.bool true)], args := [d1, d2] }
  | _ => none }
def fnExactBandwidthOfRow : OpenClaim := { program := "ytikifjdbaggajaa", sum := "0d75b6fb4a8caf7ec62f1dace191b807e67e9c3fe6361939656d880403739c0b", func := "loop.example/g01109/laws.FnExactBandwidthOf", spec := "fnExactBandwidthOf", apart := false }
def FnExactBandwidthOfSaid : Prop := fnExactBandwidthOfRow.holds Try.pinned (OpenSpec.ofChange fnExactBandwidthOfSpec)

/-- ITS FALSE NEIGHBOUR: 'it returns false'. Refute it at one input. -/
def fnExactBandwidthOfWrong : ChangeSpec := { name := "fnExactBandwidthOf", fn := fun _ => fun
  | [d1, d2] => { results := [.lit (.bool false)], args := [d1, d2] }
  | _ => none }
def FnExactBandwidthOfWrongFalsely : Prop := fnExactBandwidthOfRow.holds Try.pinned (OpenSpec.ofChange fnExactBandwidthOfWrong)

/-- 'laws.FnExactLongestPath': WHATEVER THE INPUT: true; the input reads as it did. -/
def fnExactLongestPathSpec : ChangeSpec := { name := "fnExactLongestPath", fn := fun _ => fun
  | [d] => { results := [.lit (.bool true)], args := [d] }
  | _ => none }
def fnExactLongestPathRow : OpenClaim := { program := "ytikifjdbaggajaa", sum := "0d75b6fb4a8caf7ec62f1dace191b807e67e9c3fe6361939656d880403739c0b", func := "loop.example/g01109/laws.FnExactLongestPath", spec := "fnExactLongestPath", recurses := true, apart := false }
def FnExactLongestPathSaid : Prop := fnExactLongestPathRow.holds Try.pinned (OpenSpec.ofChange fnExactLongestPathSpec)

/-- ITS FALSE NEIGHBOUR: 'it returns false'. Refute it at one input. -/
def fnExactLongestPathWrong : ChangeSpec := { name := "fnExactLongestPath", fn := fun _ => fun
  | [d] => { results := [.lit (.bool false)], args := [d] }
  | _ => none }
def FnExactLongestPathWrongFalsely : Prop := fnExactLongestPathRow.holds Try.pinned (OpenSpec.ofChange fnExactLongestPathWrong)

/-- 'laws.FnExactBandwidthBound': WHATEVER THE INPUT: true; the input reads as it did. -/
def fnExactBandwidthBoundSpec : ChangeSpec := { name := "fnExactBandwidthBound", fn := fun _ => fun
  | [d] => { results := [.lit (.bool true)], args := [d] }
  | _ => none }
def fnExactBandwidthBoundRow : OpenClaim := { program := "ytikifjdbaggajaa", sum := "0d75b6fb4a8caf7ec62f1dace191b807e67e9c3fe6361939656d880403739c0b", func := "loop.example/g01109/laws.FnExactBandwidthBound", spec := "fnExactBandwidthBound", apart := false }
def FnExactBandwidthBoundSaid : Prop := fnExactBandwidthBoundRow.holds Try.pinned (OpenSpec.ofChange fnExactBandwidthBoundSpec)

/-- ITS FALSE NEIGHBOUR: 'it returns false'. Refute it at one input. -/
def fnExactBandwidthBoundWrong : ChangeSpec := { name := "fnExactBandwidthBound", fn := fun _ => fun
  | [d] => { results := [.lit (.bool false)], args := [d] }
  | _ => none }
def FnExactBandwidthBoundWrongFalsely : Prop := fnExactBandwidthBoundRow.holds Try.pinned (OpenSpec.ofChange fnExactBandwidthBoundWrong)

/-- 'laws.FnExactCliqueOf': WHATEVER THE INPUT: true; the input reads as it did. -/
def fnExactCliqueOfSpec : ChangeSpec := { name := "fnExactCliqueOf", fn := fun _ => fun
  | [d] => { results := [.lit (.bool true)], args := [d] }
  | _ => none }
def fnExactCliqueOfRow : OpenClaim := { program := "ytikifjdbaggajaa", sum := "0d75b6fb4a8caf7ec62f1dace191b807e67e9c3fe6361939656d880403739c0b", func := "loop.example/g01109/laws.FnExactCliqueOf", spec := "fnExactCliqueOf", unfollowed := true, recurses := true, apart := false }
def FnExactCliqueOfSaid : Prop := fnExactCliqueOfRow.holds Try.pinned (OpenSpec.ofChange fnExactCliqueOfSpec)

/-- ITS FALSE NEIGHBOUR: 'it returns false'. Refute it at one input. -/
def fnExactCliqueOfWrong : ChangeSpec := { name := "fnExactCliqueOf", fn := fun _ => fun
  | [d] => { results := [.lit (.bool false)], args := [d] }
  | _ => none }
def FnExactCliqueOfWrongFalsely : Prop := fnExactCliqueOfRow.holds Try.pinned (OpenSpec.ofChange fnExactCliqueOfWrong)

/- THE SECOND FORM. 'bulk': how many values and letters a reading holds, each counted each time it is reached (what is shared counts as often as it is met; a slice's spare places count too). A statement '..UptoSaid' is the law's where the arguments, and the package variables that the reading takes, are together of bulk at most 1048576: NARROWER than '..Said'. Prove '..Said' where nothing that the law and all that it calls make is longer than what came in: it says more and counts as full. Else prove '..UptoSaid'. A law counts once. -/
mutual
def uptoBulk {H : Type} : DataW H → Nat
  | .lit (.string bytes) => bytes.length + 1
  | .lit _ => 1
  | .nil => 1
  | .ptr d => uptoBulk d + 1
  | .slice elems spare => uptoBulkAll elems + uptoBulkAll spare + 1
  | .agg parts => uptoBulkAll parts + 1
  | .iface _ d => uptoBulk d + 1
  | .map entries => uptoBulkEntries entries + 1
  | .held _ => 1
def uptoBulkAll {H : Type} : List (DataW H) → Nat
  | [] => 0
  | d :: r => uptoBulk d + uptoBulkAll r
def uptoBulkEntries {H : Type} : List (Lit × DataW H) → Nat
  | [] => 0
  | x :: r => uptoBulkEntry x + uptoBulkEntries r
def uptoBulkEntry {H : Type} : Lit × DataW H → Nat
  | (.string bytes, d) => bytes.length + uptoBulk d + 1
  | (_, d) => uptoBulk d + 1
 end
def uptoSmall : (H : Type) → List (DataW H) → Bool := fun _ ds => decide (uptoBulkAll ds ≤ 1048576)
def OpenSpec.upto (s : _root_.Go.ChangeSpec) : _root_.Go.OpenSpec := { _root_.Go.OpenSpec.ofChange s with cond := some uptoSmall }

/-- 'laws.FnExactIsLayout', WHERE WHAT IT READS IS OF BULK AT MOST 1048576: true; the input reads as it did. -/
def fnExactIsLayoutUptoRow : OpenClaim := { program := "ytikifjdbaggajaa", sum := "0d75b6fb4a8caf7ec62f1dace191b807e67e9c3fe6361939656d880403739c0b", func := "loop.example/g01109/laws.FnExactIsLayout", spec := "fnExactIsLayout", apart := false, narrowed := true }
def FnExactIsLayoutUptoSaid : Prop := fnExactIsLayoutUptoRow.holds Try.pinned (OpenSpec.upto fnExactIsLayoutSpec)

/-- 'laws.FnExactIsForest', WHERE WHAT IT READS IS OF BULK AT MOST 1048576: true; the input reads as it did. -/
def fnExactIsForestUptoRow : OpenClaim := { program := "ytikifjdbaggajaa", sum := "0d75b6fb4a8caf7ec62f1dace191b807e67e9c3fe6361939656d880403739c0b", func := "loop.example/g01109/laws.FnExactIsForest", spec := "fnExactIsForest", apart := false, narrowed := true }
def FnExactIsForestUptoSaid : Prop := fnExactIsForestUptoRow.holds Try.pinned (OpenSpec.upto fnExactIsForestSpec)

/-- 'laws.FnExactBandwidthOf', WHERE WHAT IT READS IS OF BULK AT MOST 1048576: true; the input reads as it did. -/
def fnExactBandwidthOfUptoRow : OpenClaim := { program := "ytikifjdbaggajaa", sum := "0d75b6fb4a8caf7ec62f1dace191b807e67e9c3fe6361939656d880403739c0b", func := "loop.example/g01109/laws.FnExactBandwidthOf", spec := "fnExactBandwidthOf", apart := false, narrowed := true }
def FnExactBandwidthOfUptoSaid : Prop := fnExactBandwidthOfUptoRow.holds Try.pinned (OpenSpec.upto fnExactBandwidthOfSpec)

/-- 'laws.FnExactLongestPath', WHERE WHAT IT READS IS OF BULK AT MOST 1048576: true; the input reads as it did. -/
def fnExactLongestPathUptoRow : OpenClaim := { program := "ytikifjdbaggajaa", sum := "0d75b6fb4a8caf7ec62f1dace191b807e67e9c3fe6361939656d880403739c0b", func := "loop.example/g01109/laws.FnExactLongestPath", spec := "fnExactLongestPath", recurses := true, apart := false, narrowed := true }
def FnExactLongestPathUptoSaid : Prop := fnExactLongestPathUptoRow.holds Try.pinned (OpenSpec.upto fnExactLongestPathSpec)

/-- 'laws.FnExactBandwidthBound', WHERE WHAT IT READS IS OF BULK AT MOST 1048576: true; the input reads as it did. -/
def fnExactBandwidthBoundUptoRow : OpenClaim := { program := "ytikifjdbaggajaa", sum := "0d75b6fb4a8caf7ec62f1dace191b807e67e9c3fe6361939656d880403739c0b", func := "loop.example/g01109/laws.FnExactBandwidthBound", spec := "fnExactBandwidthBound", apart := false, narrowed := true }
def FnExactBandwidthBoundUptoSaid : Prop := fnExactBandwidthBoundUptoRow.holds Try.pinned (OpenSpec.upto fnExactBandwidthBoundSpec)

/-- 'laws.FnExactCliqueOf', WHERE WHAT IT READS IS OF BULK AT MOST 1048576: true; the input reads as it did. -/
def fnExactCliqueOfUptoRow : OpenClaim := { program := "ytikifjdbaggajaa", sum := "0d75b6fb4a8caf7ec62f1dace191b807e67e9c3fe6361939656d880403739c0b", func := "loop.example/g01109/laws.FnExactCliqueOf", spec := "fnExactCliqueOf", unfollowed := true, recurses := true, apart := false, narrowed := true }
def FnExactCliqueOfUptoSaid : Prop := fnExactCliqueOfUptoRow.holds Try.pinned (OpenSpec.upto fnExactCliqueOfSpec)

end Rows
end Go.Proofs.Ytikifjdbaggajaa
