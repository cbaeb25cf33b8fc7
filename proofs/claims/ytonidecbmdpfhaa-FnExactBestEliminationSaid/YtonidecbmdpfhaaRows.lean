/-
  No cell of these rows narrows 'for every input' (looked for: loops, veiled, ifaces, maps, wideKeys, modest, calm, conditions, laid).
  DERIVED. THE GIVEN ROWS OF THIS SEAT. 12 by the template 'for every input the law returns true; each argument reads behind the call as it read before'; 0 by the template 'total and deterministic' (their statements: YtonidecbmdpfhaaTotals.lean).
  GIVEN WITH THE SEED: the statements are not yours to turn. If you find one false, say at which input.
  Laid BY PROGRAM, IN A SANDBOX (cutbox-rows.mjs): the forced cells as the released guide's own fill.sh prints them over the translation b4dc1184172bb6cb… (all of the seat's roots in one cut). By AI agents, Wed Nov 11 2026. No macro, syntax, notation, axiom, sorry.
-/
import Derived.Test.YtonidecbmdpfhaaChecked
import GoSem.Claim
import GoSem.ClaimJoined
import GoSem.ClaimMapViews
import Derived.JoinedTies
import Derived.KernelRfl
namespace Go.Proofs.Ytonidecbmdpfhaa
/- THE CELL 'sum', in the pinned program and in every row, IS THE sha256 OF THE DUMP (.gsa) THAT YtonidecbmdpfhaaProg.lean LOADS. Nothing in Lean hashes anything: it is a label: what it is worth is what the hold of that sum in a sandbox is worth. -/
noncomputable def Try.pinned : Pinned := { name := "ytonidecbmdpfhaa", sum := "b4dc1184172bb6cbfa2163b8095b4e8dabc5302c11effe4964e30d0e88489e57", checked := Try.checked }
namespace Rows
def none {H : Type} : Left H := { results := [], args := [] }

/-- 'laws.FnExactLongestPath': WHATEVER THE INPUT: true; the input reads as it did. -/
def fnExactLongestPathSpec : ChangeSpec := { name := "fnExactLongestPath", fn := fun _ => fun
  | [d] => { results := [.lit (.bool true)], args := [d] }
  | _ => none }
def fnExactLongestPathRow : OpenClaim := { program := "ytonidecbmdpfhaa", sum := "b4dc1184172bb6cbfa2163b8095b4e8dabc5302c11effe4964e30d0e88489e57", func := "loop.example/g01109/laws.FnExactLongestPath", spec := "fnExactLongestPath", recurses := true, apart := false }
def FnExactLongestPathSaid : Prop := fnExactLongestPathRow.holds Try.pinned (OpenSpec.ofChange fnExactLongestPathSpec)

/-- ITS FALSE NEIGHBOUR: 'it returns false'. Refute it at one input. -/
def fnExactLongestPathWrong : ChangeSpec := { name := "fnExactLongestPath", fn := fun _ => fun
  | [d] => { results := [.lit (.bool false)], args := [d] }
  | _ => none }
def FnExactLongestPathWrongFalsely : Prop := fnExactLongestPathRow.holds Try.pinned (OpenSpec.ofChange fnExactLongestPathWrong)

/-- 'laws.FnExactCliqueOf': WHATEVER THE INPUT: true; the input reads as it did. -/
def fnExactCliqueOfSpec : ChangeSpec := { name := "fnExactCliqueOf", fn := fun _ => fun
  | [d] => { results := [.lit (.bool true)], args := [d] }
  | _ => none }
def fnExactCliqueOfRow : OpenClaim := { program := "ytonidecbmdpfhaa", sum := "b4dc1184172bb6cbfa2163b8095b4e8dabc5302c11effe4964e30d0e88489e57", func := "loop.example/g01109/laws.FnExactCliqueOf", spec := "fnExactCliqueOf", unfollowed := true, recurses := true, apart := false }
def FnExactCliqueOfSaid : Prop := fnExactCliqueOfRow.holds Try.pinned (OpenSpec.ofChange fnExactCliqueOfSpec)

/-- ITS FALSE NEIGHBOUR: 'it returns false'. Refute it at one input. -/
def fnExactCliqueOfWrong : ChangeSpec := { name := "fnExactCliqueOf", fn := fun _ => fun
  | [d] => { results := [.lit (.bool false)], args := [d] }
  | _ => none }
def FnExactCliqueOfWrongFalsely : Prop := fnExactCliqueOfRow.holds Try.pinned (OpenSpec.ofChange fnExactCliqueOfWrong)

/-- 'laws.FnExactDegeneracyOf': WHATEVER THE INPUT: true; the input reads as it did. -/
def fnExactDegeneracyOfSpec : ChangeSpec := { name := "fnExactDegeneracyOf", fn := fun _ => fun
  | [d] => { results := [.lit (.bool true)], args := [d] }
  | _ => none }
def fnExactDegeneracyOfRow : OpenClaim := { program := "ytonidecbmdpfhaa", sum := "b4dc1184172bb6cbfa2163b8095b4e8dabc5302c11effe4964e30d0e88489e57", func := "loop.example/g01109/laws.FnExactDegeneracyOf", spec := "fnExactDegeneracyOf", apart := false }
def FnExactDegeneracyOfSaid : Prop := fnExactDegeneracyOfRow.holds Try.pinned (OpenSpec.ofChange fnExactDegeneracyOfSpec)

/-- ITS FALSE NEIGHBOUR: 'it returns false'. Refute it at one input. -/
def fnExactDegeneracyOfWrong : ChangeSpec := { name := "fnExactDegeneracyOf", fn := fun _ => fun
  | [d] => { results := [.lit (.bool false)], args := [d] }
  | _ => none }
def FnExactDegeneracyOfWrongFalsely : Prop := fnExactDegeneracyOfRow.holds Try.pinned (OpenSpec.ofChange fnExactDegeneracyOfWrong)

/-- 'laws.FnExactPerfectElimination': WHATEVER THE INPUT: true; the input reads as it did. -/
def fnExactPerfectEliminationSpec : ChangeSpec := { name := "fnExactPerfectElimination", fn := fun _ => fun
  | [d] => { results := [.lit (.bool true)], args := [d] }
  | _ => none }
def fnExactPerfectEliminationRow : OpenClaim := { program := "ytonidecbmdpfhaa", sum := "b4dc1184172bb6cbfa2163b8095b4e8dabc5302c11effe4964e30d0e88489e57", func := "loop.example/g01109/laws.FnExactPerfectElimination", spec := "fnExactPerfectElimination", unfollowed := true, recurses := true, apart := false }
def FnExactPerfectEliminationSaid : Prop := fnExactPerfectEliminationRow.holds Try.pinned (OpenSpec.ofChange fnExactPerfectEliminationSpec)

/-- ITS FALSE NEIGHBOUR: 'it returns false'. Refute it at one input. -/
def fnExactPerfectEliminationWrong : ChangeSpec := { name := "fnExactPerfectElimination", fn := fun _ => fun
  | [d] => { results := [.lit (.bool false)], args := [d] }
  | _ => none }
def FnExactPerfectEliminationWrongFalsely : Prop := fnExactPerfectEliminationRow.holds Try.pinned (OpenSpec.ofChange fnExactPerfectEliminationWrong)

/-- 'laws.FnExactFrontOf': WHATEVER THE INPUT: true; the input reads as it did. -/
def fnExactFrontOfSpec : ChangeSpec := { name := "fnExactFrontOf", fn := fun _ => fun
  | [d1, d2] => { results := [.lit (.bool true)], args := [d1, d2] }
  | _ => none }
def fnExactFrontOfRow : OpenClaim := { program := "ytonidecbmdpfhaa", sum := "b4dc1184172bb6cbfa2163b8095b4e8dabc5302c11effe4964e30d0e88489e57", func := "loop.example/g01109/laws.FnExactFrontOf", spec := "fnExactFrontOf", apart := false }
def FnExactFrontOfSaid : Prop := fnExactFrontOfRow.holds Try.pinned (OpenSpec.ofChange fnExactFrontOfSpec)

/-- ITS FALSE NEIGHBOUR: 'it returns false'. Refute it at one input. -/
def fnExactFrontOfWrong : ChangeSpec := { name := "fnExactFrontOf", fn := fun _ => fun
  | [d1, d2] => { results := [.lit (.bool false)], args := [d1, d2] }
  | _ => none }
def FnExactFrontOfWrongFalsely : Prop := fnExactFrontOfRow.holds Try.pinned (OpenSpec.ofChange fnExactFrontOfWrong)

/-- 'laws.FnExactProgramOfLayout': WHATEVER THE INPUT: true; the input reads as it did. -/
def fnExactProgramOfLayoutSpec : ChangeSpec := { name := "fnExactProgramOfLayout", fn := fun _ => fun
  | [d1, d2] => { results := [.lit (.bool true)], args := [d1, d2] }
  | _ => none }
def fnExactProgramOfLayoutRow : OpenClaim := { program := "ytonidecbmdpfhaa", sum := "b4dc1184172bb6cbfa2163b8095b4e8dabc5302c11effe4964e30d0e88489e57", func := "loop.example/g01109/laws.FnExactProgramOfLayout", spec := "fnExactProgramOfLayout", apart := false }
def FnExactProgramOfLayoutSaid : Prop := fnExactProgramOfLayoutRow.holds Try.pinned (OpenSpec.ofChange fnExactProgramOfLayoutSpec)

/-- ITS FALSE NEIGHBOUR: 'it returns false'. Refute it at one input. -/
def fnExactProgramOfLayoutWrong : ChangeSpec := { name := "fnExactProgramOfLayout", fn := fun _ => fun
  | [d1, d2] => { results := [.lit (.bool false)], args := [d1, d2] }
  | _ => none }
def FnExactProgramOfLayoutWrongFalsely : Prop := fnExactProgramOfLayoutRow.holds Try.pinned (OpenSpec.ofChange fnExactProgramOfLayoutWrong)

/-- 'laws.FnExactLeastBandwidth': WHATEVER THE INPUT: true; the input reads as it did. -/
def fnExactLeastBandwidthSpec : ChangeSpec := { name := "fnExactLeastBandwidth", fn := fun _ => fun
  | [d] => { results := [.lit (.bool true)], args := [d] }
  | _ => none }
def fnExactLeastBandwidthRow : OpenClaim := { program := "ytonidecbmdpfhaa", sum := "b4dc1184172bb6cbfa2163b8095b4e8dabc5302c11effe4964e30d0e88489e57", func := "loop.example/g01109/laws.FnExactLeastBandwidth", spec := "fnExactLeastBandwidth", recurses := true, apart := false }
def FnExactLeastBandwidthSaid : Prop := fnExactLeastBandwidthRow.holds Try.pinned (OpenSpec.ofChange fnExactLeastBandwidthSpec)

/-- ITS FALSE NEIGHBOUR: 'it returns false'. Refute it at one input. -/
def fnExactLeastBandwidthWrong : ChangeSpec := { name := "fnExactLeastBandwidth", fn := fun _ => fun
  | [d] => { results := [.lit (.bool false)], args := [d] }
  | _ => none }
def FnExactLeastBandwidthWrongFalsely : Prop := fnExactLeastBandwidthRow.holds Try.pinned (OpenSpec.ofChange fnExactLeastBandwidthWrong)

/-- 'laws.FnExactCutsOf': WHATEVER THE INPUT: true; the input reads as it did. -/
def fnExactCutsOfSpec : ChangeSpec := { name := "fnExactCutsOf", fn := fun _ => fun
  | [d1, d2] => { results := [.lit (.bool true)], args := [d1, d2] }
  | _ => none }
def fnExactCutsOfRow : OpenClaim := { program := "ytonidecbmdpfhaa", sum := "b4dc1184172bb6cbfa2163b8095b4e8dabc5302c11effe4964e30d0e88489e57", func := "loop.example/g01109/laws.FnExactCutsOf", spec := "fnExactCutsOf", apart := false }
def FnExactCutsOfSaid : Prop := fnExactCutsOfRow.holds Try.pinned (OpenSpec.ofChange fnExactCutsOfSpec)

/-- ITS FALSE NEIGHBOUR: 'it returns false'. Refute it at one input. -/
def fnExactCutsOfWrong : ChangeSpec := { name := "fnExactCutsOf", fn := fun _ => fun
  | [d1, d2] => { results := [.lit (.bool false)], args := [d1, d2] }
  | _ => none }
def FnExactCutsOfWrongFalsely : Prop := fnExactCutsOfRow.holds Try.pinned (OpenSpec.ofChange fnExactCutsOfWrong)

/-- 'laws.FnExactFrontSizes': WHATEVER THE INPUT: true; the input reads as it did. -/
def fnExactFrontSizesSpec : ChangeSpec := { name := "fnExactFrontSizes", fn := fun _ => fun
  | [d1, d2] => { results := [.lit (.bool true)], args := [d1, d2] }
  | _ => none }
def fnExactFrontSizesRow : OpenClaim := { program := "ytonidecbmdpfhaa", sum := "b4dc1184172bb6cbfa2163b8095b4e8dabc5302c11effe4964e30d0e88489e57", func := "loop.example/g01109/laws.FnExactFrontSizes", spec := "fnExactFrontSizes", apart := false }
def FnExactFrontSizesSaid : Prop := fnExactFrontSizesRow.holds Try.pinned (OpenSpec.ofChange fnExactFrontSizesSpec)

/-- ITS FALSE NEIGHBOUR: 'it returns false'. Refute it at one input. -/
def fnExactFrontSizesWrong : ChangeSpec := { name := "fnExactFrontSizes", fn := fun _ => fun
  | [d1, d2] => { results := [.lit (.bool false)], args := [d1, d2] }
  | _ => none }
def FnExactFrontSizesWrongFalsely : Prop := fnExactFrontSizesRow.holds Try.pinned (OpenSpec.ofChange fnExactFrontSizesWrong)

/-- 'laws.FnExactLeastCutwidth': WHATEVER THE INPUT: true; the input reads as it did. -/
def fnExactLeastCutwidthSpec : ChangeSpec := { name := "fnExactLeastCutwidth", fn := fun _ => fun
  | [d] => { results := [.lit (.bool true)], args := [d] }
  | _ => none }
def fnExactLeastCutwidthRow : OpenClaim := { program := "ytonidecbmdpfhaa", sum := "b4dc1184172bb6cbfa2163b8095b4e8dabc5302c11effe4964e30d0e88489e57", func := "loop.example/g01109/laws.FnExactLeastCutwidth", spec := "fnExactLeastCutwidth", unfollowed := true, recurses := true, apart := false }
def FnExactLeastCutwidthSaid : Prop := fnExactLeastCutwidthRow.holds Try.pinned (OpenSpec.ofChange fnExactLeastCutwidthSpec)

/-- ITS FALSE NEIGHBOUR: 'it returns false'. Refute it at one input. -/
def fnExactLeastCutwidthWrong : ChangeSpec := { name := "fnExactLeastCutwidth", fn := fun _ => fun
  | [d] => { results := [.lit (.bool false)], args := [d] }
  | _ => none }
def FnExactLeastCutwidthWrongFalsely : Prop := fnExactLeastCutwidthRow.holds Try.pinned (OpenSpec.ofChange fnExactLeastCutwidthWrong)

/-- 'laws.FnExactBestLayout': WHATEVER THE INPUT: true; the input reads as it did. -/
def fnExactBestLayoutSpec : ChangeSpec := { name := "fnExactBestLayout", fn := fun _ => fun
  | [d] => { results := [.lit (.bool true)], args := [d] }
  | _ => none }
def fnExactBestLayoutRow : OpenClaim := { program := "ytonidecbmdpfhaa", sum := "b4dc1184172bb6cbfa2163b8095b4e8dabc5302c11effe4964e30d0e88489e57", func := "loop.example/g01109/laws.FnExactBestLayout", spec := "fnExactBestLayout", unfollowed := true, recurses := true, apart := false }
def FnExactBestLayoutSaid : Prop := fnExactBestLayoutRow.holds Try.pinned (OpenSpec.ofChange fnExactBestLayoutSpec)

/-- ITS FALSE NEIGHBOUR: 'it returns false'. Refute it at one input. -/
def fnExactBestLayoutWrong : ChangeSpec := { name := "fnExactBestLayout", fn := fun _ => fun
  | [d] => { results := [.lit (.bool false)], args := [d] }
  | _ => none }
def FnExactBestLayoutWrongFalsely : Prop := fnExactBestLayoutRow.holds Try.pinned (OpenSpec.ofChange fnExactBestLayoutWrong)

/-- 'laws.FnExactBestElimination': WHATEVER THE INPUT: true; the input reads as it did. -/
def fnExactBestEliminationSpec : ChangeSpec := { name := "fnExactBestElimination", fn := fun _ => fun
  | [d] => { results := [.lit (.bool true)], args := [d] }
  | _ => none }
def fnExactBestEliminationRow : OpenClaim := { program := "ytonidecbmdpfhaa", sum := "b4dc1184172bb6cbfa2163b8095b4e8dabc5302c11effe4964e30d0e88489e57", func := "loop.example/g01109/laws.FnExactBestElimination", spec := "fnExactBestElimination", unfollowed := true, recurses := true, apart := false }
def FnExactBestEliminationSaid : Prop := fnExactBestEliminationRow.holds Try.pinned (OpenSpec.ofChange fnExactBestEliminationSpec)

/-- ITS FALSE NEIGHBOUR: 'it returns false'. Refute it at one input. -/
def fnExactBestEliminationWrong : ChangeSpec := { name := "fnExactBestElimination", fn := fun _ => fun
  | [d] => { results := [.lit (.bool false)], args := [d] }
  | _ => none }
def FnExactBestEliminationWrongFalsely : Prop := fnExactBestEliminationRow.holds Try.pinned (OpenSpec.ofChange fnExactBestEliminationWrong)

/- THE SECOND FORM. 'bulk': how many values and letters a reading holds, each counted each time it is reached (what is shared counts as often as it is met; a slice's spare places count too). A statement '..UptoSaid' is the law's where the arguments, and the package variables that the reading takes, are together of bulk at most 1048576: NARROWER than '..Said'. Prove '..Said' where nothing that the law and all that it calls make is longer than what came in: it says more and counts as full. Else prove '..UptoSaid'. A law counts once. -/
mutual
def uptoBulk {H : Type} : DataW H → Nat
  | .lit (.string bytes) => bytes.length + 1
  | .lit _ => 1
  | .nil => 1
  | .ptr d => uptoBulk d + 1
  | .slice elems spare => uptoBulkAll elems + uptoBulkAll spare + 1
  | .agg parts => uptoBulkAll parts + 1
  | .iface _ d => uptoBulk d + 1
  | .map entries => uptoBulkEntries entries + 1
  | .held _ => 1
def uptoBulkAll {H : Type} : List (DataW H) → Nat
  | [] => 0
  | d :: r => uptoBulk d + uptoBulkAll r
def uptoBulkEntries {H : Type} : List (Lit × DataW H) → Nat
  | [] => 0
  | x :: r => uptoBulkEntry x + uptoBulkEntries r
def uptoBulkEntry {H : Type} : Lit × DataW H → Nat
  | (.string bytes, d) => bytes.length + uptoBulk d + 1
  | (_, d) => uptoBulk d + 1
 end
def uptoSmall : (H : Type) → List (DataW H) → Bool := fun _ ds => decide (uptoBulkAll ds ≤ 1048576)
def OpenSpec.upto (s : _root_.Go.ChangeSpec) : _root_.Go.OpenSpec := { _root_.Go.OpenSpec.ofChange s with cond := some uptoSmall }

/-- 'laws.FnExactLongestPath', WHERE WHAT IT READS IS OF BULK AT MOST 1048576: true; the input reads as it did. -/
def fnExactLongestPathUptoRow : OpenClaim := { program := "ytonidecbmdpfhaa", sum := "b4dc1184172bb6cbfa2163b8095b4e8dabc5302c11effe4964e30d0e88489e57", func := "loop.example/g01109/laws.FnExactLongestPath", spec := "fnExactLongestPath", recurses := true, apart := false, narrowed := true }
def FnExactLongestPathUptoSaid : Prop := fnExactLongestPathUptoRow.holds Try.pinned (OpenSpec.upto fnExactLongestPathSpec)

/-- 'laws.FnExactCliqueOf', WHERE WHAT IT READS IS OF BULK AT MOST 1048576: true; the input reads as it did. -/
def fnExactCliqueOfUptoRow : OpenClaim := { program := "ytonidecbmdpfhaa", sum := "b4dc1184172bb6cbfa2163b8095b4e8dabc5302c11effe4964e30d0e88489e57", func := "loop.example/g01109/laws.FnExactCliqueOf", spec := "fnExactCliqueOf", unfollowed := true, recurses := true, apart := false, narrowed := true }
def FnExactCliqueOfUptoSaid : Prop := fnExactCliqueOfUptoRow.holds Try.pinned (OpenSpec.upto fnExactCliqueOfSpec)

/-- 'laws.FnExactDegeneracyOf', WHERE WHAT IT READS IS OF BULK AT MOST 1048576: true; the input reads as it did. -/
def fnExactDegeneracyOfUptoRow : OpenClaim := { program := "ytonidecbmdpfhaa", sum := "b4dc1184172bb6cbfa2163b8095b4e8dabc5302c11effe4964e30d0e88489e57", func := "loop.example/g01109/laws.FnExactDegeneracyOf", spec := "fnExactDegeneracyOf", apart := false, narrowed := true }
def FnExactDegeneracyOfUptoSaid : Prop := fnExactDegeneracyOfUptoRow.holds Try.pinned (OpenSpec.upto fnExactDegeneracyOfSpec)

/-- 'laws.FnExactPerfectElimination', WHERE WHAT IT READS IS OF BULK AT MOST 1048576: true; the input reads as it did. -/
def fnExactPerfectEliminationUptoRow : OpenClaim := { program := "ytonidecbmdpfhaa", sum := "b4dc1184172bb6cbfa2163b8095b4e8dabc5302c11effe4964e30d0e88489e57", func := "loop.example/g01109/laws.FnExactPerfectElimination", spec := "fnExactPerfectElimination", unfollowed := true, recurses := true, apart := false, narrowed := true }
def FnExactPerfectEliminationUptoSaid : Prop := fnExactPerfectEliminationUptoRow.holds Try.pinned (OpenSpec.upto fnExactPerfectEliminationSpec)

/-- 'laws.FnExactFrontOf', WHERE WHAT IT READS IS OF BULK AT MOST 1048576: true; the input reads as it did. -/
def fnExactFrontOfUptoRow : OpenClaim := { program := "ytonidecbmdpfhaa", sum := "b4dc1184172bb6cbfa2163b8095b4e8dabc5302c11effe4964e30d0e88489e57", func := "loop.example/g01109/laws.FnExactFrontOf", spec := "fnExactFrontOf", apart := false, narrowed := true }
def FnExactFrontOfUptoSaid : Prop := fnExactFrontOfUptoRow.holds Try.pinned (OpenSpec.upto fnExactFrontOfSpec)

/-- 'laws.FnExactProgramOfLayout', WHERE WHAT IT READS IS OF BULK AT MOST 1048576: true; the input reads as it did. -/
def fnExactProgramOfLayoutUptoRow : OpenClaim := { program := "ytonidecbmdpfhaa", sum := "b4dc1184172bb6cbfa2163b8095b4e8dabc5302c11effe4964e30d0e88489e57", func := "loop.example/g01109/laws.FnExactProgramOfLayout", spec := "fnExactProgramOfLayout", apart := false, narrowed := true }
def FnExactProgramOfLayoutUptoSaid : Prop := fnExactProgramOfLayoutUptoRow.holds Try.pinned (OpenSpec.upto fnExactProgramOfLayoutSpec)

/-- 'laws.FnExactLeastBandwidth', WHERE WHAT IT READS IS OF BULK AT MOST 1048576: true; the input reads as it did. -/
def fnExactLeastBandwidthUptoRow : OpenClaim := { program := "ytonidecbmdpfhaa", sum := "b4dc1184172bb6cbfa2163b8095b4e8dabc5302c11effe4964e30d0e88489e57", func := "loop.example/g01109/laws.FnExactLeastBandwidth", spec := "fnExactLeastBandwidth", recurses := true, apart := false, narrowed := true }
def FnExactLeastBandwidthUptoSaid : Prop := fnExactLeastBandwidthUptoRow.holds Try.pinned (OpenSpec.upto fnExactLeastBandwidthSpec)

/-- 'laws.FnExactCutsOf', WHERE WHAT IT READS IS OF BULK AT MOST 1048576: true; the input reads as it did. -/
def fnExactCutsOfUptoRow : OpenClaim := { program := "ytonidecbmdpfhaa", sum := "b4dc1184172bb6cbfa2163b8095b4e8dabc5302c11effe4964e30d0e88489e57", func := "loop.example/g01109/laws.FnExactCutsOf", spec := "fnExactCutsOf", apart := false, narrowed := true }
def FnExactCutsOfUptoSaid : Prop := fnExactCutsOfUptoRow.holds Try.pinned (OpenSpec.upto fnExactCutsOfSpec)

/-- 'laws.FnExactFrontSizes', WHERE WHAT IT READS IS OF BULK AT MOST 1048576: true; the input reads as it did. -/
def fnExactFrontSizesUptoRow : OpenClaim := { program := "ytonidecbmdpfhaa", sum := "b4dc1184172bb6cbfa2163b8095b4e8dabc5302c11effe4964e30d0e88489e57", func := "loop.example/g01109/laws.FnExactFrontSizes", spec := "fnExactFrontSizes", apart := false, narrowed := true }
def FnExactFrontSizesUptoSaid : Prop := fnExactFrontSizesUptoRow.holds Try.pinned (OpenSpec.upto fnExactFrontSizesSpec)

/-- 'laws.FnExactLeastCutwidth', WHERE WHAT IT READS IS OF BULK AT MOST 1048576: true; the input reads as it did. -/
def fnExactLeastCutwidthUptoRow : OpenClaim := { program := "ytonidecbmdpfhaa", sum := "b4dc1184172bb6cbfa2163b8095b4e8dabc5302c11effe4964e30d0e88489e57", func := "loop.example/g01109/laws.FnExactLeastCutwidth", spec := "fnExactLeastCutwidth", unfollowed := true, recurses := true, apart := false, narrowed := true }
def FnExactLeastCutwidthUptoSaid : Prop := fnExactLeastCutwidthUptoRow.holds Try.pinned (OpenSpec.upto fnExactLeastCutwidthSpec)

/-- 'laws.FnExactBestLayout', WHERE WHAT IT READS IS OF BULK AT MOST 1048576: true; the input reads as it did. -/
def fnExactBestLayoutUptoRow : OpenClaim := { program := "ytonidecbmdpfhaa", sum := "b4dc1184172bb6cbfa2163b8095b4e8dabc5302c11effe4964e30d0e88489e57", func := "loop.example/g01109/laws.FnExactBestLayout", spec := "fnExactBestLayout", unfollowed := true, recurses := true, apart := false, narrowed := true }
def FnExactBestLayoutUptoSaid : Prop := fnExactBestLayoutUptoRow.holds Try.pinned (OpenSpec.upto fnExactBestLayoutSpec)

/-- 'laws.FnExactBestElimination', WHERE WHAT IT READS IS OF BULK AT MOST 1048576: true; the input reads as it did. -/
def fnExactBestEliminationUptoRow : OpenClaim := { program := "ytonidecbmdpfhaa", sum := "b4dc1184172bb6cbfa2163b8095b4e8dabc5302c11effe4964e30d0e88489e57", func := "loop.example/g01109/laws.FnExactBestElimination", spec := "fnExactBestElimination", unfollowed := true, recurses := true, apart := false, narrowed := true }
def FnExactBestEliminationUptoSaid : Prop := fnExactBestEliminationUptoRow.holds Try.pinned (OpenSpec.upto fnExactBestEliminationSpec)

end Rows
end Go.Proofs.Ytonidecbmdpfhaa
