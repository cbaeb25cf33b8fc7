/-
  No cell of these rows narrows 'for every input' (looked for: loops, veiled, ifaces, maps, wideKeys, modest, calm, conditions, laid).
  DERIVED. THE GIVEN ROWS OF THIS SEAT. 12 by the template 'for every input the law returns true; each argument reads behind the call as it read before'; 0 by the template 'total and deterministic' (their statements: YthblbfcloccopaaTotals.lean).
  GIVEN WITH THE SEED: the statements are not yours to turn. If you find one false, say at which input.
  Laid BY PROGRAM, IN A SANDBOX (cutbox-rows.mjs): the forced cells as the released guide's own fill.sh prints them over the translation e5945b5f7f01ea0d… (all of the seat's roots in one cut). By AI agents, Wed Nov 11 2026. No macro, syntax, notation, axiom, sorry.
-/
import Derived.Test.YthblbfcloccopaaChecked
import GoSem.Claim
import GoSem.ClaimJoined
import GoSem.ClaimMapViews
import Derived.JoinedTies
import Derived.KernelRfl
namespace Go.Proofs.Ythblbfcloccopaa
/- THE CELL 'sum', in the pinned program and in every row, IS THE sha256 OF THE DUMP (.gsa) THAT YthblbfcloccopaaProg.lean LOADS. Nothing in Lean hashes anything: it is a label: what it is worth is what the hold of that sum in a sandbox is worth. -/
noncomputable def Try.pinned : Pinned := { name := "ythblbfcloccopaa", sum := "e5945b5f7f01ea0d33dcd78221ef9f6a9903c4dc4a534895e4bdf7711b74b679", checked := Try.checked }
namespace Rows
def none {H : Type} : Left H := { results := [], args := [] }

/-- 'laws.FnExactForestDepth': WHATEVER THE INPUT: true; the input reads as it did. -/
def fnExactForestDepthSpec : ChangeSpec := { name := "fnExactForestDepth", fn := fun _ => fun
  | [d1, d2] => { results := [.lit (.bool true)], args := [d1, d2] }
  | _ => none }
def fnExactForestDepthRow : OpenClaim := { program := "ythblbfcloccopaa", sum := "e5945b5f7f01ea0d33dcd78221ef9f6a9903c4dc4a534895e4bdf7711b74b679", func := "loop.example/g01109/laws.FnExactForestDepth", spec := "fnExactForestDepth", apart := false }
def FnExactForestDepthSaid : Prop := fnExactForestDepthRow.holds Try.pinned (OpenSpec.ofChange fnExactForestDepthSpec)

/-- ITS FALSE NEIGHBOUR: 'it returns false'. Refute it at one input. -/
def fnExactForestDepthWrong : ChangeSpec := { name := "fnExactForestDepth", fn := fun _ => fun
  | [d1, d2] => { results := [.lit (.bool false)], args := [d1, d2] }
  | _ => none }
def FnExactForestDepthWrongFalsely : Prop := fnExactForestDepthRow.holds Try.pinned (OpenSpec.ofChange fnExactForestDepthWrong)

/-- 'laws.FnExactPathwidthOf': WHATEVER THE INPUT: true; the input reads as it did. -/
def fnExactPathwidthOfSpec : ChangeSpec := { name := "fnExactPathwidthOf", fn := fun _ => fun
  | [d] => { results := [.lit (.bool true)], args := [d] }
  | _ => none }
def fnExactPathwidthOfRow : OpenClaim := { program := "ythblbfcloccopaa", sum := "e5945b5f7f01ea0d33dcd78221ef9f6a9903c4dc4a534895e4bdf7711b74b679", func := "loop.example/g01109/laws.FnExactPathwidthOf", spec := "fnExactPathwidthOf", unfollowed := true, recurses := true, apart := false }
def FnExactPathwidthOfSaid : Prop := fnExactPathwidthOfRow.holds Try.pinned (OpenSpec.ofChange fnExactPathwidthOfSpec)

/-- ITS FALSE NEIGHBOUR: 'it returns false'. Refute it at one input. -/
def fnExactPathwidthOfWrong : ChangeSpec := { name := "fnExactPathwidthOf", fn := fun _ => fun
  | [d] => { results := [.lit (.bool false)], args := [d] }
  | _ => none }
def FnExactPathwidthOfWrongFalsely : Prop := fnExactPathwidthOfRow.holds Try.pinned (OpenSpec.ofChange fnExactPathwidthOfWrong)

/-- 'laws.FnExactCutwidthOf': WHATEVER THE INPUT: true; the input reads as it did. -/
def fnExactCutwidthOfSpec : ChangeSpec := { name := "fnExactCutwidthOf", fn := fun _ => fun
  | [d1, d2] => { results := [.lit (.bool true)], args := [d1, d2] }
  | _ => none }
def fnExactCutwidthOfRow : OpenClaim := { program := "ythblbfcloccopaa", sum := "e5945b5f7f01ea0d33dcd78221ef9f6a9903c4dc4a534895e4bdf7711b74b679", func := "loop.example/g01109/laws.FnExactCutwidthOf", spec := "fnExactCutwidthOf", apart := false }
def FnExactCutwidthOfSaid : Prop := fnExactCutwidthOfRow.holds Try.pinned (OpenSpec.ofChange fnExactCutwidthOfSpec)

/-- ITS FALSE NEIGHBOUR: 'it returns false'. Refute it at one input. -/
def fnExactCutwidthOfWrong : ChangeSpec := { name := "fnExactCutwidthOf", fn := fun _ => fun
  | [d1, d2] => { results := [.lit (.bool false)], args := [d1, d2] }
  | _ => none }
def FnExactCutwidthOfWrongFalsely : Prop := fnExactCutwidthOfRow.holds Try.pinned (OpenSpec.ofChange fnExactCutwidthOfWrong)

/-- 'laws.FnExactStayersWin': WHATEVER THE INPUT: true; the input reads as it did. -/
def fnExactStayersWinSpec : ChangeSpec := { name := "fnExactStayersWin", fn := fun _ => fun
  | [d1, d2] => { results := [.lit (.bool true)], args := [d1, d2] }
  | _ => none }
def fnExactStayersWinRow : OpenClaim := { program := "ythblbfcloccopaa", sum := "e5945b5f7f01ea0d33dcd78221ef9f6a9903c4dc4a534895e4bdf7711b74b679", func := "loop.example/g01109/laws.FnExactStayersWin", spec := "fnExactStayersWin", recurses := true, apart := false }
def FnExactStayersWinSaid : Prop := fnExactStayersWinRow.holds Try.pinned (OpenSpec.ofChange fnExactStayersWinSpec)

/-- ITS FALSE NEIGHBOUR: 'it returns false'. Refute it at one input. -/
def fnExactStayersWinWrong : ChangeSpec := { name := "fnExactStayersWin", fn := fun _ => fun
  | [d1, d2] => { results := [.lit (.bool false)], args := [d1, d2] }
  | _ => none }
def FnExactStayersWinWrongFalsely : Prop := fnExactStayersWinRow.holds Try.pinned (OpenSpec.ofChange fnExactStayersWinWrong)

/-- 'laws.FnExactTreedepthOf': WHATEVER THE INPUT: true; the input reads as it did. -/
def fnExactTreedepthOfSpec : ChangeSpec := { name := "fnExactTreedepthOf", fn := fun _ => fun
  | [d] => { results := [.lit (.bool true)], args := [d] }
  | _ => none }
def fnExactTreedepthOfRow : OpenClaim := { program := "ythblbfcloccopaa", sum := "e5945b5f7f01ea0d33dcd78221ef9f6a9903c4dc4a534895e4bdf7711b74b679", func := "loop.example/g01109/laws.FnExactTreedepthOf", spec := "fnExactTreedepthOf", apart := false }
def FnExactTreedepthOfSaid : Prop := fnExactTreedepthOfRow.holds Try.pinned (OpenSpec.ofChange fnExactTreedepthOfSpec)

/-- ITS FALSE NEIGHBOUR: 'it returns false'. Refute it at one input. -/
def fnExactTreedepthOfWrong : ChangeSpec := { name := "fnExactTreedepthOf", fn := fun _ => fun
  | [d] => { results := [.lit (.bool false)], args := [d] }
  | _ => none }
def FnExactTreedepthOfWrongFalsely : Prop := fnExactTreedepthOfRow.holds Try.pinned (OpenSpec.ofChange fnExactTreedepthOfWrong)

/-- 'laws.FnExactTreewidthOf': WHATEVER THE INPUT: true; the input reads as it did. -/
def fnExactTreewidthOfSpec : ChangeSpec := { name := "fnExactTreewidthOf", fn := fun _ => fun
  | [d] => { results := [.lit (.bool true)], args := [d] }
  | _ => none }
def fnExactTreewidthOfRow : OpenClaim := { program := "ythblbfcloccopaa", sum := "e5945b5f7f01ea0d33dcd78221ef9f6a9903c4dc4a534895e4bdf7711b74b679", func := "loop.example/g01109/laws.FnExactTreewidthOf", spec := "fnExactTreewidthOf", unfollowed := true, recurses := true, apart := false }
def FnExactTreewidthOfSaid : Prop := fnExactTreewidthOfRow.holds Try.pinned (OpenSpec.ofChange fnExactTreewidthOfSpec)

/-- ITS FALSE NEIGHBOUR: 'it returns false'. Refute it at one input. -/
def fnExactTreewidthOfWrong : ChangeSpec := { name := "fnExactTreewidthOf", fn := fun _ => fun
  | [d] => { results := [.lit (.bool false)], args := [d] }
  | _ => none }
def FnExactTreewidthOfWrongFalsely : Prop := fnExactTreewidthOfRow.holds Try.pinned (OpenSpec.ofChange fnExactTreewidthOfWrong)

/-- 'laws.FnExactIsRanking': WHATEVER THE INPUT: true; the input reads as it did. -/
def fnExactIsRankingSpec : ChangeSpec := { name := "fnExactIsRanking", fn := fun _ => fun
  | [d1, d2] => { results := [.lit (.bool true)], args := [d1, d2] }
  | _ => none }
def fnExactIsRankingRow : OpenClaim := { program := "ythblbfcloccopaa", sum := "e5945b5f7f01ea0d33dcd78221ef9f6a9903c4dc4a534895e4bdf7711b74b679", func := "loop.example/g01109/laws.FnExactIsRanking", spec := "fnExactIsRanking", unfollowed := true, recurses := true, apart := false }
def FnExactIsRankingSaid : Prop := fnExactIsRankingRow.holds Try.pinned (OpenSpec.ofChange fnExactIsRankingSpec)

/-- ITS FALSE NEIGHBOUR: 'it returns false'. Refute it at one input. -/
def fnExactIsRankingWrong : ChangeSpec := { name := "fnExactIsRanking", fn := fun _ => fun
  | [d1, d2] => { results := [.lit (.bool false)], args := [d1, d2] }
  | _ => none }
def FnExactIsRankingWrongFalsely : Prop := fnExactIsRankingRow.holds Try.pinned (OpenSpec.ofChange fnExactIsRankingWrong)

/-- 'laws.FnExactFrontBound': WHATEVER THE INPUT: true; the input reads as it did. -/
def fnExactFrontBoundSpec : ChangeSpec := { name := "fnExactFrontBound", fn := fun _ => fun
  | [d] => { results := [.lit (.bool true)], args := [d] }
  | _ => none }
def fnExactFrontBoundRow : OpenClaim := { program := "ythblbfcloccopaa", sum := "e5945b5f7f01ea0d33dcd78221ef9f6a9903c4dc4a534895e4bdf7711b74b679", func := "loop.example/g01109/laws.FnExactFrontBound", spec := "fnExactFrontBound", apart := false }
def FnExactFrontBoundSaid : Prop := fnExactFrontBoundRow.holds Try.pinned (OpenSpec.ofChange fnExactFrontBoundSpec)

/-- ITS FALSE NEIGHBOUR: 'it returns false'. Refute it at one input. -/
def fnExactFrontBoundWrong : ChangeSpec := { name := "fnExactFrontBound", fn := fun _ => fun
  | [d] => { results := [.lit (.bool false)], args := [d] }
  | _ => none }
def FnExactFrontBoundWrongFalsely : Prop := fnExactFrontBoundRow.holds Try.pinned (OpenSpec.ofChange fnExactFrontBoundWrong)

/-- 'laws.FnExactIsStopping': WHATEVER THE INPUT: true; the input reads as it did. -/
def fnExactIsStoppingSpec : ChangeSpec := { name := "fnExactIsStopping", fn := fun _ => fun
  | [d1, d2, d3] => { results := [.lit (.bool true)], args := [d1, d2, d3] }
  | _ => none }
def fnExactIsStoppingRow : OpenClaim := { program := "ythblbfcloccopaa", sum := "e5945b5f7f01ea0d33dcd78221ef9f6a9903c4dc4a534895e4bdf7711b74b679", func := "loop.example/g01109/laws.FnExactIsStopping", spec := "fnExactIsStopping", unfollowed := true, recurses := true, apart := false }
def FnExactIsStoppingSaid : Prop := fnExactIsStoppingRow.holds Try.pinned (OpenSpec.ofChange fnExactIsStoppingSpec)

/-- ITS FALSE NEIGHBOUR: 'it returns false'. Refute it at one input. -/
def fnExactIsStoppingWrong : ChangeSpec := { name := "fnExactIsStopping", fn := fun _ => fun
  | [d1, d2, d3] => { results := [.lit (.bool false)], args := [d1, d2, d3] }
  | _ => none }
def FnExactIsStoppingWrongFalsely : Prop := fnExactIsStoppingRow.holds Try.pinned (OpenSpec.ofChange fnExactIsStoppingWrong)

/-- 'laws.FnExactIsProgram': WHATEVER THE INPUT: true; the input reads as it did. -/
def fnExactIsProgramSpec : ChangeSpec := { name := "fnExactIsProgram", fn := fun _ => fun
  | [d1, d2] => { results := [.lit (.bool true)], args := [d1, d2] }
  | _ => none }
def fnExactIsProgramRow : OpenClaim := { program := "ythblbfcloccopaa", sum := "e5945b5f7f01ea0d33dcd78221ef9f6a9903c4dc4a534895e4bdf7711b74b679", func := "loop.example/g01109/laws.FnExactIsProgram", spec := "fnExactIsProgram", apart := false }
def FnExactIsProgramSaid : Prop := fnExactIsProgramRow.holds Try.pinned (OpenSpec.ofChange fnExactIsProgramSpec)

/-- ITS FALSE NEIGHBOUR: 'it returns false'. Refute it at one input. -/
def fnExactIsProgramWrong : ChangeSpec := { name := "fnExactIsProgram", fn := fun _ => fun
  | [d1, d2] => { results := [.lit (.bool false)], args := [d1, d2] }
  | _ => none }
def FnExactIsProgramWrongFalsely : Prop := fnExactIsProgramRow.holds Try.pinned (OpenSpec.ofChange fnExactIsProgramWrong)

/-- 'laws.FnExactIsClearing': WHATEVER THE INPUT: true; the input reads as it did. -/
def fnExactIsClearingSpec : ChangeSpec := { name := "fnExactIsClearing", fn := fun _ => fun
  | [d1, d2] => { results := [.lit (.bool true)], args := [d1, d2] }
  | _ => none }
def fnExactIsClearingRow : OpenClaim := { program := "ythblbfcloccopaa", sum := "e5945b5f7f01ea0d33dcd78221ef9f6a9903c4dc4a534895e4bdf7711b74b679", func := "loop.example/g01109/laws.FnExactIsClearing", spec := "fnExactIsClearing", apart := false }
def FnExactIsClearingSaid : Prop := fnExactIsClearingRow.holds Try.pinned (OpenSpec.ofChange fnExactIsClearingSpec)

/-- ITS FALSE NEIGHBOUR: 'it returns false'. Refute it at one input. -/
def fnExactIsClearingWrong : ChangeSpec := { name := "fnExactIsClearing", fn := fun _ => fun
  | [d1, d2] => { results := [.lit (.bool false)], args := [d1, d2] }
  | _ => none }
def FnExactIsClearingWrongFalsely : Prop := fnExactIsClearingRow.holds Try.pinned (OpenSpec.ofChange fnExactIsClearingWrong)

/-- 'laws.FnExactEliminationWidth': WHATEVER THE INPUT: true; the input reads as it did. -/
def fnExactEliminationWidthSpec : ChangeSpec := { name := "fnExactEliminationWidth", fn := fun _ => fun
  | [d1, d2] => { results := [.lit (.bool true)], args := [d1, d2] }
  | _ => none }
def fnExactEliminationWidthRow : OpenClaim := { program := "ythblbfcloccopaa", sum := "e5945b5f7f01ea0d33dcd78221ef9f6a9903c4dc4a534895e4bdf7711b74b679", func := "loop.example/g01109/laws.FnExactEliminationWidth", spec := "fnExactEliminationWidth", apart := false }
def FnExactEliminationWidthSaid : Prop := fnExactEliminationWidthRow.holds Try.pinned (OpenSpec.ofChange fnExactEliminationWidthSpec)

/-- ITS FALSE NEIGHBOUR: 'it returns false'. Refute it at one input. -/
def fnExactEliminationWidthWrong : ChangeSpec := { name := "fnExactEliminationWidth", fn := fun _ => fun
  | [d1, d2] => { results := [.lit (.bool false)], args := [d1, d2] }
  | _ => none }
def FnExactEliminationWidthWrongFalsely : Prop := fnExactEliminationWidthRow.holds Try.pinned (OpenSpec.ofChange fnExactEliminationWidthWrong)

/- THE SECOND FORM. 'bulk': how many values and letters a reading holds, each counted each time it is reached (what is shared counts as often as it is met; a slice's spare places count too). A statement '..UptoSaid' is the law's where the arguments, and the package variables that the reading takes, are together of bulk at most 1048576: NARROWER than '..Said'. Prove '..Said' where nothing that the law and all that it calls make is longer than what came in: it says more and counts as full. Else prove '..UptoSaid'. A law counts once. -/
mutual
def uptoBulk {H : Type} : DataW H → Nat
  | .lit (.string bytes) => bytes.length + 1
  | .lit _ => 1
  | .nil => 1
  | .ptr d => uptoBulk d + 1
  | .slice elems spare => uptoBulkAll elems + uptoBulkAll spare + 1
  | .agg parts => uptoBulkAll parts + 1
  | .iface _ d => uptoBulk d + 1
  | .map entries => uptoBulkEntries entries + 1
  | .held _ => 1
def uptoBulkAll {H : Type} : List (DataW H) → Nat
  | [] => 0
  | d :: r => uptoBulk d + uptoBulkAll r
def uptoBulkEntries {H : Type} : List (Lit × DataW H) → Nat
  | [] => 0
  | x :: r => uptoBulkEntry x + uptoBulkEntries r
def uptoBulkEntry {H : Type} : Lit × DataW H → Nat
  | (.string bytes, d) => bytes.length + uptoBulk d + 1
  | (_, d) => uptoBulk d + 1
 end
def uptoSmall : (H : Type) → List (DataW H) → Bool := fun _ ds => decide (uptoBulkAll ds ≤ 1048576)
def OpenSpec.upto (s : _root_.Go.ChangeSpec) : _root_.Go.OpenSpec := { _root_.Go.OpenSpec.ofChange s with cond := some uptoSmall }

/-- 'laws.FnExactForestDepth', WHERE WHAT IT READS IS OF BULK AT MOST 1048576: true; the input reads as it did. -/
def fnExactForestDepthUptoRow : OpenClaim := { program := "ythblbfcloccopaa", sum := "e5945b5f7f01ea0d33dcd78221ef9f6a9903c4dc4a534895e4bdf7711b74b679", func := "loop.example/g01109/laws.FnExactForestDepth", spec := "fnExactForestDepth", apart := false, narrowed := true }
def FnExactForestDepthUptoSaid : Prop := fnExactForestDepthUptoRow.holds Try.pinned (OpenSpec.upto fnExactForestDepthSpec)

/-- 'laws.FnExactPathwidthOf', WHERE WHAT IT READS IS OF BULK AT MOST 1048576: true; the input reads as it did. -/
def fnExactPathwidthOfUptoRow : OpenClaim := { program := "ythblbfcloccopaa", sum := "e5945b5f7f01ea0d33dcd78221ef9f6a9903c4dc4a534895e4bdf7711b74b679", func := "loop.example/g01109/laws.FnExactPathwidthOf", spec := "fnExactPathwidthOf", unfollowed := true, recurses := true, apart := false, narrowed := true }
def FnExactPathwidthOfUptoSaid : Prop := fnExactPathwidthOfUptoRow.holds Try.pinned (OpenSpec.upto fnExactPathwidthOfSpec)

/-- 'laws.FnExactCutwidthOf', WHERE WHAT IT READS IS OF BULK AT MOST 1048576: true; the input reads as it did. -/
def fnExactCutwidthOfUptoRow : OpenClaim := { program := "ythblbfcloccopaa", sum := "e5945b5f7f01ea0d33dcd78221ef9f6a9903c4dc4a534895e4bdf7711b74b679", func := "loop.example/g01109/laws.FnExactCutwidthOf", spec := "fnExactCutwidthOf", apart := false, narrowed := true }
def FnExactCutwidthOfUptoSaid : Prop := fnExactCutwidthOfUptoRow.holds Try.pinned (OpenSpec.upto fnExactCutwidthOfSpec)

/-- 'laws.FnExactStayersWin', WHERE WHAT IT READS IS OF BULK AT MOST 1048576: true; the input reads as it did. -/
def fnExactStayersWinUptoRow : OpenClaim := { program := "ythblbfcloccopaa", sum := "e5945b5f7f01ea0d33dcd78221ef9f6a9903c4dc4a534895e4bdf7711b74b679", func := "loop.example/g01109/laws.FnExactStayersWin", spec := "fnExactStayersWin", recurses := true, apart := false, narrowed := true }
def FnExactStayersWinUptoSaid : Prop := fnExactStayersWinUptoRow.holds Try.pinned (OpenSpec.upto fnExactStayersWinSpec)

/-- 'laws.FnExactTreedepthOf', WHERE WHAT IT READS IS OF BULK AT MOST 1048576: true; the input reads as it did. -/
def fnExactTreedepthOfUptoRow : OpenClaim := { program := "ythblbfcloccopaa", sum := "e5945b5f7f01ea0d33dcd78221ef9f6a9903c4dc4a534895e4bdf7711b74b679", func := "loop.example/g01109/laws.FnExactTreedepthOf", spec := "fnExactTreedepthOf", apart := false, narrowed := true }
def FnExactTreedepthOfUptoSaid : Prop := fnExactTreedepthOfUptoRow.holds Try.pinned (OpenSpec.upto fnExactTreedepthOfSpec)

/-- 'laws.FnExactTreewidthOf', WHERE WHAT IT READS IS OF BULK AT MOST 1048576: true; the input reads as it did. -/
def fnExactTreewidthOfUptoRow : OpenClaim := { program := "ythblbfcloccopaa", sum := "e5945b5f7f01ea0d33dcd78221ef9f6a9903c4dc4a534895e4bdf7711b74b679", func := "loop.example/g01109/laws.FnExactTreewidthOf", spec := "fnExactTreewidthOf", unfollowed := true, recurses := true, apart := false, narrowed := true }
def FnExactTreewidthOfUptoSaid : Prop := fnExactTreewidthOfUptoRow.holds Try.pinned (OpenSpec.upto fnExactTreewidthOfSpec)

/-- 'laws.FnExactIsRanking', WHERE WHAT IT READS IS OF BULK AT MOST 1048576: true; the input reads as it did. -/
def fnExactIsRankingUptoRow : OpenClaim := { program := "ythblbfcloccopaa", sum := "e5945b5f7f01ea0d33dcd78221ef9f6a9903c4dc4a534895e4bdf7711b74b679", func := "loop.example/g01109/laws.FnExactIsRanking", spec := "fnExactIsRanking", unfollowed := true, recurses := true, apart := false, narrowed := true }
def FnExactIsRankingUptoSaid : Prop := fnExactIsRankingUptoRow.holds Try.pinned (OpenSpec.upto fnExactIsRankingSpec)

/-- 'laws.FnExactFrontBound', WHERE WHAT IT READS IS OF BULK AT MOST 1048576: true; the input reads as it did. -/
def fnExactFrontBoundUptoRow : OpenClaim := { program := "ythblbfcloccopaa", sum := "e5945b5f7f01ea0d33dcd78221ef9f6a9903c4dc4a534895e4bdf7711b74b679", func := "loop.example/g01109/laws.FnExactFrontBound", spec := "fnExactFrontBound", apart := false, narrowed := true }
def FnExactFrontBoundUptoSaid : Prop := fnExactFrontBoundUptoRow.holds Try.pinned (OpenSpec.upto fnExactFrontBoundSpec)

/-- 'laws.FnExactIsStopping', WHERE WHAT IT READS IS OF BULK AT MOST 1048576: true; the input reads as it did. -/
def fnExactIsStoppingUptoRow : OpenClaim := { program := "ythblbfcloccopaa", sum := "e5945b5f7f01ea0d33dcd78221ef9f6a9903c4dc4a534895e4bdf7711b74b679", func := "loop.example/g01109/laws.FnExactIsStopping", spec := "fnExactIsStopping", unfollowed := true, recurses := true, apart := false, narrowed := true }
def FnExactIsStoppingUptoSaid : Prop := fnExactIsStoppingUptoRow.holds Try.pinned (OpenSpec.upto fnExactIsStoppingSpec)

/-- 'laws.FnExactIsProgram', WHERE WHAT IT READS IS OF BULK AT MOST 1048576: true; the input reads as it did. -/
def fnExactIsProgramUptoRow : OpenClaim := { program := "ythblbfcloccopaa", sum := "e5945b5f7f01ea0d33dcd78221ef9f6a9903c4dc4a534895e4bdf7711b74b679", func := "loop.example/g01109/laws.FnExactIsProgram", spec := "fnExactIsProgram", apart := false, narrowed := true }
def FnExactIsProgramUptoSaid : Prop := fnExactIsProgramUptoRow.holds Try.pinned (OpenSpec.upto fnExactIsProgramSpec)

/-- 'laws.FnExactIsClearing', WHERE WHAT IT READS IS OF BULK AT MOST 1048576: true; the input reads as it did. -/
def fnExactIsClearingUptoRow : OpenClaim := { program := "ythblbfcloccopaa", sum := "e5945b5f7f01ea0d33dcd78221ef9f6a9903c4dc4a534895e4bdf7711b74b679", func := "loop.example/g01109/laws.FnExactIsClearing", spec := "fnExactIsClearing", apart := false, narrowed := true }
def FnExactIsClearingUptoSaid : Prop := fnExactIsClearingUptoRow.holds Try.pinned (OpenSpec.upto fnExactIsClearingSpec)

/-- 'laws.FnExactEliminationWidth', WHERE WHAT IT READS IS OF BULK AT MOST 1048576: true; the input reads as it did. -/
def fnExactEliminationWidthUptoRow : OpenClaim := { program := "ythblbfcloccopaa", sum := "e5945b5f7f01ea0d33dcd78221ef9f6a9903c4dc4a534895e4bdf7711b74b679", func := "loop.example/g01109/laws.FnExactEliminationWidth", spec := "fnExactEliminationWidth", apart := false, narrowed := true }
def FnExactEliminationWidthUptoSaid : Prop := fnExactEliminationWidthUptoRow.holds Try.pinned (OpenSpec.upto fnExactEliminationWidthSpec)

end Rows
end Go.Proofs.Ythblbfcloccopaa
