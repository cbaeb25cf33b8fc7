/-
  No cell of these rows narrows 'for every input' (looked for: loops, veiled, ifaces, maps, wideKeys, modest, calm, conditions, laid).
  DERIVED. THE GIVEN ROWS OF THIS SEAT. 12 by the template 'for every input the law returns true; each argument reads behind the call as it read before'; 0 by the template 'total and deterministic' (their statements: YtdhbhaaiohkpdaaTotals.lean).
  GIVEN WITH THE SEED: the statements are not yours to turn. If you find one false, say at which input.
  Laid BY PROGRAM, IN A SANDBOX (cutbox-rows.mjs): the forced cells as the released guide's own fill.sh prints them over the translation 75b1f17e802d822b… (all of the seat's roots in one cut). By AI agents, Wed Nov 11 2026. No macro, syntax, notation, axiom, sorry.
-/
import Derived.Test.YtdhbhaaiohkpdaaChecked
import GoSem.Claim
import GoSem.ClaimJoined
import GoSem.ClaimMapViews
import Derived.JoinedTies
import Derived.KernelRfl
namespace Go.Proofs.Ytdhbhaaiohkpdaa
/- THE CELL 'sum', in the pinned program and in every row, IS THE sha256 OF THE DUMP (.gsa) THAT YtdhbhaaiohkpdaaProg.lean LOADS. Nothing in Lean hashes anything: it is a label: what it is worth is what the hold of that sum in a sandbox is worth. -/
noncomputable def Try.pinned : Pinned := { name := "ytdhbhaaiohkpdaa", sum := "75b1f17e802d822b5d2a4aaa47d31a7c56bad60d50f40205a8173f15fafcc579", checked := Try.checked }
namespace Rows
def none {H : Type} : Left H := { results := [], args := [] }

/-- 'laws.FnExactFillingOf': WHATEVER THE INPUT: true; the input reads as it did. -/
def fnExactFillingOfSpec : ChangeSpec := { name := "fnExactFillingOf", fn := fun _ => fun
  | [d1, d2] => { results := [.lit (.bool true)], args := [d1, d2] }
  | _ => none }
def fnExactFillingOfRow : OpenClaim := { program := "ytdhbhaaiohkpdaa", sum := "75b1f17e802d822b5d2a4aaa47d31a7c56bad60d50f40205a8173f15fafcc579", func := "loop.example/g01109/laws.FnExactFillingOf", spec := "fnExactFillingOf", unfollowed := true, recurses := true, plainKeys := false, apart := false }
def FnExactFillingOfSaid : Prop := fnExactFillingOfRow.holds Try.pinned (OpenSpec.ofChange fnExactFillingOfSpec)

/-- ITS FALSE NEIGHBOUR: 'it returns false'. Refute it at one input. -/
def fnExactFillingOfWrong : ChangeSpec := { name := "fnExactFillingOf", fn := fun _ => fun
  | [d1, d2] => { results := [.lit (.bool false)], args := [d1, d2] }
  | _ => none }
def FnExactFillingOfWrongFalsely : Prop := fnExactFillingOfRow.holds Try.pinned (OpenSpec.ofChange fnExactFillingOfWrong)

/-- 'laws.FnExactLayoutOfBags': WHATEVER THE INPUT: true; the input reads as it did. -/
def fnExactLayoutOfBagsSpec : ChangeSpec := { name := "fnExactLayoutOfBags", fn := fun _ => fun
  | [d1, d2] => { results := [.lit (.bool true)], args := [d1, d2] }
  | _ => none }
def fnExactLayoutOfBagsRow : OpenClaim := { program := "ytdhbhaaiohkpdaa", sum := "75b1f17e802d822b5d2a4aaa47d31a7c56bad60d50f40205a8173f15fafcc579", func := "loop.example/g01109/laws.FnExactLayoutOfBags", spec := "fnExactLayoutOfBags", unfollowed := true, recurses := true, plainKeys := false, apart := false }
def FnExactLayoutOfBagsSaid : Prop := fnExactLayoutOfBagsRow.holds Try.pinned (OpenSpec.ofChange fnExactLayoutOfBagsSpec)

/-- ITS FALSE NEIGHBOUR: 'it returns false'. Refute it at one input. -/
def fnExactLayoutOfBagsWrong : ChangeSpec := { name := "fnExactLayoutOfBags", fn := fun _ => fun
  | [d1, d2] => { results := [.lit (.bool false)], args := [d1, d2] }
  | _ => none }
def FnExactLayoutOfBagsWrongFalsely : Prop := fnExactLayoutOfBagsRow.holds Try.pinned (OpenSpec.ofChange fnExactLayoutOfBagsWrong)

/-- 'laws.FnExactRankingOf': WHATEVER THE INPUT: true; the input reads as it did. -/
def fnExactRankingOfSpec : ChangeSpec := { name := "fnExactRankingOf", fn := fun _ => fun
  | [d] => { results := [.lit (.bool true)], args := [d] }
  | _ => none }
def fnExactRankingOfRow : OpenClaim := { program := "ytdhbhaaiohkpdaa", sum := "75b1f17e802d822b5d2a4aaa47d31a7c56bad60d50f40205a8173f15fafcc579", func := "loop.example/g01109/laws.FnExactRankingOf", spec := "fnExactRankingOf", unfollowed := true, recurses := true, plainKeys := false, apart := false }
def FnExactRankingOfSaid : Prop := fnExactRankingOfRow.holds Try.pinned (OpenSpec.ofChange fnExactRankingOfSpec)

/-- ITS FALSE NEIGHBOUR: 'it returns false'. Refute it at one input. -/
def fnExactRankingOfWrong : ChangeSpec := { name := "fnExactRankingOf", fn := fun _ => fun
  | [d] => { results := [.lit (.bool false)], args := [d] }
  | _ => none }
def FnExactRankingOfWrongFalsely : Prop := fnExactRankingOfRow.holds Try.pinned (OpenSpec.ofChange fnExactRankingOfWrong)

/-- 'laws.FnExactBestForest': WHATEVER THE INPUT: true; the input reads as it did. -/
def fnExactBestForestSpec : ChangeSpec := { name := "fnExactBestForest", fn := fun _ => fun
  | [d] => { results := [.lit (.bool true)], args := [d] }
  | _ => none }
def fnExactBestForestRow : OpenClaim := { program := "ytdhbhaaiohkpdaa", sum := "75b1f17e802d822b5d2a4aaa47d31a7c56bad60d50f40205a8173f15fafcc579", func := "loop.example/g01109/laws.FnExactBestForest", spec := "fnExactBestForest", unfollowed := true, recurses := true, plainKeys := false, apart := false }
def FnExactBestForestSaid : Prop := fnExactBestForestRow.holds Try.pinned (OpenSpec.ofChange fnExactBestForestSpec)

/-- ITS FALSE NEIGHBOUR: 'it returns false'. Refute it at one input. -/
def fnExactBestForestWrong : ChangeSpec := { name := "fnExactBestForest", fn := fun _ => fun
  | [d] => { results := [.lit (.bool false)], args := [d] }
  | _ => none }
def FnExactBestForestWrongFalsely : Prop := fnExactBestForestRow.holds Try.pinned (OpenSpec.ofChange fnExactBestForestWrong)

/-- 'laws.FnExactBagsOfLayout': WHATEVER THE INPUT: true; the input reads as it did. -/
def fnExactBagsOfLayoutSpec : ChangeSpec := { name := "fnExactBagsOfLayout", fn := fun _ => fun
  | [d1, d2] => { results := [.lit (.bool true)], args := [d1, d2] }
  | _ => none }
def fnExactBagsOfLayoutRow : OpenClaim := { program := "ytdhbhaaiohkpdaa", sum := "75b1f17e802d822b5d2a4aaa47d31a7c56bad60d50f40205a8173f15fafcc579", func := "loop.example/g01109/laws.FnExactBagsOfLayout", spec := "fnExactBagsOfLayout", plainKeys := false, apart := false }
def FnExactBagsOfLayoutSaid : Prop := fnExactBagsOfLayoutRow.holds Try.pinned (OpenSpec.ofChange fnExactBagsOfLayoutSpec)

/-- ITS FALSE NEIGHBOUR: 'it returns false'. Refute it at one input. -/
def fnExactBagsOfLayoutWrong : ChangeSpec := { name := "fnExactBagsOfLayout", fn := fun _ => fun
  | [d1, d2] => { results := [.lit (.bool false)], args := [d1, d2] }
  | _ => none }
def FnExactBagsOfLayoutWrongFalsely : Prop := fnExactBagsOfLayoutRow.holds Try.pinned (OpenSpec.ofChange fnExactBagsOfLayoutWrong)

/-- 'laws.FnExactBrambleCover': WHATEVER THE INPUT: true; the input reads as it did. -/
def fnExactBrambleCoverSpec : ChangeSpec := { name := "fnExactBrambleCover", fn := fun _ => fun
  | [d1, d2] => { results := [.lit (.bool true)], args := [d1, d2] }
  | _ => none }
def fnExactBrambleCoverRow : OpenClaim := { program := "ytdhbhaaiohkpdaa", sum := "75b1f17e802d822b5d2a4aaa47d31a7c56bad60d50f40205a8173f15fafcc579", func := "loop.example/g01109/laws.FnExactBrambleCover", spec := "fnExactBrambleCover", unfollowed := true, recurses := true, plainKeys := false, apart := false }
def FnExactBrambleCoverSaid : Prop := fnExactBrambleCoverRow.holds Try.pinned (OpenSpec.ofChange fnExactBrambleCoverSpec)

/-- ITS FALSE NEIGHBOUR: 'it returns false'. Refute it at one input. -/
def fnExactBrambleCoverWrong : ChangeSpec := { name := "fnExactBrambleCover", fn := fun _ => fun
  | [d1, d2] => { results := [.lit (.bool false)], args := [d1, d2] }
  | _ => none }
def FnExactBrambleCoverWrongFalsely : Prop := fnExactBrambleCoverRow.holds Try.pinned (OpenSpec.ofChange fnExactBrambleCoverWrong)

/-- 'laws.FnExactRunProgram': WHATEVER THE INPUT: true; the input reads as it did. -/
def fnExactRunProgramSpec : ChangeSpec := { name := "fnExactRunProgram", fn := fun _ => fun
  | [d1, d2] => { results := [.lit (.bool true)], args := [d1, d2] }
  | _ => none }
def fnExactRunProgramRow : OpenClaim := { program := "ytdhbhaaiohkpdaa", sum := "75b1f17e802d822b5d2a4aaa47d31a7c56bad60d50f40205a8173f15fafcc579", func := "loop.example/g01109/laws.FnExactRunProgram", spec := "fnExactRunProgram", plainKeys := false, apart := false }
def FnExactRunProgramSaid : Prop := fnExactRunProgramRow.holds Try.pinned (OpenSpec.ofChange fnExactRunProgramSpec)

/-- ITS FALSE NEIGHBOUR: 'it returns false'. Refute it at one input. -/
def fnExactRunProgramWrong : ChangeSpec := { name := "fnExactRunProgram", fn := fun _ => fun
  | [d1, d2] => { results := [.lit (.bool false)], args := [d1, d2] }
  | _ => none }
def FnExactRunProgramWrongFalsely : Prop := fnExactRunProgramRow.holds Try.pinned (OpenSpec.ofChange fnExactRunProgramWrong)

/-- 'laws.FnExactDecompositionOf': WHATEVER THE INPUT: true; the input reads as it did. -/
def fnExactDecompositionOfSpec : ChangeSpec := { name := "fnExactDecompositionOf", fn := fun _ => fun
  | [d1, d2] => { results := [.lit (.bool true)], args := [d1, d2] }
  | _ => none }
def fnExactDecompositionOfRow : OpenClaim := { program := "ytdhbhaaiohkpdaa", sum := "75b1f17e802d822b5d2a4aaa47d31a7c56bad60d50f40205a8173f15fafcc579", func := "loop.example/g01109/laws.FnExactDecompositionOf", spec := "fnExactDecompositionOf", unfollowed := true, recurses := true, plainKeys := false, apart := false }
def FnExactDecompositionOfSaid : Prop := fnExactDecompositionOfRow.holds Try.pinned (OpenSpec.ofChange fnExactDecompositionOfSpec)

/-- ITS FALSE NEIGHBOUR: 'it returns false'. Refute it at one input. -/
def fnExactDecompositionOfWrong : ChangeSpec := { name := "fnExactDecompositionOf", fn := fun _ => fun
  | [d1, d2] => { results := [.lit (.bool false)], args := [d1, d2] }
  | _ => none }
def FnExactDecompositionOfWrongFalsely : Prop := fnExactDecompositionOfRow.holds Try.pinned (OpenSpec.ofChange fnExactDecompositionOfWrong)

/-- 'laws.FnExactShortestSearch': WHATEVER THE INPUT: true; the input reads as it did. -/
def fnExactShortestSearchSpec : ChangeSpec := { name := "fnExactShortestSearch", fn := fun _ => fun
  | [d1, d2] => { results := [.lit (.bool true)], args := [d1, d2] }
  | _ => none }
def fnExactShortestSearchRow : OpenClaim := { program := "ytdhbhaaiohkpdaa", sum := "75b1f17e802d822b5d2a4aaa47d31a7c56bad60d50f40205a8173f15fafcc579", func := "loop.example/g01109/laws.FnExactShortestSearch", spec := "fnExactShortestSearch", plainKeys := false, apart := false }
def FnExactShortestSearchSaid : Prop := fnExactShortestSearchRow.holds Try.pinned (OpenSpec.ofChange fnExactShortestSearchSpec)

/-- ITS FALSE NEIGHBOUR: 'it returns false'. Refute it at one input. -/
def fnExactShortestSearchWrong : ChangeSpec := { name := "fnExactShortestSearch", fn := fun _ => fun
  | [d1, d2] => { results := [.lit (.bool false)], args := [d1, d2] }
  | _ => none }
def FnExactShortestSearchWrongFalsely : Prop := fnExactShortestSearchRow.holds Try.pinned (OpenSpec.ofChange fnExactShortestSearchWrong)

/-- 'laws.FnExactFindDepthProof': WHATEVER THE INPUT: true; the input reads as it did. -/
def fnExactFindDepthProofSpec : ChangeSpec := { name := "fnExactFindDepthProof", fn := fun _ => fun
  | [d] => { results := [.lit (.bool true)], args := [d] }
  | _ => none }
def fnExactFindDepthProofRow : OpenClaim := { program := "ytdhbhaaiohkpdaa", sum := "75b1f17e802d822b5d2a4aaa47d31a7c56bad60d50f40205a8173f15fafcc579", func := "loop.example/g01109/laws.FnExactFindDepthProof", spec := "fnExactFindDepthProof", plainKeys := false, apart := false }
def FnExactFindDepthProofSaid : Prop := fnExactFindDepthProofRow.holds Try.pinned (OpenSpec.ofChange fnExactFindDepthProofSpec)

/-- ITS FALSE NEIGHBOUR: 'it returns false'. Refute it at one input. -/
def fnExactFindDepthProofWrong : ChangeSpec := { name := "fnExactFindDepthProof", fn := fun _ => fun
  | [d] => { results := [.lit (.bool false)], args := [d] }
  | _ => none }
def FnExactFindDepthProofWrongFalsely : Prop := fnExactFindDepthProofRow.holds Try.pinned (OpenSpec.ofChange fnExactFindDepthProofWrong)

/-- 'laws.FnExactSearchNumber': WHATEVER THE INPUT: true; the input reads as it did. -/
def fnExactSearchNumberSpec : ChangeSpec := { name := "fnExactSearchNumber", fn := fun _ => fun
  | [d] => { results := [.lit (.bool true)], args := [d] }
  | _ => none }
def fnExactSearchNumberRow : OpenClaim := { program := "ytdhbhaaiohkpdaa", sum := "75b1f17e802d822b5d2a4aaa47d31a7c56bad60d50f40205a8173f15fafcc579", func := "loop.example/g01109/laws.FnExactSearchNumber", spec := "fnExactSearchNumber", unfollowed := true, recurses := true, plainKeys := false, apart := false }
def FnExactSearchNumberSaid : Prop := fnExactSearchNumberRow.holds Try.pinned (OpenSpec.ofChange fnExactSearchNumberSpec)

/-- ITS FALSE NEIGHBOUR: 'it returns false'. Refute it at one input. -/
def fnExactSearchNumberWrong : ChangeSpec := { name := "fnExactSearchNumber", fn := fun _ => fun
  | [d] => { results := [.lit (.bool false)], args := [d] }
  | _ => none }
def FnExactSearchNumberWrongFalsely : Prop := fnExactSearchNumberRow.holds Try.pinned (OpenSpec.ofChange fnExactSearchNumberWrong)

/-- 'laws.FnExactHelicoptersWin': WHATEVER THE INPUT: true; the input reads as it did. -/
def fnExactHelicoptersWinSpec : ChangeSpec := { name := "fnExactHelicoptersWin", fn := fun _ => fun
  | [d1, d2] => { results := [.lit (.bool true)], args := [d1, d2] }
  | _ => none }
def fnExactHelicoptersWinRow : OpenClaim := { program := "ytdhbhaaiohkpdaa", sum := "75b1f17e802d822b5d2a4aaa47d31a7c56bad60d50f40205a8173f15fafcc579", func := "loop.example/g01109/laws.FnExactHelicoptersWin", spec := "fnExactHelicoptersWin", unfollowed := true, recurses := true, plainKeys := false, apart := false }
def FnExactHelicoptersWinSaid : Prop := fnExactHelicoptersWinRow.holds Try.pinned (OpenSpec.ofChange fnExactHelicoptersWinSpec)

/-- ITS FALSE NEIGHBOUR: 'it returns false'. Refute it at one input. -/
def fnExactHelicoptersWinWrong : ChangeSpec := { name := "fnExactHelicoptersWin", fn := fun _ => fun
  | [d1, d2] => { results := [.lit (.bool false)], args := [d1, d2] }
  | _ => none }
def FnExactHelicoptersWinWrongFalsely : Prop := fnExactHelicoptersWinRow.holds Try.pinned (OpenSpec.ofChange fnExactHelicoptersWinWrong)

/- THE SECOND FORM. 'bulk': how many values and letters a reading holds, each counted each time it is reached (what is shared counts as often as it is met; a slice's spare places count too). A statement '..UptoSaid' is the law's where the arguments, and the package variables that the reading takes, are together of bulk at most 1048576: NARROWER than '..Said'. Prove '..Said' where nothing that the law and all that it calls make is longer than what came in: it says more and counts as full. Else prove '..UptoSaid'. A law counts once. -/
mutual
def uptoBulk {H : Type} : DataW H → Nat
  | .lit (.string bytes) => bytes.length + 1
  | .lit _ => 1
  | .nil => 1
  | .ptr d => uptoBulk d + 1
  | .slice elems spare => uptoBulkAll elems + uptoBulkAll spare + 1
  | .agg parts => uptoBulkAll parts + 1
  | .iface _ d => uptoBulk d + 1
  | .map entries => uptoBulkEntries entries + 1
  | .held _ => 1
def uptoBulkAll {H : Type} : List (DataW H) → Nat
  | [] => 0
  | d :: r => uptoBulk d + uptoBulkAll r
def uptoBulkEntries {H : Type} : List (Lit × DataW H) → Nat
  | [] => 0
  | x :: r => uptoBulkEntry x + uptoBulkEntries r
def uptoBulkEntry {H : Type} : Lit × DataW H → Nat
  | (.string bytes, d) => bytes.length + uptoBulk d + 1
  | (_, d) => uptoBulk d + 1
 end
def uptoSmall : (H : Type) → List (DataW H) → Bool := fun _ ds => decide (uptoBulkAll ds ≤ 1048576)
def OpenSpec.upto (s : _root_.Go.ChangeSpec) : _root_.Go.OpenSpec := { _root_.Go.OpenSpec.ofChange s with cond := some uptoSmall }

/-- 'laws.FnExactFillingOf', WHERE WHAT IT READS IS OF BULK AT MOST 1048576: true; the input reads as it did. -/
def fnExactFillingOfUptoRow : OpenClaim := { program := "ytdhbhaaiohkpdaa", sum := "75b1f17e802d822b5d2a4aaa47d31a7c56bad60d50f40205a8173f15fafcc579", func := "loop.example/g01109/laws.FnExactFillingOf", spec := "fnExactFillingOf", unfollowed := true, recurses := true, plainKeys := false, apart := false, narrowed := true }
def FnExactFillingOfUptoSaid : Prop := fnExactFillingOfUptoRow.holds Try.pinned (OpenSpec.upto fnExactFillingOfSpec)

/-- 'laws.FnExactLayoutOfBags', WHERE WHAT IT READS IS OF BULK AT MOST 1048576: true; the input reads as it did. -/
def fnExactLayoutOfBagsUptoRow : OpenClaim := { program := "ytdhbhaaiohkpdaa", sum := "75b1f17e802d822b5d2a4aaa47d31a7c56bad60d50f40205a8173f15fafcc579", func := "loop.example/g01109/laws.FnExactLayoutOfBags", spec := "fnExactLayoutOfBags", unfollowed := true, recurses := true, plainKeys := false, apart := false, narrowed := true }
def FnExactLayoutOfBagsUptoSaid : Prop := fnExactLayoutOfBagsUptoRow.holds Try.pinned (OpenSpec.upto fnExactLayoutOfBagsSpec)

/-- 'laws.FnExactRankingOf', WHERE WHAT IT READS IS OF BULK AT MOST 1048576: true; the input reads as it did. -/
def fnExactRankingOfUptoRow : OpenClaim := { program := "ytdhbhaaiohkpdaa", sum := "75b1f17e802d822b5d2a4aaa47d31a7c56bad60d50f40205a8173f15fafcc579", func := "loop.example/g01109/laws.FnExactRankingOf", spec := "fnExactRankingOf", unfollowed := true, recurses := true, plainKeys := false, apart := false, narrowed := true }
def FnExactRankingOfUptoSaid : Prop := fnExactRankingOfUptoRow.holds Try.pinned (OpenSpec.upto fnExactRankingOfSpec)

/-- 'laws.FnExactBestForest', WHERE WHAT IT READS IS OF BULK AT MOST 1048576: true; the input reads as it did. -/
def fnExactBestForestUptoRow : OpenClaim := { program := "ytdhbhaaiohkpdaa", sum := "75b1f17e802d822b5d2a4aaa47d31a7c56bad60d50f40205a8173f15fafcc579", func := "loop.example/g01109/laws.FnExactBestForest", spec := "fnExactBestForest", unfollowed := true, recurses := true, plainKeys := false, apart := false, narrowed := true }
def FnExactBestForestUptoSaid : Prop := fnExactBestForestUptoRow.holds Try.pinned (OpenSpec.upto fnExactBestForestSpec)

/-- 'laws.FnExactBagsOfLayout', WHERE WHAT IT READS IS OF BULK AT MOST 1048576: true; the input reads as it did. -/
def fnExactBagsOfLayoutUptoRow : OpenClaim := { program := "ytdhbhaaiohkpdaa", sum := "75b1f17e802d822b5d2a4aaa47d31a7c56bad60d50f40205a8173f15fafcc579", func := "loop.example/g01109/laws.FnExactBagsOfLayout", spec := "fnExactBagsOfLayout", plainKeys := false, apart := false, narrowed := true }
def FnExactBagsOfLayoutUptoSaid : Prop := fnExactBagsOfLayoutUptoRow.holds Try.pinned (OpenSpec.upto fnExactBagsOfLayoutSpec)

/-- 'laws.FnExactBrambleCover', WHERE WHAT IT READS IS OF BULK AT MOST 1048576: true; the input reads as it did. -/
def fnExactBrambleCoverUptoRow : OpenClaim := { program := "ytdhbhaaiohkpdaa", sum := "75b1f17e802d822b5d2a4aaa47d31a7c56bad60d50f40205a8173f15fafcc579", func := "loop.example/g01109/laws.FnExactBrambleCover", spec := "fnExactBrambleCover", unfollowed := true, recurses := true, plainKeys := false, apart := false, narrowed := true }
def FnExactBrambleCoverUptoSaid : Prop := fnExactBrambleCoverUptoRow.holds Try.pinned (OpenSpec.upto fnExactBrambleCoverSpec)

/-- 'laws.FnExactRunProgram', WHERE WHAT IT READS IS OF BULK AT MOST 1048576: true; the input reads as it did. -/
def fnExactRunProgramUptoRow : OpenClaim := { program := "ytdhbhaaiohkpdaa", sum := "75b1f17e802d822b5d2a4aaa47d31a7c56bad60d50f40205a8173f15fafcc579", func := "loop.example/g01109/laws.FnExactRunProgram", spec := "fnExactRunProgram", plainKeys := false, apart := false, narrowed := true }
def FnExactRunProgramUptoSaid : Prop := fnExactRunProgramUptoRow.holds Try.pinned (OpenSpec.upto fnExactRunProgramSpec)

/-- 'laws.FnExactDecompositionOf', WHERE WHAT IT READS IS OF BULK AT MOST 1048576: true; the input reads as it did. -/
def fnExactDecompositionOfUptoRow : OpenClaim := { program := "ytdhbhaaiohkpdaa", sum := "75b1f17e802d822b5d2a4aaa47d31a7c56bad60d50f40205a8173f15fafcc579", func := "loop.example/g01109/laws.FnExactDecompositionOf", spec := "fnExactDecompositionOf", unfollowed := true, recurses := true, plainKeys := false, apart := false, narrowed := true }
def FnExactDecompositionOfUptoSaid : Prop := fnExactDecompositionOfUptoRow.holds Try.pinned (OpenSpec.upto fnExactDecompositionOfSpec)

/-- 'laws.FnExactShortestSearch', WHERE WHAT IT READS IS OF BULK AT MOST 1048576: true; the input reads as it did. -/
def fnExactShortestSearchUptoRow : OpenClaim := { program := "ytdhbhaaiohkpdaa", sum := "75b1f17e802d822b5d2a4aaa47d31a7c56bad60d50f40205a8173f15fafcc579", func := "loop.example/g01109/laws.FnExactShortestSearch", spec := "fnExactShortestSearch", plainKeys := false, apart := false, narrowed := true }
def FnExactShortestSearchUptoSaid : Prop := fnExactShortestSearchUptoRow.holds Try.pinned (OpenSpec.upto fnExactShortestSearchSpec)

/-- 'laws.FnExactFindDepthProof', WHERE WHAT IT READS IS OF BULK AT MOST 1048576: true; the input reads as it did. -/
def fnExactFindDepthProofUptoRow : OpenClaim := { program := "ytdhbhaaiohkpdaa", sum := "75b1f17e802d822b5d2a4aaa47d31a7c56bad60d50f40205a8173f15fafcc579", func := "loop.example/g01109/laws.FnExactFindDepthProof", spec := "fnExactFindDepthProof", plainKeys := false, apart := false, narrowed := true }
def FnExactFindDepthProofUptoSaid : Prop := fnExactFindDepthProofUptoRow.holds Try.pinned (OpenSpec.upto fnExactFindDepthProofSpec)

/-- 'laws.FnExactSearchNumber', WHERE WHAT IT READS IS OF BULK AT MOST 1048576: true; the input reads as it did. -/
def fnExactSearchNumberUptoRow : OpenClaim := { program := "ytdhbhaaiohkpdaa", sum := "75b1f17e802d822b5d2a4aaa47d31a7c56bad60d50f40205a8173f15fafcc579", func := "loop.example/g01109/laws.FnExactSearchNumber", spec := "fnExactSearchNumber", unfollowed := true, recurses := true, plainKeys := false, apart := false, narrowed := true }
def FnExactSearchNumberUptoSaid : Prop := fnExactSearchNumberUptoRow.holds Try.pinned (OpenSpec.upto fnExactSearchNumberSpec)

/-- 'laws.FnExactHelicoptersWin', WHERE WHAT IT READS IS OF BULK AT MOST 1048576: true; the input reads as it did. -/
def fnExactHelicoptersWinUptoRow : OpenClaim := { program := "ytdhbhaaiohkpdaa", sum := "75b1f17e802d822b5d2a4aaa47d31a7c56bad60d50f40205a8173f15fafcc579", func := "loop.example/g01109/laws.FnExactHelicoptersWin", spec := "fnExactHelicoptersWin", unfollowed := true, recurses := true, plainKeys := false, apart := false, narrowed := true }
def FnExactHelicoptersWinUptoSaid : Prop := fnExactHelicoptersWinUptoRow.holds Try.pinned (OpenSpec.upto fnExactHelicoptersWinSpec)

end Rows
end Go.Proofs.Ytdhbhaaiohkpdaa
