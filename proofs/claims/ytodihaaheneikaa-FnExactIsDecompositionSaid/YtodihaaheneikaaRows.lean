/-
  No cell of these rows narrows 'for every input' (looked for: loops, veiled, ifaces, maps, wideKeys, modest, calm, conditions, laid).
  DERIVED. THE GIVEN ROWS OF THIS SEAT. 8 by the template 'for every input the law returns true; each argument reads behind the call as it read before'; 0 by the template 'total and deterministic' (their statements: YtodihaaheneikaaTotals.lean).
  GIVEN WITH THE SEED: the statements are not yours to turn. If you find one false, say at which input.
  Laid BY PROGRAM, IN A SANDBOX (cutbox-rows.mjs): the forced cells as the released guide's own fill.sh prints them over the translation bc3af70904eed2e3… (all of the seat's roots in one cut). By AI agents, Wed Nov 11 2026. No macro, syntax, notation, axiom, sorry.
-/
import Derived.Test.YtodihaaheneikaaChecked
import GoSem.Claim
import GoSem.ClaimJoined
import GoSem.ClaimMapViews
import Derived.JoinedTies
import Derived.KernelRfl
namespace Go.Proofs.Ytodihaaheneikaa
/- THE CELL 'sum', in the pinned program and in every row, IS THE sha256 OF THE DUMP (.gsa) THAT YtodihaaheneikaaProg.lean LOADS. Nothing in Lean hashes anything: it is a label: what it is worth is what the hold of that sum in a sandbox is worth. -/
noncomputable def Try.pinned : Pinned := { name := "ytodihaaheneikaa", sum := "bc3af70904eed2e3476c92de2acae294313154998fd6ad2587bab339e3d622d9", checked := Try.checked }
namespace Rows
def none {H : Type} : Left H := { results := [], args := [] }

/-- 'laws.FnExactIsSteady': WHATEVER THE INPUT: true; the input reads as it did. -/
def fnExactIsSteadySpec : ChangeSpec := { name := "fnExactIsSteady", fn := fun _ => fun
  | [d1, d2] => { results := [.lit (.bool true)], args := [d1, d2] }
  | _ => none }
def fnExactIsSteadyRow : OpenClaim := { program := "ytodihaaheneikaa", sum := "bc3af70904eed2e3476c92de2acae294313154998fd6ad2587bab339e3d622d9", func := "loop.example/g01109/laws.FnExactIsSteady", spec := "fnExactIsSteady", apart := false }
def FnExactIsSteadySaid : Prop := fnExactIsSteadyRow.holds Try.pinned (OpenSpec.ofChange fnExactIsSteadySpec)

/-- ITS FALSE NEIGHBOUR: 'it returns false'. Refute it at one input. -/
def fnExactIsSteadyWrong : ChangeSpec := { name := "fnExactIsSteady", fn := fun _ => fun
  | [d1, d2] => { results := [.lit (.bool false)], args := [d1, d2] }
  | _ => none }
def FnExactIsSteadyWrongFalsely : Prop := fnExactIsSteadyRow.holds Try.pinned (OpenSpec.ofChange fnExactIsSteadyWrong)

/-- 'laws.FnExactSearchersUsed': WHATEVER THE INPUT: true; the input reads as it did. -/
def fnExactSearchersUsedSpec : ChangeSpec := { name := "fnExactSearchersUsed", fn := fun _ => fun
  | [d1, d2] => { results := [.lit (.bool true)], args := [d1, d2] }
  | _ => none }
def fnExactSearchersUsedRow : OpenClaim := { program := "ytodihaaheneikaa", sum := "bc3af70904eed2e3476c92de2acae294313154998fd6ad2587bab339e3d622d9", func := "loop.example/g01109/laws.FnExactSearchersUsed", spec := "fnExactSearchersUsed", apart := false }
def FnExactSearchersUsedSaid : Prop := fnExactSearchersUsedRow.holds Try.pinned (OpenSpec.ofChange fnExactSearchersUsedSpec)

/-- ITS FALSE NEIGHBOUR: 'it returns false'. Refute it at one input. -/
def fnExactSearchersUsedWrong : ChangeSpec := { name := "fnExactSearchersUsed", fn := fun _ => fun
  | [d1, d2] => { results := [.lit (.bool false)], args := [d1, d2] }
  | _ => none }
def FnExactSearchersUsedWrongFalsely : Prop := fnExactSearchersUsedRow.holds Try.pinned (OpenSpec.ofChange fnExactSearchersUsedWrong)

/-- 'laws.FnExactIsPathDecomposition': WHATEVER THE INPUT: true; the input reads as it did. -/
def fnExactIsPathDecompositionSpec : ChangeSpec := { name := "fnExactIsPathDecomposition", fn := fun _ => fun
  | [d1, d2] => { results := [.lit (.bool true)], args := [d1, d2] }
  | _ => none }
def fnExactIsPathDecompositionRow : OpenClaim := { program := "ytodihaaheneikaa", sum := "bc3af70904eed2e3476c92de2acae294313154998fd6ad2587bab339e3d622d9", func := "loop.example/g01109/laws.FnExactIsPathDecomposition", spec := "fnExactIsPathDecomposition", unfollowed := true, recurses := true, apart := false }
def FnExactIsPathDecompositionSaid : Prop := fnExactIsPathDecompositionRow.holds Try.pinned (OpenSpec.ofChange fnExactIsPathDecompositionSpec)

/-- ITS FALSE NEIGHBOUR: 'it returns false'. Refute it at one input. -/
def fnExactIsPathDecompositionWrong : ChangeSpec := { name := "fnExactIsPathDecomposition", fn := fun _ => fun
  | [d1, d2] => { results := [.lit (.bool false)], args := [d1, d2] }
  | _ => none }
def FnExactIsPathDecompositionWrongFalsely : Prop := fnExactIsPathDecompositionRow.holds Try.pinned (OpenSpec.ofChange fnExactIsPathDecompositionWrong)

/-- 'laws.FnExactIsBramble': WHATEVER THE INPUT: true; the input reads as it did. -/
def fnExactIsBrambleSpec : ChangeSpec := { name := "fnExactIsBramble", fn := fun _ => fun
  | [d1, d2] => { results := [.lit (.bool true)], args := [d1, d2] }
  | _ => none }
def fnExactIsBrambleRow : OpenClaim := { program := "ytodihaaheneikaa", sum := "bc3af70904eed2e3476c92de2acae294313154998fd6ad2587bab339e3d622d9", func := "loop.example/g01109/laws.FnExactIsBramble", spec := "fnExactIsBramble", unfollowed := true, recurses := true, apart := false }
def FnExactIsBrambleSaid : Prop := fnExactIsBrambleRow.holds Try.pinned (OpenSpec.ofChange fnExactIsBrambleSpec)

/-- ITS FALSE NEIGHBOUR: 'it returns false'. Refute it at one input. -/
def fnExactIsBrambleWrong : ChangeSpec := { name := "fnExactIsBramble", fn := fun _ => fun
  | [d1, d2] => { results := [.lit (.bool false)], args := [d1, d2] }
  | _ => none }
def FnExactIsBrambleWrongFalsely : Prop := fnExactIsBrambleRow.holds Try.pinned (OpenSpec.ofChange fnExactIsBrambleWrong)

/-- 'laws.FnExactIsDecomposition': WHATEVER THE INPUT: true; the input reads as it did. -/
def fnExactIsDecompositionSpec : ChangeSpec := { name := "fnExactIsDecomposition", fn := fun _ => fun
  | [d1, d2] => { results := [.lit (.bool true)], args := [d1, d2] }
  | _ => none }
def fnExactIsDecompositionRow : OpenClaim := { program := "ytodihaaheneikaa", sum := "bc3af70904eed2e3476c92de2acae294313154998fd6ad2587bab339e3d622d9", func := "loop.example/g01109/laws.FnExactIsDecomposition", spec := "fnExactIsDecomposition", unfollowed := true, recurses := true, apart := false }
def FnExactIsDecompositionSaid : Prop := fnExactIsDecompositionRow.holds Try.pinned (OpenSpec.ofChange fnExactIsDecompositionSpec)

/-- ITS FALSE NEIGHBOUR: 'it returns false'. Refute it at one input. -/
def fnExactIsDecompositionWrong : ChangeSpec := { name := "fnExactIsDecomposition", fn := fun _ => fun
  | [d1, d2] => { results := [.lit (.bool false)], args := [d1, d2] }
  | _ => none }
def FnExactIsDecompositionWrongFalsely : Prop := fnExactIsDecompositionRow.holds Try.pinned (OpenSpec.ofChange fnExactIsDecompositionWrong)

/-- 'laws.FnExactDecompositionWidth': WHATEVER THE INPUT: true; the input reads as it did. -/
def fnExactDecompositionWidthSpec : ChangeSpec := { name := "fnExactDecompositionWidth", fn := fun _ => fun
  | [d1, d2] => { results := [.lit (.bool true)], args := [d1, d2] }
  | _ => none }
def fnExactDecompositionWidthRow : OpenClaim := { program := "ytodihaaheneikaa", sum := "bc3af70904eed2e3476c92de2acae294313154998fd6ad2587bab339e3d622d9", func := "loop.example/g01109/laws.FnExactDecompositionWidth", spec := "fnExactDecompositionWidth", unfollowed := true, recurses := true, apart := false }
def FnExactDecompositionWidthSaid : Prop := fnExactDecompositionWidthRow.holds Try.pinned (OpenSpec.ofChange fnExactDecompositionWidthSpec)

/-- ITS FALSE NEIGHBOUR: 'it returns false'. Refute it at one input. -/
def fnExactDecompositionWidthWrong : ChangeSpec := { name := "fnExactDecompositionWidth", fn := fun _ => fun
  | [d1, d2] => { results := [.lit (.bool false)], args := [d1, d2] }
  | _ => none }
def FnExactDecompositionWidthWrongFalsely : Prop := fnExactDecompositionWidthRow.holds Try.pinned (OpenSpec.ofChange fnExactDecompositionWidthWrong)

/-- 'laws.FnExactIsDepthProof': WHATEVER THE INPUT: true; the input reads as it did. -/
def fnExactIsDepthProofSpec : ChangeSpec := { name := "fnExactIsDepthProof", fn := fun _ => fun
  | [d1, d2] => { results := [.lit (.bool true)], args := [d1, d2] }
  | _ => none }
def fnExactIsDepthProofRow : OpenClaim := { program := "ytodihaaheneikaa", sum := "bc3af70904eed2e3476c92de2acae294313154998fd6ad2587bab339e3d622d9", func := "loop.example/g01109/laws.FnExactIsDepthProof", spec := "fnExactIsDepthProof", apart := false }
def FnExactIsDepthProofSaid : Prop := fnExactIsDepthProofRow.holds Try.pinned (OpenSpec.ofChange fnExactIsDepthProofSpec)

/-- ITS FALSE NEIGHBOUR: 'it returns false'. Refute it at one input. -/
def fnExactIsDepthProofWrong : ChangeSpec := { name := "fnExactIsDepthProof", fn := fun _ => fun
  | [d1, d2] => { results := [.lit (.bool false)], args := [d1, d2] }
  | _ => none }
def FnExactIsDepthProofWrongFalsely : Prop := fnExactIsDepthProofRow.holds Try.pinned (OpenSpec.ofChange fnExactIsDepthProofWrong)

/-- 'laws.FnExactHelicoptersWin': WHATEVER THE INPUT: true; the input reads as it did. -/
def fnExactHelicoptersWinSpec : ChangeSpec := { name := "fnExactHelicoptersWin", fn := fun _ => fun
  | [d1, d2] => { results := [.lit (.bool true)], args := [d1, d2] }
  | _ => none }
def fnExactHelicoptersWinRow : OpenClaim := { program := "ytodihaaheneikaa", sum := "bc3af70904eed2e3476c92de2acae294313154998fd6ad2587bab339e3d622d9", func := "loop.example/g01109/laws.FnExactHelicoptersWin", spec := "fnExactHelicoptersWin", unfollowed := true, recurses := true, apart := false }
def FnExactHelicoptersWinSaid : Prop := fnExactHelicoptersWinRow.holds Try.pinned (OpenSpec.ofChange fnExactHelicoptersWinSpec)

/-- ITS FALSE NEIGHBOUR: 'it returns false'. Refute it at one input. -/
def fnExactHelicoptersWinWrong : ChangeSpec := { name := "fnExactHelicoptersWin", fn := fun _ => fun
  | [d1, d2] => { results := [.lit (.bool false)], args := [d1, d2] }
  | _ => none }
def FnExactHelicoptersWinWrongFalsely : Prop := fnExactHelicoptersWinRow.holds Try.pinned (OpenSpec.ofChange fnExactHelicoptersWinWrong)

/- THE SECOND FORM. 'bulk': how many values and letters a reading holds, each counted each time it is reached (what is shared counts as often as it is met; a slice's spare places count too). A statement '..UptoSaid' is the law's where the arguments, and the package variables that the reading takes, are together of bulk at most 1048576: NARROWER than '..Said'. Prove '..Said' where nothing that the law and all that it calls make is longer than what came in: it says more and counts as full. Else prove '..UptoSaid'. A law counts once. -/
mutual
def uptoBulk {H : Type} : DataW H → Nat
  | .lit (.string bytes) => bytes.length + 1
  | .lit _ => 1
  | .nil => 1
  | .ptr d => uptoBulk d + 1
  | .slice elems spare => uptoBulkAll elems + uptoBulkAll spare + 1
  | .agg parts => uptoBulkAll parts + 1
  | .iface _ d => uptoBulk d + 1
  | .map entries => uptoBulkEntries entries + 1
  | .held _ => 1
def uptoBulkAll {H : Type} : List (DataW H) → Nat
  | [] => 0
  | d :: r => uptoBulk d + uptoBulkAll r
def uptoBulkEntries {H : Type} : List (Lit × DataW H) → Nat
  | [] => 0
  | x :: r => uptoBulkEntry x + uptoBulkEntries r
def uptoBulkEntry {H : Type} : Lit × DataW H → Nat
  | (.string bytes, d) => bytes.length + uptoBulk d + 1
  | (_, d) => uptoBulk d + 1
 end
def uptoSmall : (H : Type) → List (DataW H) → Bool := fun _ ds => decide (uptoBulkAll ds ≤ 1048576)
def OpenSpec.upto (s : _root_.Go.ChangeSpec) : _root_.Go.OpenSpec := { _root_.Go.OpenSpec.ofChange s with cond := some uptoSmall }

/-- 'laws.FnExactIsSteady', WHERE WHAT IT READS IS OF BULK AT MOST 1048576: true; the input reads as it did. -/
def fnExactIsSteadyUptoRow : OpenClaim := { program := "ytodihaaheneikaa", sum := "bc3af70904eed2e3476c92de2acae294313154998fd6ad2587bab339e3d622d9", func := "loop.example/g01109/laws.FnExactIsSteady", spec := "fnExactIsSteady", apart := false, narrowed := true }
def FnExactIsSteadyUptoSaid : Prop := fnExactIsSteadyUptoRow.holds Try.pinned (OpenSpec.upto fnExactIsSteadySpec)

/-- 'laws.FnExactSearchersUsed', WHERE WHAT IT READS IS OF BULK AT MOST 1048576: true; the input reads as it did. -/
def fnExactSearchersUsedUptoRow : OpenClaim := { program := "ytodihaaheneikaa", sum := "bc3af70904eed2e3476c92de2acae294313154998fd6ad2587bab339e3d622d9", func := "loop.example/g01109/laws.FnExactSearchersUsed", spec := "fnExactSearchersUsed", apart := false, narrowed := true }
def FnExactSearchersUsedUptoSaid : Prop := fnExactSearchersUsedUptoRow.holds Try.pinned (OpenSpec.upto fnExactSearchersUsedSpec)

/-- 'laws.FnExactIsPathDecomposition', WHERE WHAT IT READS IS OF BULK AT MOST 1048576: true; the input reads as it did. -/
def fnExactIsPathDecompositionUptoRow : OpenClaim := { program := "ytodihaaheneikaa", sum := "bc3af70904eed2e3476c92de2acae294313154998fd6ad2587bab339e3d622d9", func := "loop.example/g01109/laws.FnExactIsPathDecomposition", spec := "fnExactIsPathDecomposition", unfollowed := true, recurses := true, apart := false, narrowed := true }
def FnExactIsPathDecompositionUptoSaid : Prop := fnExactIsPathDecompositionUptoRow.holds Try.pinned (OpenSpec.upto fnExactIsPathDecompositionSpec)

/-- 'laws.FnExactIsBramble', WHERE WHAT IT READS IS OF BULK AT MOST 1048576: true; the input reads as it did. -/
def fnExactIsBrambleUptoRow : OpenClaim := { program := "ytodihaaheneikaa", sum := "bc3af70904eed2e3476c92de2acae294313154998fd6ad2587bab339e3d622d9", func := "loop.example/g01109/laws.FnExactIsBramble", spec := "fnExactIsBramble", unfollowed := true, recurses := true, apart := false, narrowed := true }
def FnExactIsBrambleUptoSaid : Prop := fnExactIsBrambleUptoRow.holds Try.pinned (OpenSpec.upto fnExactIsBrambleSpec)

/-- 'laws.FnExactIsDecomposition', WHERE WHAT IT READS IS OF BULK AT MOST 1048576: true; the input reads as it did. -/
def fnExactIsDecompositionUptoRow : OpenClaim := { program := "ytodihaaheneikaa", sum := "bc3af70904eed2e3476c92de2acae294313154998fd6ad2587bab339e3d622d9", func := "loop.example/g01109/laws.FnExactIsDecomposition", spec := "fnExactIsDecomposition", unfollowed := true, recurses := true, apart := false, narrowed := true }
def FnExactIsDecompositionUptoSaid : Prop := fnExactIsDecompositionUptoRow.holds Try.pinned (OpenSpec.upto fnExactIsDecompositionSpec)

/-- 'laws.FnExactDecompositionWidth', WHERE WHAT IT READS IS OF BULK AT MOST 1048576: true; the input reads as it did. -/
def fnExactDecompositionWidthUptoRow : OpenClaim := { program := "ytodihaaheneikaa", sum := "bc3af70904eed2e3476c92de2acae294313154998fd6ad2587bab339e3d622d9", func := "loop.example/g01109/laws.FnExactDecompositionWidth", spec := "fnExactDecompositionWidth", unfollowed := true, recurses := true, apart := false, narrowed := true }
def FnExactDecompositionWidthUptoSaid : Prop := fnExactDecompositionWidthUptoRow.holds Try.pinned (OpenSpec.upto fnExactDecompositionWidthSpec)

/-- 'laws.FnExactIsDepthProof', WHERE WHAT IT READS IS OF BULK AT MOST 1048576: true; the input reads as it did. -/
def fnExactIsDepthProofUptoRow : OpenClaim := { program := "ytodihaaheneikaa", sum := "bc3af70904eed2e3476c92de2acae294313154998fd6ad2587bab339e3d622d9", func := "loop.example/g01109/laws.FnExactIsDepthProof", spec := "fnExactIsDepthProof", apart := false, narrowed := true }
def FnExactIsDepthProofUptoSaid : Prop := fnExactIsDepthProofUptoRow.holds Try.pinned (OpenSpec.upto fnExactIsDepthProofSpec)

/-- 'laws.FnExactHelicoptersWin', WHERE WHAT IT READS IS OF BULK AT MOST 1048576: true; the input reads as it did. -/
def fnExactHelicoptersWinUptoRow : OpenClaim := { program := "ytodihaaheneikaa", sum := "bc3af70904eed2e3476c92de2acae294313154998fd6ad2587bab339e3d622d9", func := "loop.example/g01109/laws.FnExactHelicoptersWin", spec := "fnExactHelicoptersWin", unfollowed := true, recurses := true, apart := false, narrowed := true }
def FnExactHelicoptersWinUptoSaid : Prop := fnExactHelicoptersWinUptoRow.holds Try.pinned (OpenSpec.upto fnExactHelicoptersWinSpec)

end Rows
end Go.Proofs.Ytodihaaheneikaa
