/-
  No cell of these rows narrows 'for every input' (looked for: loops, veiled, ifaces, maps, wideKeys, modest, calm, conditions, laid).
  DERIVED. THE GIVEN ROWS OF THIS SEAT. 12 by the template 'for every input the law returns true; each argument reads behind the call as it read before'; 0 by the template 'total and deterministic' (their statements: YtghcelpmkffbhaaTotals.lean).
  GIVEN WITH THE SEED: the statements are not yours to turn. If you find one false, say at which input.
  Laid BY PROGRAM, IN A SANDBOX (cutbox-rows.mjs): the forced cells as the released guide's own fill.sh prints them over the translation d5cf3b81115736e9… (all of the seat's roots in one cut). By AI agents, Wed Nov 11 2026. No macro, syntax, notation, axiom, sorry.
-/
import Derived.Test.YtghcelpmkffbhaaChecked
import GoSem.Claim
import GoSem.ClaimJoined
import GoSem.ClaimMapViews
import Derived.JoinedTies
import Derived.KernelRfl
namespace Go.Proofs.Ytghcelpmkffbhaa
/- THE CELL 'sum', in the pinned program and in every row, IS THE sha256 OF THE DUMP (.gsa) THAT YtghcelpmkffbhaaProg.lean LOADS. Nothing in Lean hashes anything: it is a label: what it is worth is what the hold of that sum in a sandbox is worth. -/
noncomputable def Try.pinned : Pinned := { name := "ytghcelpmkffbhaa", sum := "d5cf3b81115736e9f0c8f38e8edf49c9b2ce4b2be01ccf100317db6b90a9fa0e", checked := Try.checked }
namespace Rows
def none {H : Type} : Left H := { results := [], args := [] }

/-- 'laws.FnExactTimesPoint': WHATEVER THE INPUT: true; the input reads as it did. -/
def fnExactTimesPointSpec : ChangeSpec := { name := "fnExactTimesPoint", fn := fun _ => fun
  | [d1, d2, d3] => { results := [.lit (.bool true)], args := [d1, d2, d3] }
  | _ => none }
def fnExactTimesPointRow : OpenClaim := { program := "ytghcelpmkffbhaa", sum := "d5cf3b81115736e9f0c8f38e8edf49c9b2ce4b2be01ccf100317db6b90a9fa0e", func := "loop.example/g01324/laws.FnExactTimesPoint", spec := "fnExactTimesPoint", unfollowed := true, recurses := true, apart := false }
def FnExactTimesPointSaid : Prop := fnExactTimesPointRow.holds Try.pinned (OpenSpec.ofChange fnExactTimesPointSpec)

/-- ITS FALSE NEIGHBOUR: 'it returns false'. Refute it at one input. -/
def fnExactTimesPointWrong : ChangeSpec := { name := "fnExactTimesPoint", fn := fun _ => fun
  | [d1, d2, d3] => { results := [.lit (.bool false)], args := [d1, d2, d3] }
  | _ => none }
def FnExactTimesPointWrongFalsely : Prop := fnExactTimesPointRow.holds Try.pinned (OpenSpec.ofChange fnExactTimesPointWrong)

/-- 'laws.FnExactUndoFactor': WHATEVER THE INPUT: true; the input reads as it did. -/
def fnExactUndoFactorSpec : ChangeSpec := { name := "fnExactUndoFactor", fn := fun _ => fun
  | [d1, d2] => { results := [.lit (.bool true)], args := [d1, d2] }
  | _ => none }
def fnExactUndoFactorRow : OpenClaim := { program := "ytghcelpmkffbhaa", sum := "d5cf3b81115736e9f0c8f38e8edf49c9b2ce4b2be01ccf100317db6b90a9fa0e", func := "loop.example/g01324/laws.FnExactUndoFactor", spec := "fnExactUndoFactor", unfollowed := true, recurses := true, apart := false }
def FnExactUndoFactorSaid : Prop := fnExactUndoFactorRow.holds Try.pinned (OpenSpec.ofChange fnExactUndoFactorSpec)

/-- ITS FALSE NEIGHBOUR: 'it returns false'. Refute it at one input. -/
def fnExactUndoFactorWrong : ChangeSpec := { name := "fnExactUndoFactor", fn := fun _ => fun
  | [d1, d2] => { results := [.lit (.bool false)], args := [d1, d2] }
  | _ => none }
def FnExactUndoFactorWrongFalsely : Prop := fnExactUndoFactorRow.holds Try.pinned (OpenSpec.ofChange fnExactUndoFactorWrong)

/-- 'laws.FnExactCanBeUndone': WHATEVER THE INPUT: true; the input reads as it did. -/
def fnExactCanBeUndoneSpec : ChangeSpec := { name := "fnExactCanBeUndone", fn := fun _ => fun
  | [d1, d2] => { results := [.lit (.bool true)], args := [d1, d2] }
  | _ => none }
def fnExactCanBeUndoneRow : OpenClaim := { program := "ytghcelpmkffbhaa", sum := "d5cf3b81115736e9f0c8f38e8edf49c9b2ce4b2be01ccf100317db6b90a9fa0e", func := "loop.example/g01324/laws.FnExactCanBeUndone", spec := "fnExactCanBeUndone", unfollowed := true, recurses := true, apart := false }
def FnExactCanBeUndoneSaid : Prop := fnExactCanBeUndoneRow.holds Try.pinned (OpenSpec.ofChange fnExactCanBeUndoneSpec)

/-- ITS FALSE NEIGHBOUR: 'it returns false'. Refute it at one input. -/
def fnExactCanBeUndoneWrong : ChangeSpec := { name := "fnExactCanBeUndone", fn := fun _ => fun
  | [d1, d2] => { results := [.lit (.bool false)], args := [d1, d2] }
  | _ => none }
def FnExactCanBeUndoneWrongFalsely : Prop := fnExactCanBeUndoneRow.holds Try.pinned (OpenSpec.ofChange fnExactCanBeUndoneWrong)

/-- 'laws.FnExactTimesAfter': WHATEVER THE INPUT: true; the input reads as it did. -/
def fnExactTimesAfterSpec : ChangeSpec := { name := "fnExactTimesAfter", fn := fun _ => fun
  | [d1, d2, d3, d4] => { results := [.lit (.bool true)], args := [d1, d2, d3, d4] }
  | _ => none }
def fnExactTimesAfterRow : OpenClaim := { program := "ytghcelpmkffbhaa", sum := "d5cf3b81115736e9f0c8f38e8edf49c9b2ce4b2be01ccf100317db6b90a9fa0e", func := "loop.example/g01324/laws.FnExactTimesAfter", spec := "fnExactTimesAfter", unfollowed := true, recurses := true, apart := false }
def FnExactTimesAfterSaid : Prop := fnExactTimesAfterRow.holds Try.pinned (OpenSpec.ofChange fnExactTimesAfterSpec)

/-- ITS FALSE NEIGHBOUR: 'it returns false'. Refute it at one input. -/
def fnExactTimesAfterWrong : ChangeSpec := { name := "fnExactTimesAfter", fn := fun _ => fun
  | [d1, d2, d3, d4] => { results := [.lit (.bool false)], args := [d1, d2, d3, d4] }
  | _ => none }
def FnExactTimesAfterWrongFalsely : Prop := fnExactTimesAfterRow.holds Try.pinned (OpenSpec.ofChange fnExactTimesAfterWrong)

/-- 'laws.FnExactOrderOfFactor': WHATEVER THE INPUT: true; the input reads as it did. -/
def fnExactOrderOfFactorSpec : ChangeSpec := { name := "fnExactOrderOfFactor", fn := fun _ => fun
  | [d1, d2] => { results := [.lit (.bool true)], args := [d1, d2] }
  | _ => none }
def fnExactOrderOfFactorRow : OpenClaim := { program := "ytghcelpmkffbhaa", sum := "d5cf3b81115736e9f0c8f38e8edf49c9b2ce4b2be01ccf100317db6b90a9fa0e", func := "loop.example/g01324/laws.FnExactOrderOfFactor", spec := "fnExactOrderOfFactor", unfollowed := true, recurses := true, apart := false }
def FnExactOrderOfFactorSaid : Prop := fnExactOrderOfFactorRow.holds Try.pinned (OpenSpec.ofChange fnExactOrderOfFactorSpec)

/-- ITS FALSE NEIGHBOUR: 'it returns false'. Refute it at one input. -/
def fnExactOrderOfFactorWrong : ChangeSpec := { name := "fnExactOrderOfFactor", fn := fun _ => fun
  | [d1, d2] => { results := [.lit (.bool false)], args := [d1, d2] }
  | _ => none }
def FnExactOrderOfFactorWrongFalsely : Prop := fnExactOrderOfFactorRow.holds Try.pinned (OpenSpec.ofChange fnExactOrderOfFactorWrong)

/-- 'laws.FnExactLeadOfPoint': WHATEVER THE INPUT: true; the input reads as it did. -/
def fnExactLeadOfPointSpec : ChangeSpec := { name := "fnExactLeadOfPoint", fn := fun _ => fun
  | [d1, d2, d3] => { results := [.lit (.bool true)], args := [d1, d2, d3] }
  | _ => none }
def fnExactLeadOfPointRow : OpenClaim := { program := "ytghcelpmkffbhaa", sum := "d5cf3b81115736e9f0c8f38e8edf49c9b2ce4b2be01ccf100317db6b90a9fa0e", func := "loop.example/g01324/laws.FnExactLeadOfPoint", spec := "fnExactLeadOfPoint", unfollowed := true, recurses := true, apart := false }
def FnExactLeadOfPointSaid : Prop := fnExactLeadOfPointRow.holds Try.pinned (OpenSpec.ofChange fnExactLeadOfPointSpec)

/-- ITS FALSE NEIGHBOUR: 'it returns false'. Refute it at one input. -/
def fnExactLeadOfPointWrong : ChangeSpec := { name := "fnExactLeadOfPoint", fn := fun _ => fun
  | [d1, d2, d3] => { results := [.lit (.bool false)], args := [d1, d2, d3] }
  | _ => none }
def FnExactLeadOfPointWrongFalsely : Prop := fnExactLeadOfPointRow.holds Try.pinned (OpenSpec.ofChange fnExactLeadOfPointWrong)

/-- 'laws.FnExactTimesRow': WHATEVER THE INPUT: true; the input reads as it did. -/
def fnExactTimesRowSpec : ChangeSpec := { name := "fnExactTimesRow", fn := fun _ => fun
  | [d1, d2] => { results := [.lit (.bool true)], args := [d1, d2] }
  | _ => none }
def fnExactTimesRowRow : OpenClaim := { program := "ytghcelpmkffbhaa", sum := "d5cf3b81115736e9f0c8f38e8edf49c9b2ce4b2be01ccf100317db6b90a9fa0e", func := "loop.example/g01324/laws.FnExactTimesRow", spec := "fnExactTimesRow", unfollowed := true, recurses := true, apart := false }
def FnExactTimesRowSaid : Prop := fnExactTimesRowRow.holds Try.pinned (OpenSpec.ofChange fnExactTimesRowSpec)

/-- ITS FALSE NEIGHBOUR: 'it returns false'. Refute it at one input. -/
def fnExactTimesRowWrong : ChangeSpec := { name := "fnExactTimesRow", fn := fun _ => fun
  | [d1, d2] => { results := [.lit (.bool false)], args := [d1, d2] }
  | _ => none }
def FnExactTimesRowWrongFalsely : Prop := fnExactTimesRowRow.holds Try.pinned (OpenSpec.ofChange fnExactTimesRowWrong)

/-- 'laws.FnExactDepthOfTable': WHATEVER THE INPUT: true; the input reads as it did. -/
def fnExactDepthOfTableSpec : ChangeSpec := { name := "fnExactDepthOfTable", fn := fun _ => fun
  | [d1, d2] => { results := [.lit (.bool true)], args := [d1, d2] }
  | _ => none }
def fnExactDepthOfTableRow : OpenClaim := { program := "ytghcelpmkffbhaa", sum := "d5cf3b81115736e9f0c8f38e8edf49c9b2ce4b2be01ccf100317db6b90a9fa0e", func := "loop.example/g01324/laws.FnExactDepthOfTable", spec := "fnExactDepthOfTable", unfollowed := true, recurses := true, apart := false }
def FnExactDepthOfTableSaid : Prop := fnExactDepthOfTableRow.holds Try.pinned (OpenSpec.ofChange fnExactDepthOfTableSpec)

/-- ITS FALSE NEIGHBOUR: 'it returns false'. Refute it at one input. -/
def fnExactDepthOfTableWrong : ChangeSpec := { name := "fnExactDepthOfTable", fn := fun _ => fun
  | [d1, d2] => { results := [.lit (.bool false)], args := [d1, d2] }
  | _ => none }
def FnExactDepthOfTableWrongFalsely : Prop := fnExactDepthOfTableRow.holds Try.pinned (OpenSpec.ofChange fnExactDepthOfTableWrong)

/-- 'laws.FnExactFactorsWith': WHATEVER THE INPUT: true; the input reads as it did. -/
def fnExactFactorsWithSpec : ChangeSpec := { name := "fnExactFactorsWith", fn := fun _ => fun
  | [d1, d2] => { results := [.lit (.bool true)], args := [d1, d2] }
  | _ => none }
def fnExactFactorsWithRow : OpenClaim := { program := "ytghcelpmkffbhaa", sum := "d5cf3b81115736e9f0c8f38e8edf49c9b2ce4b2be01ccf100317db6b90a9fa0e", func := "loop.example/g01324/laws.FnExactFactorsWith", spec := "fnExactFactorsWith", unfollowed := true, recurses := true, apart := false }
def FnExactFactorsWithSaid : Prop := fnExactFactorsWithRow.holds Try.pinned (OpenSpec.ofChange fnExactFactorsWithSpec)

/-- ITS FALSE NEIGHBOUR: 'it returns false'. Refute it at one input. -/
def fnExactFactorsWithWrong : ChangeSpec := { name := "fnExactFactorsWith", fn := fun _ => fun
  | [d1, d2] => { results := [.lit (.bool false)], args := [d1, d2] }
  | _ => none }
def FnExactFactorsWithWrongFalsely : Prop := fnExactFactorsWithRow.holds Try.pinned (OpenSpec.ofChange fnExactFactorsWithWrong)

/-- 'laws.FnExactLinesTo': WHATEVER THE INPUT: true; the input reads as it did. -/
def fnExactLinesToSpec : ChangeSpec := { name := "fnExactLinesTo", fn := fun _ => fun
  | [d1, d2, d3] => { results := [.lit (.bool true)], args := [d1, d2, d3] }
  | _ => none }
def fnExactLinesToRow : OpenClaim := { program := "ytghcelpmkffbhaa", sum := "d5cf3b81115736e9f0c8f38e8edf49c9b2ce4b2be01ccf100317db6b90a9fa0e", func := "loop.example/g01324/laws.FnExactLinesTo", spec := "fnExactLinesTo", unfollowed := true, recurses := true, apart := false }
def FnExactLinesToSaid : Prop := fnExactLinesToRow.holds Try.pinned (OpenSpec.ofChange fnExactLinesToSpec)

/-- ITS FALSE NEIGHBOUR: 'it returns false'. Refute it at one input. -/
def fnExactLinesToWrong : ChangeSpec := { name := "fnExactLinesTo", fn := fun _ => fun
  | [d1, d2, d3] => { results := [.lit (.bool false)], args := [d1, d2, d3] }
  | _ => none }
def FnExactLinesToWrongFalsely : Prop := fnExactLinesToRow.holds Try.pinned (OpenSpec.ofChange fnExactLinesToWrong)

/-- 'laws.FnExactFixedPoints': WHATEVER THE INPUT: true; the input reads as it did. -/
def fnExactFixedPointsSpec : ChangeSpec := { name := "fnExactFixedPoints", fn := fun _ => fun
  | [d1, d2] => { results := [.lit (.bool true)], args := [d1, d2] }
  | _ => none }
def fnExactFixedPointsRow : OpenClaim := { program := "ytghcelpmkffbhaa", sum := "d5cf3b81115736e9f0c8f38e8edf49c9b2ce4b2be01ccf100317db6b90a9fa0e", func := "loop.example/g01324/laws.FnExactFixedPoints", spec := "fnExactFixedPoints", unfollowed := true, recurses := true, apart := false }
def FnExactFixedPointsSaid : Prop := fnExactFixedPointsRow.holds Try.pinned (OpenSpec.ofChange fnExactFixedPointsSpec)

/-- ITS FALSE NEIGHBOUR: 'it returns false'. Refute it at one input. -/
def fnExactFixedPointsWrong : ChangeSpec := { name := "fnExactFixedPoints", fn := fun _ => fun
  | [d1, d2] => { results := [.lit (.bool false)], args := [d1, d2] }
  | _ => none }
def FnExactFixedPointsWrongFalsely : Prop := fnExactFixedPointsRow.holds Try.pinned (OpenSpec.ofChange fnExactFixedPointsWrong)

/-- 'laws.FnExactLongFactors': WHATEVER THE INPUT: true; the input reads as it did. -/
def fnExactLongFactorsSpec : ChangeSpec := { name := "fnExactLongFactors", fn := fun _ => fun
  | [d] => { results := [.lit (.bool true)], args := [d] }
  | _ => none }
def fnExactLongFactorsRow : OpenClaim := { program := "ytghcelpmkffbhaa", sum := "d5cf3b81115736e9f0c8f38e8edf49c9b2ce4b2be01ccf100317db6b90a9fa0e", func := "loop.example/g01324/laws.FnExactLongFactors", spec := "fnExactLongFactors", unfollowed := true, recurses := true, apart := false }
def FnExactLongFactorsSaid : Prop := fnExactLongFactorsRow.holds Try.pinned (OpenSpec.ofChange fnExactLongFactorsSpec)

/-- ITS FALSE NEIGHBOUR: 'it returns false'. Refute it at one input. -/
def fnExactLongFactorsWrong : ChangeSpec := { name := "fnExactLongFactors", fn := fun _ => fun
  | [d] => { results := [.lit (.bool false)], args := [d] }
  | _ => none }
def FnExactLongFactorsWrongFalsely : Prop := fnExactLongFactorsRow.holds Try.pinned (OpenSpec.ofChange fnExactLongFactorsWrong)

/- THE SECOND FORM. 'bulk': how many values and letters a reading holds, each counted each time it is reached (what is shared counts as often as it is met; a slice's spare places count too). A statement '..UptoSaid' is the law's where the arguments, and the package variables that the reading takes, are together of bulk at most 1048576: NARROWER than '..Said'. Prove '..Said' where nothing that the law and all that it calls make is longer than what came in: it says more and counts as full. Else prove '..UptoSaid'. A law counts once. -/
mutual
def uptoBulk {H : Type} : DataW H → Nat
  | .lit (.string bytes) => bytes.length + 1
  | .lit _ => 1
  | .nil => 1
  | .ptr d => uptoBulk d + 1
  | .slice elems spare => uptoBulkAll elems + uptoBulkAll spare + 1
  | .agg parts => uptoBulkAll parts + 1
  | .iface _ d => uptoBulk d + 1
  | .map entries => uptoBulkEntries entries + 1
  | .held _ => 1
def uptoBulkAll {H : Type} : List (DataW H) → Nat
  | [] => 0
  | d :: r => uptoBulk d + uptoBulkAll r
def uptoBulkEntries {H : Type} : List (Lit × DataW H) → Nat
  | [] => 0
  | x :: r => uptoBulkEntry x + uptoBulkEntries r
def uptoBulkEntry {H : Type} : Lit × DataW H → Nat
  | (.string bytes, d) => bytes.length + uptoBulk d + 1
  | (_, d) => uptoBulk d + 1
 end
def uptoSmall : (H : Type) → List (DataW H) → Bool := fun _ ds => decide (uptoBulkAll ds ≤ 1048576)
def OpenSpec.upto (s : _root_.Go.ChangeSpec) : _root_.Go.OpenSpec := { _root_.Go.OpenSpec.ofChange s with cond := some uptoSmall }

/-- 'laws.FnExactTimesPoint', WHERE WHAT IT READS IS OF BULK AT MOST 1048576: true; the input reads as it did. -/
def fnExactTimesPointUptoRow : OpenClaim := { program := "ytghcelpmkffbhaa", sum := "d5cf3b81115736e9f0c8f38e8edf49c9b2ce4b2be01ccf100317db6b90a9fa0e", func := "loop.example/g01324/laws.FnExactTimesPoint", spec := "fnExactTimesPoint", unfollowed := true, recurses := true, apart := false, narrowed := true }
def FnExactTimesPointUptoSaid : Prop := fnExactTimesPointUptoRow.holds Try.pinned (OpenSpec.upto fnExactTimesPointSpec)

/-- 'laws.FnExactUndoFactor', WHERE WHAT IT READS IS OF BULK AT MOST 1048576: true; the input reads as it did. -/
def fnExactUndoFactorUptoRow : OpenClaim := { program := "ytghcelpmkffbhaa", sum := "d5cf3b81115736e9f0c8f38e8edf49c9b2ce4b2be01ccf100317db6b90a9fa0e", func := "loop.example/g01324/laws.FnExactUndoFactor", spec := "fnExactUndoFactor", unfollowed := true, recurses := true, apart := false, narrowed := true }
def FnExactUndoFactorUptoSaid : Prop := fnExactUndoFactorUptoRow.holds Try.pinned (OpenSpec.upto fnExactUndoFactorSpec)

/-- 'laws.FnExactCanBeUndone', WHERE WHAT IT READS IS OF BULK AT MOST 1048576: true; the input reads as it did. -/
def fnExactCanBeUndoneUptoRow : OpenClaim := { program := "ytghcelpmkffbhaa", sum := "d5cf3b81115736e9f0c8f38e8edf49c9b2ce4b2be01ccf100317db6b90a9fa0e", func := "loop.example/g01324/laws.FnExactCanBeUndone", spec := "fnExactCanBeUndone", unfollowed := true, recurses := true, apart := false, narrowed := true }
def FnExactCanBeUndoneUptoSaid : Prop := fnExactCanBeUndoneUptoRow.holds Try.pinned (OpenSpec.upto fnExactCanBeUndoneSpec)

/-- 'laws.FnExactTimesAfter', WHERE WHAT IT READS IS OF BULK AT MOST 1048576: true; the input reads as it did. -/
def fnExactTimesAfterUptoRow : OpenClaim := { program := "ytghcelpmkffbhaa", sum := "d5cf3b81115736e9f0c8f38e8edf49c9b2ce4b2be01ccf100317db6b90a9fa0e", func := "loop.example/g01324/laws.FnExactTimesAfter", spec := "fnExactTimesAfter", unfollowed := true, recurses := true, apart := false, narrowed := true }
def FnExactTimesAfterUptoSaid : Prop := fnExactTimesAfterUptoRow.holds Try.pinned (OpenSpec.upto fnExactTimesAfterSpec)

/-- 'laws.FnExactOrderOfFactor', WHERE WHAT IT READS IS OF BULK AT MOST 1048576: true; the input reads as it did. -/
def fnExactOrderOfFactorUptoRow : OpenClaim := { program := "ytghcelpmkffbhaa", sum := "d5cf3b81115736e9f0c8f38e8edf49c9b2ce4b2be01ccf100317db6b90a9fa0e", func := "loop.example/g01324/laws.FnExactOrderOfFactor", spec := "fnExactOrderOfFactor", unfollowed := true, recurses := true, apart := false, narrowed := true }
def FnExactOrderOfFactorUptoSaid : Prop := fnExactOrderOfFactorUptoRow.holds Try.pinned (OpenSpec.upto fnExactOrderOfFactorSpec)

/-- 'laws.FnExactLeadOfPoint', WHERE WHAT IT READS IS OF BULK AT MOST 1048576: true; the input reads as it did. -/
def fnExactLeadOfPointUptoRow : OpenClaim := { program := "ytghcelpmkffbhaa", sum := "d5cf3b81115736e9f0c8f38e8edf49c9b2ce4b2be01ccf100317db6b90a9fa0e", func := "loop.example/g01324/laws.FnExactLeadOfPoint", spec := "fnExactLeadOfPoint", unfollowed := true, recurses := true, apart := false, narrowed := true }
def FnExactLeadOfPointUptoSaid : Prop := fnExactLeadOfPointUptoRow.holds Try.pinned (OpenSpec.upto fnExactLeadOfPointSpec)

/-- 'laws.FnExactTimesRow', WHERE WHAT IT READS IS OF BULK AT MOST 1048576: true; the input reads as it did. -/
def fnExactTimesRowUptoRow : OpenClaim := { program := "ytghcelpmkffbhaa", sum := "d5cf3b81115736e9f0c8f38e8edf49c9b2ce4b2be01ccf100317db6b90a9fa0e", func := "loop.example/g01324/laws.FnExactTimesRow", spec := "fnExactTimesRow", unfollowed := true, recurses := true, apart := false, narrowed := true }
def FnExactTimesRowUptoSaid : Prop := fnExactTimesRowUptoRow.holds Try.pinned (OpenSpec.upto fnExactTimesRowSpec)

/-- 'laws.FnExactDepthOfTable', WHERE WHAT IT READS IS OF BULK AT MOST 1048576: true; the input reads as it did. -/
def fnExactDepthOfTableUptoRow : OpenClaim := { program := "ytghcelpmkffbhaa", sum := "d5cf3b81115736e9f0c8f38e8edf49c9b2ce4b2be01ccf100317db6b90a9fa0e", func := "loop.example/g01324/laws.FnExactDepthOfTable", spec := "fnExactDepthOfTable", unfollowed := true, recurses := true, apart := false, narrowed := true }
def FnExactDepthOfTableUptoSaid : Prop := fnExactDepthOfTableUptoRow.holds Try.pinned (OpenSpec.upto fnExactDepthOfTableSpec)

/-- 'laws.FnExactFactorsWith', WHERE WHAT IT READS IS OF BULK AT MOST 1048576: true; the input reads as it did. -/
def fnExactFactorsWithUptoRow : OpenClaim := { program := "ytghcelpmkffbhaa", sum := "d5cf3b81115736e9f0c8f38e8edf49c9b2ce4b2be01ccf100317db6b90a9fa0e", func := "loop.example/g01324/laws.FnExactFactorsWith", spec := "fnExactFactorsWith", unfollowed := true, recurses := true, apart := false, narrowed := true }
def FnExactFactorsWithUptoSaid : Prop := fnExactFactorsWithUptoRow.holds Try.pinned (OpenSpec.upto fnExactFactorsWithSpec)

/-- 'laws.FnExactLinesTo', WHERE WHAT IT READS IS OF BULK AT MOST 1048576: true; the input reads as it did. -/
def fnExactLinesToUptoRow : OpenClaim := { program := "ytghcelpmkffbhaa", sum := "d5cf3b81115736e9f0c8f38e8edf49c9b2ce4b2be01ccf100317db6b90a9fa0e", func := "loop.example/g01324/laws.FnExactLinesTo", spec := "fnExactLinesTo", unfollowed := true, recurses := true, apart := false, narrowed := true }
def FnExactLinesToUptoSaid : Prop := fnExactLinesToUptoRow.holds Try.pinned (OpenSpec.upto fnExactLinesToSpec)

/-- 'laws.FnExactFixedPoints', WHERE WHAT IT READS IS OF BULK AT MOST 1048576: true; the input reads as it did. -/
def fnExactFixedPointsUptoRow : OpenClaim := { program := "ytghcelpmkffbhaa", sum := "d5cf3b81115736e9f0c8f38e8edf49c9b2ce4b2be01ccf100317db6b90a9fa0e", func := "loop.example/g01324/laws.FnExactFixedPoints", spec := "fnExactFixedPoints", unfollowed := true, recurses := true, apart := false, narrowed := true }
def FnExactFixedPointsUptoSaid : Prop := fnExactFixedPointsUptoRow.holds Try.pinned (OpenSpec.upto fnExactFixedPointsSpec)

/-- 'laws.FnExactLongFactors', WHERE WHAT IT READS IS OF BULK AT MOST 1048576: true; the input reads as it did. -/
def fnExactLongFactorsUptoRow : OpenClaim := { program := "ytghcelpmkffbhaa", sum := "d5cf3b81115736e9f0c8f38e8edf49c9b2ce4b2be01ccf100317db6b90a9fa0e", func := "loop.example/g01324/laws.FnExactLongFactors", spec := "fnExactLongFactors", unfollowed := true, recurses := true, apart := false, narrowed := true }
def FnExactLongFactorsUptoSaid : Prop := fnExactLongFactorsUptoRow.holds Try.pinned (OpenSpec.upto fnExactLongFactorsSpec)

end Rows
end Go.Proofs.Ytghcelpmkffbhaa
