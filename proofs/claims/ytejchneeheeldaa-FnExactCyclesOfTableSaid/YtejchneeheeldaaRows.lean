/-
  No cell of these rows narrows 'for every input' (looked for: loops, veiled, ifaces, maps, wideKeys, modest, calm, conditions, laid).
  DERIVED. THE GIVEN ROWS OF THIS SEAT. 6 by the template 'for every input the law returns true; each argument reads behind the call as it read before'; 0 by the template 'total and deterministic' (their statements: YtejchneeheeldaaTotals.lean).
  GIVEN WITH THE SEED: the statements are not yours to turn. If you find one false, say at which input.
  Laid BY PROGRAM, IN A SANDBOX (cutbox-rows.mjs): the forced cells as the released guide's own fill.sh prints them over the translation 0c2a8877d147e5ae… (all of the seat's roots in one cut). By AI agents, Wed Nov 11 2026. No macro, syntax, notation, axiom, sorry.
-/
import Derived.Test.YtejchneeheeldaaChecked
import GoSem.Claim
import GoSem.ClaimJoined
import GoSem.ClaimMapViews
import Derived.JoinedTies
import Derived.KernelRfl
namespace Go.Proofs.Ytejchneeheeldaa
/- THE CELL 'sum', in the pinned program and in every row, IS THE sha256 OF THE DUMP (.gsa) THAT YtejchneeheeldaaProg.lean LOADS. Nothing in Lean hashes anything: it is a label: what it is worth is what the hold of that sum in a sandbox is worth. -/
noncomputable def Try.pinned : Pinned := { name := "ytejchneeheeldaa", sum := "0c2a8877d147e5aed313b94432c5cad22eb94f8d589ead81a3dfb0501ab93a50", checked := Try.checked }
namespace Rows
def none {H : Type} : Left H := { results := [], args := [] }

/-- 'laws.FnExactLongFactors': WHATEVER THE INPUT: true; the input reads as it did. -/
def fnExactLongFactorsSpec : ChangeSpec := { name := "fnExactLongFactors", fn := fun _ => fun
  | [d] => { results := [.lit (.bool true)], args := [d] }
  | _ => none }
def fnExactLongFactorsRow : OpenClaim := { program := "ytejchneeheeldaa", sum := "0c2a8877d147e5aed313b94432c5cad22eb94f8d589ead81a3dfb0501ab93a50", func := "loop.example/g01324/laws.FnExactLongFactors", spec := "fnExactLongFactors", unfollowed := true, recurses := true, apart := false }
def FnExactLongFactorsSaid : Prop := fnExactLongFactorsRow.holds Try.pinned (OpenSpec.ofChange fnExactLongFactorsSpec)

/-- ITS FALSE NEIGHBOUR: 'it returns false'. Refute it at one input. -/
def fnExactLongFactorsWrong : ChangeSpec := { name := "fnExactLongFactors", fn := fun _ => fun
  | [d] => { results := [.lit (.bool false)], args := [d] }
  | _ => none }
def FnExactLongFactorsWrongFalsely : Prop := fnExactLongFactorsRow.holds Try.pinned (OpenSpec.ofChange fnExactLongFactorsWrong)

/-- 'laws.FnExactCyclesOfTable': WHATEVER THE INPUT: true; the input reads as it did. -/
def fnExactCyclesOfTableSpec : ChangeSpec := { name := "fnExactCyclesOfTable", fn := fun _ => fun
  | [d1, d2] => { results := [.lit (.bool true)], args := [d1, d2] }
  | _ => none }
def fnExactCyclesOfTableRow : OpenClaim := { program := "ytejchneeheeldaa", sum := "0c2a8877d147e5aed313b94432c5cad22eb94f8d589ead81a3dfb0501ab93a50", func := "loop.example/g01324/laws.FnExactCyclesOfTable", spec := "fnExactCyclesOfTable", unfollowed := true, recurses := true, apart := false }
def FnExactCyclesOfTableSaid : Prop := fnExactCyclesOfTableRow.holds Try.pinned (OpenSpec.ofChange fnExactCyclesOfTableSpec)

/-- ITS FALSE NEIGHBOUR: 'it returns false'. Refute it at one input. -/
def fnExactCyclesOfTableWrong : ChangeSpec := { name := "fnExactCyclesOfTable", fn := fun _ => fun
  | [d1, d2] => { results := [.lit (.bool false)], args := [d1, d2] }
  | _ => none }
def FnExactCyclesOfTableWrongFalsely : Prop := fnExactCyclesOfTableRow.holds Try.pinned (OpenSpec.ofChange fnExactCyclesOfTableWrong)

/-- 'laws.FnExactPointsHit': WHATEVER THE INPUT: true; the input reads as it did. -/
def fnExactPointsHitSpec : ChangeSpec := { name := "fnExactPointsHit", fn := fun _ => fun
  | [d1, d2] => { results := [.lit (.bool true)], args := [d1, d2] }
  | _ => none }
def fnExactPointsHitRow : OpenClaim := { program := "ytejchneeheeldaa", sum := "0c2a8877d147e5aed313b94432c5cad22eb94f8d589ead81a3dfb0501ab93a50", func := "loop.example/g01324/laws.FnExactPointsHit", spec := "fnExactPointsHit", unfollowed := true, recurses := true, apart := false }
def FnExactPointsHitSaid : Prop := fnExactPointsHitRow.holds Try.pinned (OpenSpec.ofChange fnExactPointsHitSpec)

/-- ITS FALSE NEIGHBOUR: 'it returns false'. Refute it at one input. -/
def fnExactPointsHitWrong : ChangeSpec := { name := "fnExactPointsHit", fn := fun _ => fun
  | [d1, d2] => { results := [.lit (.bool false)], args := [d1, d2] }
  | _ => none }
def FnExactPointsHitWrongFalsely : Prop := fnExactPointsHitRow.holds Try.pinned (OpenSpec.ofChange fnExactPointsHitWrong)

/-- 'laws.FnExactTableCrossings': WHATEVER THE INPUT: true; the input reads as it did. -/
def fnExactTableCrossingsSpec : ChangeSpec := { name := "fnExactTableCrossings", fn := fun _ => fun
  | [d1, d2] => { results := [.lit (.bool true)], args := [d1, d2] }
  | _ => none }
def fnExactTableCrossingsRow : OpenClaim := { program := "ytejchneeheeldaa", sum := "0c2a8877d147e5aed313b94432c5cad22eb94f8d589ead81a3dfb0501ab93a50", func := "loop.example/g01324/laws.FnExactTableCrossings", spec := "fnExactTableCrossings", unfollowed := true, recurses := true, apart := false }
def FnExactTableCrossingsSaid : Prop := fnExactTableCrossingsRow.holds Try.pinned (OpenSpec.ofChange fnExactTableCrossingsSpec)

/-- ITS FALSE NEIGHBOUR: 'it returns false'. Refute it at one input. -/
def fnExactTableCrossingsWrong : ChangeSpec := { name := "fnExactTableCrossings", fn := fun _ => fun
  | [d1, d2] => { results := [.lit (.bool false)], args := [d1, d2] }
  | _ => none }
def FnExactTableCrossingsWrongFalsely : Prop := fnExactTableCrossingsRow.holds Try.pinned (OpenSpec.ofChange fnExactTableCrossingsWrong)

/-- 'laws.FnExactTimesChords': WHATEVER THE INPUT: true; the input reads as it did. -/
def fnExactTimesChordsSpec : ChangeSpec := { name := "fnExactTimesChords", fn := fun _ => fun
  | [d1, d2] => { results := [.lit (.bool true)], args := [d1, d2] }
  | _ => none }
def fnExactTimesChordsRow : OpenClaim := { program := "ytejchneeheeldaa", sum := "0c2a8877d147e5aed313b94432c5cad22eb94f8d589ead81a3dfb0501ab93a50", func := "loop.example/g01324/laws.FnExactTimesChords", spec := "fnExactTimesChords", unfollowed := true, recurses := true, apart := false }
def FnExactTimesChordsSaid : Prop := fnExactTimesChordsRow.holds Try.pinned (OpenSpec.ofChange fnExactTimesChordsSpec)

/-- ITS FALSE NEIGHBOUR: 'it returns false'. Refute it at one input. -/
def fnExactTimesChordsWrong : ChangeSpec := { name := "fnExactTimesChords", fn := fun _ => fun
  | [d1, d2] => { results := [.lit (.bool false)], args := [d1, d2] }
  | _ => none }
def FnExactTimesChordsWrongFalsely : Prop := fnExactTimesChordsRow.holds Try.pinned (OpenSpec.ofChange fnExactTimesChordsWrong)

/-- 'laws.FnExactLeastTurnOfTable': WHATEVER THE INPUT: true; the input reads as it did. -/
def fnExactLeastTurnOfTableSpec : ChangeSpec := { name := "fnExactLeastTurnOfTable", fn := fun _ => fun
  | [d1, d2] => { results := [.lit (.bool true)], args := [d1, d2] }
  | _ => none }
def fnExactLeastTurnOfTableRow : OpenClaim := { program := "ytejchneeheeldaa", sum := "0c2a8877d147e5aed313b94432c5cad22eb94f8d589ead81a3dfb0501ab93a50", func := "loop.example/g01324/laws.FnExactLeastTurnOfTable", spec := "fnExactLeastTurnOfTable", unfollowed := true, recurses := true, apart := false }
def FnExactLeastTurnOfTableSaid : Prop := fnExactLeastTurnOfTableRow.holds Try.pinned (OpenSpec.ofChange fnExactLeastTurnOfTableSpec)

/-- ITS FALSE NEIGHBOUR: 'it returns false'. Refute it at one input. -/
def fnExactLeastTurnOfTableWrong : ChangeSpec := { name := "fnExactLeastTurnOfTable", fn := fun _ => fun
  | [d1, d2] => { results := [.lit (.bool false)], args := [d1, d2] }
  | _ => none }
def FnExactLeastTurnOfTableWrongFalsely : Prop := fnExactLeastTurnOfTableRow.holds Try.pinned (OpenSpec.ofChange fnExactLeastTurnOfTableWrong)

/- THE SECOND FORM. 'bulk': how many values and letters a reading holds, each counted each time it is reached (what is shared counts as often as it is met; a slice's spare places count too). A statement '..UptoSaid' is the law's where the arguments, and the package variables that the reading takes, are together of bulk at most 1048576: NARROWER than '..Said'. Prove '..Said' where nothing that the law and all that it calls make is longer than what came in: it says more and counts as full. Else prove '..UptoSaid'. A law counts once. -/
mutual
def uptoBulk {H : Type} : DataW H → Nat
  | .lit (.string bytes) => bytes.length + 1
  | .lit _ => 1
  | .nil => 1
  | .ptr d => uptoBulk d + 1
  | .slice elems spare => uptoBulkAll elems + uptoBulkAll spare + 1
  | .agg parts => uptoBulkAll parts + 1
  | .iface _ d => uptoBulk d + 1
  | .map entries => uptoBulkEntries entries + 1
  | .held _ => 1
def uptoBulkAll {H : Type} : List (DataW H) → Nat
  | [] => 0
  | d :: r => uptoBulk d + uptoBulkAll r
def uptoBulkEntries {H : Type} : List (Lit × DataW H) → Nat
  | [] => 0
  | x :: r => uptoBulkEntry x + uptoBulkEntries r
def uptoBulkEntry {H : Type} : Lit × DataW H → Nat
  | (.string bytes, d) => bytes.length + uptoBulk d + 1
  | (_, d) => uptoBulk d + 1
 end
def uptoSmall : (H : Type) → List (DataW H) → Bool := fun _ ds => decide (uptoBulkAll ds ≤ 1048576)
def OpenSpec.upto (s : _root_.Go.ChangeSpec) : _root_.Go.OpenSpec := { _root_.Go.OpenSpec.ofChange s with cond := some uptoSmall }

/-- 'laws.FnExactLongFactors', WHERE WHAT IT READS IS OF BULK AT MOST 1048576: true; the input reads as it did. -/
def fnExactLongFactorsUptoRow : OpenClaim := { program := "ytejchneeheeldaa", sum := "0c2a8877d147e5aed313b94432c5cad22eb94f8d589ead81a3dfb0501ab93a50", func := "loop.example/g01324/laws.FnExactLongFactors", spec := "fnExactLongFactors", unfollowed := true, recurses := true, apart := false, narrowed := true }
def FnExactLongFactorsUptoSaid : Prop := fnExactLongFactorsUptoRow.holds Try.pinned (OpenSpec.upto fnExactLongFactorsSpec)

/-- 'laws.FnExactCyclesOfTable', WHERE WHAT IT READS IS OF BULK AT MOST 1048576: true; the input reads as it did. -/
def fnExactCyclesOfTableUptoRow : OpenClaim := { program := "ytejchneeheeldaa", sum := "0c2a8877d147e5aed313b94432c5cad22eb94f8d589ead81a3dfb0501ab93a50", func := "loop.example/g01324/laws.FnExactCyclesOfTable", spec := "fnExactCyclesOfTable", unfollowed := true, recurses := true, apart := false, narrowed := true }
def FnExactCyclesOfTableUptoSaid : Prop := fnExactCyclesOfTableUptoRow.holds Try.pinned (OpenSpec.upto fnExactCyclesOfTableSpec)

/-- 'laws.FnExactPointsHit', WHERE WHAT IT READS IS OF BULK AT MOST 1048576: true; the input reads as it did. -/
def fnExactPointsHitUptoRow : OpenClaim := { program := "ytejchneeheeldaa", sum := "0c2a8877d147e5aed313b94432c5cad22eb94f8d589ead81a3dfb0501ab93a50", func := "loop.example/g01324/laws.FnExactPointsHit", spec := "fnExactPointsHit", unfollowed := true, recurses := true, apart := false, narrowed := true }
def FnExactPointsHitUptoSaid : Prop := fnExactPointsHitUptoRow.holds Try.pinned (OpenSpec.upto fnExactPointsHitSpec)

/-- 'laws.FnExactTableCrossings', WHERE WHAT IT READS IS OF BULK AT MOST 1048576: true; the input reads as it did. -/
def fnExactTableCrossingsUptoRow : OpenClaim := { program := "ytejchneeheeldaa", sum := "0c2a8877d147e5aed313b94432c5cad22eb94f8d589ead81a3dfb0501ab93a50", func := "loop.example/g01324/laws.FnExactTableCrossings", spec := "fnExactTableCrossings", unfollowed := true, recurses := true, apart := false, narrowed := true }
def FnExactTableCrossingsUptoSaid : Prop := fnExactTableCrossingsUptoRow.holds Try.pinned (OpenSpec.upto fnExactTableCrossingsSpec)

/-- 'laws.FnExactTimesChords', WHERE WHAT IT READS IS OF BULK AT MOST 1048576: true; the input reads as it did. -/
def fnExactTimesChordsUptoRow : OpenClaim := { program := "ytejchneeheeldaa", sum := "0c2a8877d147e5aed313b94432c5cad22eb94f8d589ead81a3dfb0501ab93a50", func := "loop.example/g01324/laws.FnExactTimesChords", spec := "fnExactTimesChords", unfollowed := true, recurses := true, apart := false, narrowed := true }
def FnExactTimesChordsUptoSaid : Prop := fnExactTimesChordsUptoRow.holds Try.pinned (OpenSpec.upto fnExactTimesChordsSpec)

/-- 'laws.FnExactLeastTurnOfTable', WHERE WHAT IT READS IS OF BULK AT MOST 1048576: true; the input reads as it did. -/
def fnExactLeastTurnOfTableUptoRow : OpenClaim := { program := "ytejchneeheeldaa", sum := "0c2a8877d147e5aed313b94432c5cad22eb94f8d589ead81a3dfb0501ab93a50", func := "loop.example/g01324/laws.FnExactLeastTurnOfTable", spec := "fnExactLeastTurnOfTable", unfollowed := true, recurses := true, apart := false, narrowed := true }
def FnExactLeastTurnOfTableUptoSaid : Prop := fnExactLeastTurnOfTableUptoRow.holds Try.pinned (OpenSpec.upto fnExactLeastTurnOfTableSpec)

end Rows
end Go.Proofs.Ytejchneeheeldaa
