/-
  No cell of these rows narrows 'for every input' (looked for: loops, veiled, ifaces, maps, wideKeys, modest, calm, conditions, laid).
  DERIVED. THE GIVEN ROWS OF THIS SEAT. 5 by the template 'for every input the law returns true; each argument reads behind the call as it read before'; 0 by the template 'total and deterministic' (their statements: YtljlfdhocaikeaaTotals.lean).
  GIVEN WITH THE SEED: the statements are not yours to turn. If you find one false, say at which input.
  Laid BY PROGRAM, IN A SANDBOX (cutbox-rows.mjs): the forced cells as the released guide's own fill.sh prints them over the translation b9689da09539052e… (all of the seat's roots in one cut). By AI agents, Wed Nov 11 2026. No macro, syntax, notation, axiom, sorry.
-/
import Derived.Test.YtljlfdhocaikeaaChecked
import GoSem.Claim
import GoSem.ClaimJoined
import GoSem.ClaimMapViews
import Derived.JoinedTies
import Derived.KernelRfl
namespace Go.Proofs.Ytljlfdhocaikeaa
/- THE CELL 'sum', in the pinned program and in every row, IS THE sha256 OF THE DUMP (.gsa) THAT YtljlfdhocaikeaaProg.lean LOADS. Nothing in Lean hashes anything: it is a label: what it is worth is what the hold of that sum in a sandbox is worth. -/
noncomputable def Try.pinned : Pinned := { name := "ytljlfdhocaikeaa", sum := "b9689da09539052e7dd3113ebb4ba572e08e934a94800374e973a740b7bf1f45", checked := Try.checked }
namespace Rows
def none {H : Type} : Left H := { results := [], args := [] }

/-- 'laws.FnExactTrainPeriod': WHATEVER THE INPUT: true; the input reads as it did. -/
def fnExactTrainPeriodSpec : ChangeSpec := { name := "fnExactTrainPeriod", fn := fun _ => fun
  | [d] => { results := [.lit (.bool true)], args := [d] }
  | _ => none }
def fnExactTrainPeriodRow : OpenClaim := { program := "ytljlfdhocaikeaa", sum := "b9689da09539052e7dd3113ebb4ba572e08e934a94800374e973a740b7bf1f45", func := "loop.example/g01324/laws.FnExactTrainPeriod", spec := "fnExactTrainPeriod", unfollowed := true, recurses := true, apart := false }
def FnExactTrainPeriodSaid : Prop := fnExactTrainPeriodRow.holds Try.pinned (OpenSpec.ofChange fnExactTrainPeriodSpec)

/-- ITS FALSE NEIGHBOUR: 'it returns false'. Refute it at one input. -/
def fnExactTrainPeriodWrong : ChangeSpec := { name := "fnExactTrainPeriod", fn := fun _ => fun
  | [d] => { results := [.lit (.bool false)], args := [d] }
  | _ => none }
def FnExactTrainPeriodWrongFalsely : Prop := fnExactTrainPeriodRow.holds Try.pinned (OpenSpec.ofChange fnExactTrainPeriodWrong)

/-- 'laws.FnExactTrainTeeth': WHATEVER THE INPUT: true; the input reads as it did. -/
def fnExactTrainTeethSpec : ChangeSpec := { name := "fnExactTrainTeeth", fn := fun _ => fun
  | [d1, d2] => { results := [.lit (.bool true)], args := [d1, d2] }
  | _ => none }
def fnExactTrainTeethRow : OpenClaim := { program := "ytljlfdhocaikeaa", sum := "b9689da09539052e7dd3113ebb4ba572e08e934a94800374e973a740b7bf1f45", func := "loop.example/g01324/laws.FnExactTrainTeeth", spec := "fnExactTrainTeeth", unfollowed := true, recurses := true, apart := false }
def FnExactTrainTeethSaid : Prop := fnExactTrainTeethRow.holds Try.pinned (OpenSpec.ofChange fnExactTrainTeethSpec)

/-- ITS FALSE NEIGHBOUR: 'it returns false'. Refute it at one input. -/
def fnExactTrainTeethWrong : ChangeSpec := { name := "fnExactTrainTeeth", fn := fun _ => fun
  | [d1, d2] => { results := [.lit (.bool false)], args := [d1, d2] }
  | _ => none }
def FnExactTrainTeethWrongFalsely : Prop := fnExactTrainTeethRow.holds Try.pinned (OpenSpec.ofChange fnExactTrainTeethWrong)

/-- 'laws.FnExactLeastTurns': WHATEVER THE INPUT: true; the input reads as it did. -/
def fnExactLeastTurnsSpec : ChangeSpec := { name := "fnExactLeastTurns", fn := fun _ => fun
  | [d] => { results := [.lit (.bool true)], args := [d] }
  | _ => none }
def fnExactLeastTurnsRow : OpenClaim := { program := "ytljlfdhocaikeaa", sum := "b9689da09539052e7dd3113ebb4ba572e08e934a94800374e973a740b7bf1f45", func := "loop.example/g01324/laws.FnExactLeastTurns", spec := "fnExactLeastTurns", unfollowed := true, recurses := true, apart := false }
def FnExactLeastTurnsSaid : Prop := fnExactLeastTurnsRow.holds Try.pinned (OpenSpec.ofChange fnExactLeastTurnsSpec)

/-- ITS FALSE NEIGHBOUR: 'it returns false'. Refute it at one input. -/
def fnExactLeastTurnsWrong : ChangeSpec := { name := "fnExactLeastTurns", fn := fun _ => fun
  | [d] => { results := [.lit (.bool false)], args := [d] }
  | _ => none }
def FnExactLeastTurnsWrongFalsely : Prop := fnExactLeastTurnsRow.holds Try.pinned (OpenSpec.ofChange fnExactLeastTurnsWrong)

/-- 'laws.FnExactAreInGear': WHATEVER THE INPUT: true; the input reads as it did. -/
def fnExactAreInGearSpec : ChangeSpec := { name := "fnExactAreInGear", fn := fun _ => fun
  | [d1, d2] => { results := [.lit (.bool true)], args := [d1, d2] }
  | _ => none }
def fnExactAreInGearRow : OpenClaim := { program := "ytljlfdhocaikeaa", sum := "b9689da09539052e7dd3113ebb4ba572e08e934a94800374e973a740b7bf1f45", func := "loop.example/g01324/laws.FnExactAreInGear", spec := "fnExactAreInGear", unfollowed := true, recurses := true, apart := false }
def FnExactAreInGearSaid : Prop := fnExactAreInGearRow.holds Try.pinned (OpenSpec.ofChange fnExactAreInGearSpec)

/-- ITS FALSE NEIGHBOUR: 'it returns false'. Refute it at one input. -/
def fnExactAreInGearWrong : ChangeSpec := { name := "fnExactAreInGear", fn := fun _ => fun
  | [d1, d2] => { results := [.lit (.bool false)], args := [d1, d2] }
  | _ => none }
def FnExactAreInGearWrongFalsely : Prop := fnExactAreInGearRow.holds Try.pinned (OpenSpec.ofChange fnExactAreInGearWrong)

/-- 'laws.FnExactTrainTurns': WHATEVER THE INPUT: true; the input reads as it did. -/
def fnExactTrainTurnsSpec : ChangeSpec := { name := "fnExactTrainTurns", fn := fun _ => fun
  | [d1, d2] => { results := [.lit (.bool true)], args := [d1, d2] }
  | _ => none }
def fnExactTrainTurnsRow : OpenClaim := { program := "ytljlfdhocaikeaa", sum := "b9689da09539052e7dd3113ebb4ba572e08e934a94800374e973a740b7bf1f45", func := "loop.example/g01324/laws.FnExactTrainTurns", spec := "fnExactTrainTurns", unfollowed := true, recurses := true, apart := false }
def FnExactTrainTurnsSaid : Prop := fnExactTrainTurnsRow.holds Try.pinned (OpenSpec.ofChange fnExactTrainTurnsSpec)

/-- ITS FALSE NEIGHBOUR: 'it returns false'. Refute it at one input. -/
def fnExactTrainTurnsWrong : ChangeSpec := { name := "fnExactTrainTurns", fn := fun _ => fun
  | [d1, d2] => { results := [.lit (.bool false)], args := [d1, d2] }
  | _ => none }
def FnExactTrainTurnsWrongFalsely : Prop := fnExactTrainTurnsRow.holds Try.pinned (OpenSpec.ofChange fnExactTrainTurnsWrong)

/- THE SECOND FORM. 'bulk': how many values and letters a reading holds, each counted each time it is reached (what is shared counts as often as it is met; a slice's spare places count too). A statement '..UptoSaid' is the law's where the arguments, and the package variables that the reading takes, are together of bulk at most 1048576: NARROWER than '..Said'. Prove '..Said' where nothing that the law and all that it calls make is longer than what came in: it says more and counts as full. Else prove '..UptoSaid'. A law counts once. -/
mutual
def uptoBulk {H : Type} : DataW H → Nat
  | .lit (.string bytes) => bytes.length + 1
  | .lit _ => 1
  | .nil => 1
  | .ptr d => uptoBulk d + 1
  | .slice elems spare => uptoBulkAll elems + uptoBulkAll spare + 1
  | .agg parts => uptoBulkAll parts + 1
  | .iface _ d => uptoBulk d + 1
  | .map entries => uptoBulkEntries entries + 1
  | .held _ => 1
def uptoBulkAll {H : Type} : List (DataW H) → Nat
  | [] => 0
  | d :: r => uptoBulk d + uptoBulkAll r
def uptoBulkEntries {H : Type} : List (Lit × DataW H) → Nat
  | [] => 0
  | x :: r => uptoBulkEntry x + uptoBulkEntries r
def uptoBulkEntry {H : Type} : Lit × DataW H → Nat
  | (.string bytes, d) => bytes.length + uptoBulk d + 1
  | (_, d) => uptoBulk d + 1
 end
def uptoSmall : (H : Type) → List (DataW H) → Bool := fun _ ds => decide (uptoBulkAll ds ≤ 1048576)
def OpenSpec.upto (s : _root_.Go.ChangeSpec) : _root_.Go.OpenSpec := { _root_.Go.OpenSpec.ofChange s with cond := some uptoSmall }

/-- 'laws.FnExactTrainPeriod', WHERE WHAT IT READS IS OF BULK AT MOST 1048576: true; the input reads as it did. -/
def fnExactTrainPeriodUptoRow : OpenClaim := { program := "ytljlfdhocaikeaa", sum := "b9689da09539052e7dd3113ebb4ba572e08e934a94800374e973a740b7bf1f45", func := "loop.example/g01324/laws.FnExactTrainPeriod", spec := "fnExactTrainPeriod", unfollowed := true, recurses := true, apart := false, narrowed := true }
def FnExactTrainPeriodUptoSaid : Prop := fnExactTrainPeriodUptoRow.holds Try.pinned (OpenSpec.upto fnExactTrainPeriodSpec)

/-- 'laws.FnExactTrainTeeth', WHERE WHAT IT READS IS OF BULK AT MOST 1048576: true; the input reads as it did. -/
def fnExactTrainTeethUptoRow : OpenClaim := { program := "ytljlfdhocaikeaa", sum := "b9689da09539052e7dd3113ebb4ba572e08e934a94800374e973a740b7bf1f45", func := "loop.example/g01324/laws.FnExactTrainTeeth", spec := "fnExactTrainTeeth", unfollowed := true, recurses := true, apart := false, narrowed := true }
def FnExactTrainTeethUptoSaid : Prop := fnExactTrainTeethUptoRow.holds Try.pinned (OpenSpec.upto fnExactTrainTeethSpec)

/-- 'laws.FnExactLeastTurns', WHERE WHAT IT READS IS OF BULK AT MOST 1048576: true; the input reads as it did. -/
def fnExactLeastTurnsUptoRow : OpenClaim := { program := "ytljlfdhocaikeaa", sum := "b9689da09539052e7dd3113ebb4ba572e08e934a94800374e973a740b7bf1f45", func := "loop.example/g01324/laws.FnExactLeastTurns", spec := "fnExactLeastTurns", unfollowed := true, recurses := true, apart := false, narrowed := true }
def FnExactLeastTurnsUptoSaid : Prop := fnExactLeastTurnsUptoRow.holds Try.pinned (OpenSpec.upto fnExactLeastTurnsSpec)

/-- 'laws.FnExactAreInGear', WHERE WHAT IT READS IS OF BULK AT MOST 1048576: true; the input reads as it did. -/
def fnExactAreInGearUptoRow : OpenClaim := { program := "ytljlfdhocaikeaa", sum := "b9689da09539052e7dd3113ebb4ba572e08e934a94800374e973a740b7bf1f45", func := "loop.example/g01324/laws.FnExactAreInGear", spec := "fnExactAreInGear", unfollowed := true, recurses := true, apart := false, narrowed := true }
def FnExactAreInGearUptoSaid : Prop := fnExactAreInGearUptoRow.holds Try.pinned (OpenSpec.upto fnExactAreInGearSpec)

/-- 'laws.FnExactTrainTurns', WHERE WHAT IT READS IS OF BULK AT MOST 1048576: true; the input reads as it did. -/
def fnExactTrainTurnsUptoRow : OpenClaim := { program := "ytljlfdhocaikeaa", sum := "b9689da09539052e7dd3113ebb4ba572e08e934a94800374e973a740b7bf1f45", func := "loop.example/g01324/laws.FnExactTrainTurns", spec := "fnExactTrainTurns", unfollowed := true, recurses := true, apart := false, narrowed := true }
def FnExactTrainTurnsUptoSaid : Prop := fnExactTrainTurnsUptoRow.holds Try.pinned (OpenSpec.upto fnExactTrainTurnsSpec)

end Rows
end Go.Proofs.Ytljlfdhocaikeaa
