/-
  No cell of these rows narrows 'for every input' (looked for: loops, veiled, ifaces, maps, wideKeys, modest, calm, conditions, laid).
  DERIVED. THE GIVEN ROWS OF THIS SEAT. 11 by the template 'for every input the law returns true; each argument reads behind the call as it read before'; 0 by the template 'total and deterministic' (their statements: YtkjgheabcjmicaaTotals.lean).
  GIVEN WITH THE SEED: the statements are not yours to turn. If you find one false, say at which input.
  Laid BY PROGRAM, IN A SANDBOX (cutbox-rows.mjs): the forced cells as the released guide's own fill.sh prints them over the translation a56f8e497ee28e11… (all of the seat's roots in one cut). By AI agents, Wed Nov 11 2026. No macro, syntax, notation, axiom, sorry.
-/
import Derived.Test.YtkjgheabcjmicaaChecked
import GoSem.Claim
import GoSem.ClaimJoined
import GoSem.ClaimMapViews
import Derived.JoinedTies
import Derived.KernelRfl
namespace Go.Proofs.Ytkjgheabcjmicaa
/- THE CELL 'sum', in the pinned program and in every row, IS THE sha256 OF THE DUMP (.gsa) THAT YtkjgheabcjmicaaProg.lean LOADS. Nothing in Lean hashes anything: it is a label: what it is worth is what the hold of that sum in a sandbox is worth. -/
noncomputable def Try.pinned : Pinned := { name := "ytkjgheabcjmicaa", sum := "a56f8e497ee28e11b208dd80866d9fb62a56a51ee34cbc241167e03112b826f1", checked := Try.checked }
namespace Rows
def none {H : Type} : Left H := { results := [], args := [] }

/-- 'laws.FnExactTeethAt': WHATEVER THE INPUT: true; the input reads as it did. -/
def fnExactTeethAtSpec : ChangeSpec := { name := "fnExactTeethAt", fn := fun _ => fun
  | [d1, d2, d3] => { results := [.lit (.bool true)], args := [d1, d2, d3] }
  | _ => none }
def fnExactTeethAtRow : OpenClaim := { program := "ytkjgheabcjmicaa", sum := "a56f8e497ee28e11b208dd80866d9fb62a56a51ee34cbc241167e03112b826f1", func := "loop.example/g01324/laws.FnExactTeethAt", spec := "fnExactTeethAt", unfollowed := true, recurses := true, apart := false }
def FnExactTeethAtSaid : Prop := fnExactTeethAtRow.holds Try.pinned (OpenSpec.ofChange fnExactTeethAtSpec)

/-- ITS FALSE NEIGHBOUR: 'it returns false'. Refute it at one input. -/
def fnExactTeethAtWrong : ChangeSpec := { name := "fnExactTeethAt", fn := fun _ => fun
  | [d1, d2, d3] => { results := [.lit (.bool false)], args := [d1, d2, d3] }
  | _ => none }
def FnExactTeethAtWrongFalsely : Prop := fnExactTeethAtRow.holds Try.pinned (OpenSpec.ofChange fnExactTeethAtWrong)

/-- 'laws.FnExactPetalsOf': WHATEVER THE INPUT: true; the input reads as it did. -/
def fnExactPetalsOfSpec : ChangeSpec := { name := "fnExactPetalsOf", fn := fun _ => fun
  | [d1, d2] => { results := [.lit (.bool true)], args := [d1, d2] }
  | _ => none }
def fnExactPetalsOfRow : OpenClaim := { program := "ytkjgheabcjmicaa", sum := "a56f8e497ee28e11b208dd80866d9fb62a56a51ee34cbc241167e03112b826f1", func := "loop.example/g01324/laws.FnExactPetalsOf", spec := "fnExactPetalsOf", unfollowed := true, recurses := true, apart := false }
def FnExactPetalsOfSaid : Prop := fnExactPetalsOfRow.holds Try.pinned (OpenSpec.ofChange fnExactPetalsOfSpec)

/-- ITS FALSE NEIGHBOUR: 'it returns false'. Refute it at one input. -/
def fnExactPetalsOfWrong : ChangeSpec := { name := "fnExactPetalsOf", fn := fun _ => fun
  | [d1, d2] => { results := [.lit (.bool false)], args := [d1, d2] }
  | _ => none }
def FnExactPetalsOfWrongFalsely : Prop := fnExactPetalsOfRow.holds Try.pinned (OpenSpec.ofChange fnExactPetalsOfWrong)

/-- 'laws.FnExactRoundsOf': WHATEVER THE INPUT: true; the input reads as it did. -/
def fnExactRoundsOfSpec : ChangeSpec := { name := "fnExactRoundsOf", fn := fun _ => fun
  | [d1, d2] => { results := [.lit (.bool true)], args := [d1, d2] }
  | _ => none }
def fnExactRoundsOfRow : OpenClaim := { program := "ytkjgheabcjmicaa", sum := "a56f8e497ee28e11b208dd80866d9fb62a56a51ee34cbc241167e03112b826f1", func := "loop.example/g01324/laws.FnExactRoundsOf", spec := "fnExactRoundsOf", unfollowed := true, recurses := true, apart := false }
def FnExactRoundsOfSaid : Prop := fnExactRoundsOfRow.holds Try.pinned (OpenSpec.ofChange fnExactRoundsOfSpec)

/-- ITS FALSE NEIGHBOUR: 'it returns false'. Refute it at one input. -/
def fnExactRoundsOfWrong : ChangeSpec := { name := "fnExactRoundsOf", fn := fun _ => fun
  | [d1, d2] => { results := [.lit (.bool false)], args := [d1, d2] }
  | _ => none }
def FnExactRoundsOfWrongFalsely : Prop := fnExactRoundsOfRow.holds Try.pinned (OpenSpec.ofChange fnExactRoundsOfWrong)

/-- 'laws.FnExactSameCusps': WHATEVER THE INPUT: true; the input reads as it did. -/
def fnExactSameCuspsSpec : ChangeSpec := { name := "fnExactSameCusps", fn := fun _ => fun
  | [d1, d2, d3] => { results := [.lit (.bool true)], args := [d1, d2, d3] }
  | _ => none }
def fnExactSameCuspsRow : OpenClaim := { program := "ytkjgheabcjmicaa", sum := "a56f8e497ee28e11b208dd80866d9fb62a56a51ee34cbc241167e03112b826f1", func := "loop.example/g01324/laws.FnExactSameCusps", spec := "fnExactSameCusps", unfollowed := true, recurses := true, apart := false }
def FnExactSameCuspsSaid : Prop := fnExactSameCuspsRow.holds Try.pinned (OpenSpec.ofChange fnExactSameCuspsSpec)

/-- ITS FALSE NEIGHBOUR: 'it returns false'. Refute it at one input. -/
def fnExactSameCuspsWrong : ChangeSpec := { name := "fnExactSameCusps", fn := fun _ => fun
  | [d1, d2, d3] => { results := [.lit (.bool false)], args := [d1, d2, d3] }
  | _ => none }
def FnExactSameCuspsWrongFalsely : Prop := fnExactSameCuspsRow.holds Try.pinned (OpenSpec.ofChange fnExactSameCuspsWrong)

/-- 'laws.FnExactDoMeet': WHATEVER THE INPUT: true; the input reads as it did. -/
def fnExactDoMeetSpec : ChangeSpec := { name := "fnExactDoMeet", fn := fun _ => fun
  | [d1, d2, d3, d4] => { results := [.lit (.bool true)], args := [d1, d2, d3, d4] }
  | _ => none }
def fnExactDoMeetRow : OpenClaim := { program := "ytkjgheabcjmicaa", sum := "a56f8e497ee28e11b208dd80866d9fb62a56a51ee34cbc241167e03112b826f1", func := "loop.example/g01324/laws.FnExactDoMeet", spec := "fnExactDoMeet", unfollowed := true, recurses := true, apart := false }
def FnExactDoMeetSaid : Prop := fnExactDoMeetRow.holds Try.pinned (OpenSpec.ofChange fnExactDoMeetSpec)

/-- ITS FALSE NEIGHBOUR: 'it returns false'. Refute it at one input. -/
def fnExactDoMeetWrong : ChangeSpec := { name := "fnExactDoMeet", fn := fun _ => fun
  | [d1, d2, d3, d4] => { results := [.lit (.bool false)], args := [d1, d2, d3, d4] }
  | _ => none }
def FnExactDoMeetWrongFalsely : Prop := fnExactDoMeetRow.holds Try.pinned (OpenSpec.ofChange fnExactDoMeetWrong)

/-- 'laws.FnExactFirstMeeting': WHATEVER THE INPUT: true; the input reads as it did. -/
def fnExactFirstMeetingSpec : ChangeSpec := { name := "fnExactFirstMeeting", fn := fun _ => fun
  | [d1, d2, d3, d4] => { results := [.lit (.bool true)], args := [d1, d2, d3, d4] }
  | _ => none }
def fnExactFirstMeetingRow : OpenClaim := { program := "ytkjgheabcjmicaa", sum := "a56f8e497ee28e11b208dd80866d9fb62a56a51ee34cbc241167e03112b826f1", func := "loop.example/g01324/laws.FnExactFirstMeeting", spec := "fnExactFirstMeeting", unfollowed := true, recurses := true, apart := false }
def FnExactFirstMeetingSaid : Prop := fnExactFirstMeetingRow.holds Try.pinned (OpenSpec.ofChange fnExactFirstMeetingSpec)

/-- ITS FALSE NEIGHBOUR: 'it returns false'. Refute it at one input. -/
def fnExactFirstMeetingWrong : ChangeSpec := { name := "fnExactFirstMeeting", fn := fun _ => fun
  | [d1, d2, d3, d4] => { results := [.lit (.bool false)], args := [d1, d2, d3, d4] }
  | _ => none }
def FnExactFirstMeetingWrongFalsely : Prop := fnExactFirstMeetingRow.holds Try.pinned (OpenSpec.ofChange fnExactFirstMeetingWrong)

/-- 'laws.FnExactSpinsOf': WHATEVER THE INPUT: true; the input reads as it did. -/
def fnExactSpinsOfSpec : ChangeSpec := { name := "fnExactSpinsOf", fn := fun _ => fun
  | [d1, d2, d3] => { results := [.lit (.bool true)], args := [d1, d2, d3] }
  | _ => none }
def fnExactSpinsOfRow : OpenClaim := { program := "ytkjgheabcjmicaa", sum := "a56f8e497ee28e11b208dd80866d9fb62a56a51ee34cbc241167e03112b826f1", func := "loop.example/g01324/laws.FnExactSpinsOf", spec := "fnExactSpinsOf", unfollowed := true, recurses := true, apart := false }
def FnExactSpinsOfSaid : Prop := fnExactSpinsOfRow.holds Try.pinned (OpenSpec.ofChange fnExactSpinsOfSpec)

/-- ITS FALSE NEIGHBOUR: 'it returns false'. Refute it at one input. -/
def fnExactSpinsOfWrong : ChangeSpec := { name := "fnExactSpinsOf", fn := fun _ => fun
  | [d1, d2, d3] => { results := [.lit (.bool false)], args := [d1, d2, d3] }
  | _ => none }
def FnExactSpinsOfWrongFalsely : Prop := fnExactSpinsOfRow.holds Try.pinned (OpenSpec.ofChange fnExactSpinsOfWrong)

/-- 'laws.FnExactStarOfGears': WHATEVER THE INPUT: true; the input reads as it did. -/
def fnExactStarOfGearsSpec : ChangeSpec := { name := "fnExactStarOfGears", fn := fun _ => fun
  | [d1, d2] => { results := [.lit (.bool true)], args := [d1, d2] }
  | _ => none }
def fnExactStarOfGearsRow : OpenClaim := { program := "ytkjgheabcjmicaa", sum := "a56f8e497ee28e11b208dd80866d9fb62a56a51ee34cbc241167e03112b826f1", func := "loop.example/g01324/laws.FnExactStarOfGears", spec := "fnExactStarOfGears", unfollowed := true, recurses := true, apart := false }
def FnExactStarOfGearsSaid : Prop := fnExactStarOfGearsRow.holds Try.pinned (OpenSpec.ofChange fnExactStarOfGearsSpec)

/-- ITS FALSE NEIGHBOUR: 'it returns false'. Refute it at one input. -/
def fnExactStarOfGearsWrong : ChangeSpec := { name := "fnExactStarOfGears", fn := fun _ => fun
  | [d1, d2] => { results := [.lit (.bool false)], args := [d1, d2] }
  | _ => none }
def FnExactStarOfGearsWrongFalsely : Prop := fnExactStarOfGearsRow.holds Try.pinned (OpenSpec.ofChange fnExactStarOfGearsWrong)

/-- 'laws.FnExactWheelsFor': WHATEVER THE INPUT: true; the input reads as it did. -/
def fnExactWheelsForSpec : ChangeSpec := { name := "fnExactWheelsFor", fn := fun _ => fun
  | [d1, d2] => { results := [.lit (.bool true)], args := [d1, d2] }
  | _ => none }
def fnExactWheelsForRow : OpenClaim := { program := "ytkjgheabcjmicaa", sum := "a56f8e497ee28e11b208dd80866d9fb62a56a51ee34cbc241167e03112b826f1", func := "loop.example/g01324/laws.FnExactWheelsFor", spec := "fnExactWheelsFor", unfollowed := true, recurses := true, apart := false }
def FnExactWheelsForSaid : Prop := fnExactWheelsForRow.holds Try.pinned (OpenSpec.ofChange fnExactWheelsForSpec)

/-- ITS FALSE NEIGHBOUR: 'it returns false'. Refute it at one input. -/
def fnExactWheelsForWrong : ChangeSpec := { name := "fnExactWheelsFor", fn := fun _ => fun
  | [d1, d2] => { results := [.lit (.bool false)], args := [d1, d2] }
  | _ => none }
def FnExactWheelsForWrongFalsely : Prop := fnExactWheelsForRow.holds Try.pinned (OpenSpec.ofChange fnExactWheelsForWrong)

/-- 'laws.FnExactCuspsOf': WHATEVER THE INPUT: true; the input reads as it did. -/
def fnExactCuspsOfSpec : ChangeSpec := { name := "fnExactCuspsOf", fn := fun _ => fun
  | [d1, d2] => { results := [.lit (.bool true)], args := [d1, d2] }
  | _ => none }
def fnExactCuspsOfRow : OpenClaim := { program := "ytkjgheabcjmicaa", sum := "a56f8e497ee28e11b208dd80866d9fb62a56a51ee34cbc241167e03112b826f1", func := "loop.example/g01324/laws.FnExactCuspsOf", spec := "fnExactCuspsOf", unfollowed := true, recurses := true, apart := false }
def FnExactCuspsOfSaid : Prop := fnExactCuspsOfRow.holds Try.pinned (OpenSpec.ofChange fnExactCuspsOfSpec)

/-- ITS FALSE NEIGHBOUR: 'it returns false'. Refute it at one input. -/
def fnExactCuspsOfWrong : ChangeSpec := { name := "fnExactCuspsOf", fn := fun _ => fun
  | [d1, d2] => { results := [.lit (.bool false)], args := [d1, d2] }
  | _ => none }
def FnExactCuspsOfWrongFalsely : Prop := fnExactCuspsOfRow.holds Try.pinned (OpenSpec.ofChange fnExactCuspsOfWrong)

/-- 'laws.FnExactMeetingsOf': WHATEVER THE INPUT: true; the input reads as it did. -/
def fnExactMeetingsOfSpec : ChangeSpec := { name := "fnExactMeetingsOf", fn := fun _ => fun
  | [d1, d2, d3] => { results := [.lit (.bool true)], args := [d1, d2, d3] }
  | _ => none }
def fnExactMeetingsOfRow : OpenClaim := { program := "ytkjgheabcjmicaa", sum := "a56f8e497ee28e11b208dd80866d9fb62a56a51ee34cbc241167e03112b826f1", func := "loop.example/g01324/laws.FnExactMeetingsOf", spec := "fnExactMeetingsOf", unfollowed := true, recurses := true, apart := false }
def FnExactMeetingsOfSaid : Prop := fnExactMeetingsOfRow.holds Try.pinned (OpenSpec.ofChange fnExactMeetingsOfSpec)

/-- ITS FALSE NEIGHBOUR: 'it returns false'. Refute it at one input. -/
def fnExactMeetingsOfWrong : ChangeSpec := { name := "fnExactMeetingsOf", fn := fun _ => fun
  | [d1, d2, d3] => { results := [.lit (.bool false)], args := [d1, d2, d3] }
  | _ => none }
def FnExactMeetingsOfWrongFalsely : Prop := fnExactMeetingsOfRow.holds Try.pinned (OpenSpec.ofChange fnExactMeetingsOfWrong)

/- THE SECOND FORM. 'bulk': how many values and letters a reading holds, each counted each time it is reached (what is shared counts as often as it is met; a slice's spare places count too). A statement '..UptoSaid' is the law's where the arguments, and the package variables that the reading takes, are together of bulk at most 1048576: NARROWER than '..Said'. Prove '..Said' where nothing that the law and all that it calls make is longer than what came in: it says more and counts as full. Else prove '..UptoSaid'. A law counts once. -/
mutual
def uptoBulk {H : Type} : DataW H → Nat
  | .lit (.string bytes) => bytes.length + 1
  | .lit _ => 1
  | .nil => 1
  | .ptr d => uptoBulk d + 1
  | .slice elems spare => uptoBulkAll elems + uptoBulkAll spare + 1
  | .agg parts => uptoBulkAll parts + 1
  | .iface _ d => uptoBulk d + 1
  | .map entries => uptoBulkEntries entries + 1
  | .held _ => 1
def uptoBulkAll {H : Type} : List (DataW H) → Nat
  | [] => 0
  | d :: r => uptoBulk d + uptoBulkAll r
def uptoBulkEntries {H : Type} : List (Lit × DataW H) → Nat
  | [] => 0
  | x :: r => uptoBulkEntry x + uptoBulkEntries r
def uptoBulkEntry {H : Type} : Lit × DataW H → Nat
  | (.string bytes, d) => bytes.length + uptoBulk d + 1
  | (_, d) => uptoBulk d + 1
 end
def uptoSmall : (H : Type) → List (DataW H) → Bool := fun _ ds => decide (uptoBulkAll ds ≤ 1048576)
def OpenSpec.upto (s : _root_.Go.ChangeSpec) : _root_.Go.OpenSpec := { _root_.Go.OpenSpec.ofChange s with cond := some uptoSmall }

/-- 'laws.FnExactTeethAt', WHERE WHAT IT READS IS OF BULK AT MOST 1048576: true; the input reads as it did. -/
def fnExactTeethAtUptoRow : OpenClaim := { program := "ytkjgheabcjmicaa", sum := "a56f8e497ee28e11b208dd80866d9fb62a56a51ee34cbc241167e03112b826f1", func := "loop.example/g01324/laws.FnExactTeethAt", spec := "fnExactTeethAt", unfollowed := true, recurses := true, apart := false, narrowed := true }
def FnExactTeethAtUptoSaid : Prop := fnExactTeethAtUptoRow.holds Try.pinned (OpenSpec.upto fnExactTeethAtSpec)

/-- 'laws.FnExactPetalsOf', WHERE WHAT IT READS IS OF BULK AT MOST 1048576: true; the input reads as it did. -/
def fnExactPetalsOfUptoRow : OpenClaim := { program := "ytkjgheabcjmicaa", sum := "a56f8e497ee28e11b208dd80866d9fb62a56a51ee34cbc241167e03112b826f1", func := "loop.example/g01324/laws.FnExactPetalsOf", spec := "fnExactPetalsOf", unfollowed := true, recurses := true, apart := false, narrowed := true }
def FnExactPetalsOfUptoSaid : Prop := fnExactPetalsOfUptoRow.holds Try.pinned (OpenSpec.upto fnExactPetalsOfSpec)

/-- 'laws.FnExactRoundsOf', WHERE WHAT IT READS IS OF BULK AT MOST 1048576: true; the input reads as it did. -/
def fnExactRoundsOfUptoRow : OpenClaim := { program := "ytkjgheabcjmicaa", sum := "a56f8e497ee28e11b208dd80866d9fb62a56a51ee34cbc241167e03112b826f1", func := "loop.example/g01324/laws.FnExactRoundsOf", spec := "fnExactRoundsOf", unfollowed := true, recurses := true, apart := false, narrowed := true }
def FnExactRoundsOfUptoSaid : Prop := fnExactRoundsOfUptoRow.holds Try.pinned (OpenSpec.upto fnExactRoundsOfSpec)

/-- 'laws.FnExactSameCusps', WHERE WHAT IT READS IS OF BULK AT MOST 1048576: true; the input reads as it did. -/
def fnExactSameCuspsUptoRow : OpenClaim := { program := "ytkjgheabcjmicaa", sum := "a56f8e497ee28e11b208dd80866d9fb62a56a51ee34cbc241167e03112b826f1", func := "loop.example/g01324/laws.FnExactSameCusps", spec := "fnExactSameCusps", unfollowed := true, recurses := true, apart := false, narrowed := true }
def FnExactSameCuspsUptoSaid : Prop := fnExactSameCuspsUptoRow.holds Try.pinned (OpenSpec.upto fnExactSameCuspsSpec)

/-- 'laws.FnExactDoMeet', WHERE WHAT IT READS IS OF BULK AT MOST 1048576: true; the input reads as it did. -/
def fnExactDoMeetUptoRow : OpenClaim := { program := "ytkjgheabcjmicaa", sum := "a56f8e497ee28e11b208dd80866d9fb62a56a51ee34cbc241167e03112b826f1", func := "loop.example/g01324/laws.FnExactDoMeet", spec := "fnExactDoMeet", unfollowed := true, recurses := true, apart := false, narrowed := true }
def FnExactDoMeetUptoSaid : Prop := fnExactDoMeetUptoRow.holds Try.pinned (OpenSpec.upto fnExactDoMeetSpec)

/-- 'laws.FnExactFirstMeeting', WHERE WHAT IT READS IS OF BULK AT MOST 1048576: true; the input reads as it did. -/
def fnExactFirstMeetingUptoRow : OpenClaim := { program := "ytkjgheabcjmicaa", sum := "a56f8e497ee28e11b208dd80866d9fb62a56a51ee34cbc241167e03112b826f1", func := "loop.example/g01324/laws.FnExactFirstMeeting", spec := "fnExactFirstMeeting", unfollowed := true, recurses := true, apart := false, narrowed := true }
def FnExactFirstMeetingUptoSaid : Prop := fnExactFirstMeetingUptoRow.holds Try.pinned (OpenSpec.upto fnExactFirstMeetingSpec)

/-- 'laws.FnExactSpinsOf', WHERE WHAT IT READS IS OF BULK AT MOST 1048576: true; the input reads as it did. -/
def fnExactSpinsOfUptoRow : OpenClaim := { program := "ytkjgheabcjmicaa", sum := "a56f8e497ee28e11b208dd80866d9fb62a56a51ee34cbc241167e03112b826f1", func := "loop.example/g01324/laws.FnExactSpinsOf", spec := "fnExactSpinsOf", unfollowed := true, recurses := true, apart := false, narrowed := true }
def FnExactSpinsOfUptoSaid : Prop := fnExactSpinsOfUptoRow.holds Try.pinned (OpenSpec.upto fnExactSpinsOfSpec)

/-- 'laws.FnExactStarOfGears', WHERE WHAT IT READS IS OF BULK AT MOST 1048576: true; the input reads as it did. -/
def fnExactStarOfGearsUptoRow : OpenClaim := { program := "ytkjgheabcjmicaa", sum := "a56f8e497ee28e11b208dd80866d9fb62a56a51ee34cbc241167e03112b826f1", func := "loop.example/g01324/laws.FnExactStarOfGears", spec := "fnExactStarOfGears", unfollowed := true, recurses := true, apart := false, narrowed := true }
def FnExactStarOfGearsUptoSaid : Prop := fnExactStarOfGearsUptoRow.holds Try.pinned (OpenSpec.upto fnExactStarOfGearsSpec)

/-- 'laws.FnExactWheelsFor', WHERE WHAT IT READS IS OF BULK AT MOST 1048576: true; the input reads as it did. -/
def fnExactWheelsForUptoRow : OpenClaim := { program := "ytkjgheabcjmicaa", sum := "a56f8e497ee28e11b208dd80866d9fb62a56a51ee34cbc241167e03112b826f1", func := "loop.example/g01324/laws.FnExactWheelsFor", spec := "fnExactWheelsFor", unfollowed := true, recurses := true, apart := false, narrowed := true }
def FnExactWheelsForUptoSaid : Prop := fnExactWheelsForUptoRow.holds Try.pinned (OpenSpec.upto fnExactWheelsForSpec)

/-- 'laws.FnExactCuspsOf', WHERE WHAT IT READS IS OF BULK AT MOST 1048576: true; the input reads as it did. -/
def fnExactCuspsOfUptoRow : OpenClaim := { program := "ytkjgheabcjmicaa", sum := "a56f8e497ee28e11b208dd80866d9fb62a56a51ee34cbc241167e03112b826f1", func := "loop.example/g01324/laws.FnExactCuspsOf", spec := "fnExactCuspsOf", unfollowed := true, recurses := true, apart := false, narrowed := true }
def FnExactCuspsOfUptoSaid : Prop := fnExactCuspsOfUptoRow.holds Try.pinned (OpenSpec.upto fnExactCuspsOfSpec)

/-- 'laws.FnExactMeetingsOf', WHERE WHAT IT READS IS OF BULK AT MOST 1048576: true; the input reads as it did. -/
def fnExactMeetingsOfUptoRow : OpenClaim := { program := "ytkjgheabcjmicaa", sum := "a56f8e497ee28e11b208dd80866d9fb62a56a51ee34cbc241167e03112b826f1", func := "loop.example/g01324/laws.FnExactMeetingsOf", spec := "fnExactMeetingsOf", unfollowed := true, recurses := true, apart := false, narrowed := true }
def FnExactMeetingsOfUptoSaid : Prop := fnExactMeetingsOfUptoRow.holds Try.pinned (OpenSpec.upto fnExactMeetingsOfSpec)

end Rows
end Go.Proofs.Ytkjgheabcjmicaa
