/-
  No cell of these rows narrows 'for every input' (looked for: loops, veiled, ifaces, maps, wideKeys, modest, calm, conditions, laid).
  DERIVED. THE GIVEN ROWS OF THIS SEAT. 12 by the template 'for every input the law returns true; each argument reads behind the call as it read before'; 0 by the template 'total and deterministic' (their statements: YteielocamgkabaaTotals.lean).
  GIVEN WITH THE SEED: the statements are not yours to turn. If you find one false, say at which input.
  Laid BY PROGRAM, IN A SANDBOX (cutbox-rows.mjs): the forced cells as the released guide's own fill.sh prints them over the translation 7f257e5bd0a1b0bc… (all of the seat's roots in one cut). By AI agents, Wed Nov 11 2026. No macro, syntax, notation, axiom, sorry.
-/
import Derived.Test.YteielocamgkabaaChecked
import GoSem.Claim
import GoSem.ClaimJoined
import GoSem.ClaimMapViews
import Derived.JoinedTies
import Derived.KernelRfl
namespace Go.Proofs.Yteielocamgkabaa
/- THE CELL 'sum', in the pinned program and in every row, IS THE sha256 OF THE DUMP (.gsa) THAT YteielocamgkabaaProg.lean LOADS. Nothing in Lean hashes anything: it is a label: what it is worth is what the hold of that sum in a sandbox is worth. -/
noncomputable def Try.pinned : Pinned := { name := "yteielocamgkabaa", sum := "7f257e5bd0a1b0bce17d8cb87fcf05b1521849d42f6f387f2eb27ac5d16f2d17", checked := Try.checked }
namespace Rows
def none {H : Type} : Left H := { results := [], args := [] }

/-- 'laws.FnExactDoubleTriangle': WHATEVER THE INPUT: true; the input reads as it did. -/
def fnExactDoubleTriangleSpec : ChangeSpec := { name := "fnExactDoubleTriangle", fn := fun _ => fun
  | [d] => { results := [.lit (.bool true)], args := [d] }
  | _ => none }
def fnExactDoubleTriangleRow : OpenClaim := { program := "yteielocamgkabaa", sum := "7f257e5bd0a1b0bce17d8cb87fcf05b1521849d42f6f387f2eb27ac5d16f2d17", func := "loop.example/g01324/laws.FnExactDoubleTriangle", spec := "fnExactDoubleTriangle", apart := false }
def FnExactDoubleTriangleSaid : Prop := fnExactDoubleTriangleRow.holds Try.pinned (OpenSpec.ofChange fnExactDoubleTriangleSpec)

/-- ITS FALSE NEIGHBOUR: 'it returns false'. Refute it at one input. -/
def fnExactDoubleTriangleWrong : ChangeSpec := { name := "fnExactDoubleTriangle", fn := fun _ => fun
  | [d] => { results := [.lit (.bool false)], args := [d] }
  | _ => none }
def FnExactDoubleTriangleWrongFalsely : Prop := fnExactDoubleTriangleRow.holds Try.pinned (OpenSpec.ofChange fnExactDoubleTriangleWrong)

/-- 'laws.FnExactDoThreadsMeet': WHATEVER THE INPUT: true; the input reads as it did. -/
def fnExactDoThreadsMeetSpec : ChangeSpec := { name := "fnExactDoThreadsMeet", fn := fun _ => fun
  | [d1, d2] => { results := [.lit (.bool true)], args := [d1, d2] }
  | _ => none }
def fnExactDoThreadsMeetRow : OpenClaim := { program := "yteielocamgkabaa", sum := "7f257e5bd0a1b0bce17d8cb87fcf05b1521849d42f6f387f2eb27ac5d16f2d17", func := "loop.example/g01324/laws.FnExactDoThreadsMeet", spec := "fnExactDoThreadsMeet", apart := false }
def FnExactDoThreadsMeetSaid : Prop := fnExactDoThreadsMeetRow.holds Try.pinned (OpenSpec.ofChange fnExactDoThreadsMeetSpec)

/-- ITS FALSE NEIGHBOUR: 'it returns false'. Refute it at one input. -/
def fnExactDoThreadsMeetWrong : ChangeSpec := { name := "fnExactDoThreadsMeet", fn := fun _ => fun
  | [d1, d2] => { results := [.lit (.bool false)], args := [d1, d2] }
  | _ => none }
def FnExactDoThreadsMeetWrongFalsely : Prop := fnExactDoThreadsMeetRow.holds Try.pinned (OpenSpec.ofChange fnExactDoThreadsMeetWrong)

/-- 'laws.FnExactHeightOf': WHATEVER THE INPUT: true; the input reads as it did. -/
def fnExactHeightOfSpec : ChangeSpec := { name := "fnExactHeightOf", fn := fun _ => fun
  | [d1, d2] => { results := [.lit (.bool true)], args := [d1, d2] }
  | _ => none }
def fnExactHeightOfRow : OpenClaim := { program := "yteielocamgkabaa", sum := "7f257e5bd0a1b0bce17d8cb87fcf05b1521849d42f6f387f2eb27ac5d16f2d17", func := "loop.example/g01324/laws.FnExactHeightOf", spec := "fnExactHeightOf", apart := false }
def FnExactHeightOfSaid : Prop := fnExactHeightOfRow.holds Try.pinned (OpenSpec.ofChange fnExactHeightOfSpec)

/-- ITS FALSE NEIGHBOUR: 'it returns false'. Refute it at one input. -/
def fnExactHeightOfWrong : ChangeSpec := { name := "fnExactHeightOf", fn := fun _ => fun
  | [d1, d2] => { results := [.lit (.bool false)], args := [d1, d2] }
  | _ => none }
def FnExactHeightOfWrongFalsely : Prop := fnExactHeightOfRow.holds Try.pinned (OpenSpec.ofChange fnExactHeightOfWrong)

/-- 'laws.FnExactArtThreads': WHATEVER THE INPUT: true; the input reads as it did. -/
def fnExactArtThreadsSpec : ChangeSpec := { name := "fnExactArtThreads", fn := fun _ => fun
  | [d] => { results := [.lit (.bool true)], args := [d] }
  | _ => none }
def fnExactArtThreadsRow : OpenClaim := { program := "yteielocamgkabaa", sum := "7f257e5bd0a1b0bce17d8cb87fcf05b1521849d42f6f387f2eb27ac5d16f2d17", func := "loop.example/g01324/laws.FnExactArtThreads", spec := "fnExactArtThreads", apart := false }
def FnExactArtThreadsSaid : Prop := fnExactArtThreadsRow.holds Try.pinned (OpenSpec.ofChange fnExactArtThreadsSpec)

/-- ITS FALSE NEIGHBOUR: 'it returns false'. Refute it at one input. -/
def fnExactArtThreadsWrong : ChangeSpec := { name := "fnExactArtThreads", fn := fun _ => fun
  | [d] => { results := [.lit (.bool false)], args := [d] }
  | _ => none }
def FnExactArtThreadsWrongFalsely : Prop := fnExactArtThreadsRow.holds Try.pinned (OpenSpec.ofChange fnExactArtThreadsWrong)

/-- 'laws.FnExactMeetingOf': WHATEVER THE INPUT: true; the input reads as it did. -/
def fnExactMeetingOfSpec : ChangeSpec := { name := "fnExactMeetingOf", fn := fun _ => fun
  | [d1, d2] => { results := [.lit (.bool true)], args := [d1, d2] }
  | _ => none }
def fnExactMeetingOfRow : OpenClaim := { program := "yteielocamgkabaa", sum := "7f257e5bd0a1b0bce17d8cb87fcf05b1521849d42f6f387f2eb27ac5d16f2d17", func := "loop.example/g01324/laws.FnExactMeetingOf", spec := "fnExactMeetingOf", apart := false }
def FnExactMeetingOfSaid : Prop := fnExactMeetingOfRow.holds Try.pinned (OpenSpec.ofChange fnExactMeetingOfSpec)

/-- ITS FALSE NEIGHBOUR: 'it returns false'. Refute it at one input. -/
def fnExactMeetingOfWrong : ChangeSpec := { name := "fnExactMeetingOf", fn := fun _ => fun
  | [d1, d2] => { results := [.lit (.bool false)], args := [d1, d2] }
  | _ => none }
def FnExactMeetingOfWrongFalsely : Prop := fnExactMeetingOfRow.holds Try.pinned (OpenSpec.ofChange fnExactMeetingOfWrong)

/-- 'laws.FnExactAreThreads': WHATEVER THE INPUT: true; the input reads as it did. -/
def fnExactAreThreadsSpec : ChangeSpec := { name := "fnExactAreThreads", fn := fun _ => fun
  | [d] => { results := [.lit (.bool true)], args := [d] }
  | _ => none }
def fnExactAreThreadsRow : OpenClaim := { program := "yteielocamgkabaa", sum := "7f257e5bd0a1b0bce17d8cb87fcf05b1521849d42f6f387f2eb27ac5d16f2d17", func := "loop.example/g01324/laws.FnExactAreThreads", spec := "fnExactAreThreads", apart := false }
def FnExactAreThreadsSaid : Prop := fnExactAreThreadsRow.holds Try.pinned (OpenSpec.ofChange fnExactAreThreadsSpec)

/-- ITS FALSE NEIGHBOUR: 'it returns false'. Refute it at one input. -/
def fnExactAreThreadsWrong : ChangeSpec := { name := "fnExactAreThreads", fn := fun _ => fun
  | [d] => { results := [.lit (.bool false)], args := [d] }
  | _ => none }
def FnExactAreThreadsWrongFalsely : Prop := fnExactAreThreadsRow.holds Try.pinned (OpenSpec.ofChange fnExactAreThreadsWrong)

/-- 'laws.FnExactCountMeetings': WHATEVER THE INPUT: true; the input reads as it did. -/
def fnExactCountMeetingsSpec : ChangeSpec := { name := "fnExactCountMeetings", fn := fun _ => fun
  | [d] => { results := [.lit (.bool true)], args := [d] }
  | _ => none }
def fnExactCountMeetingsRow : OpenClaim := { program := "yteielocamgkabaa", sum := "7f257e5bd0a1b0bce17d8cb87fcf05b1521849d42f6f387f2eb27ac5d16f2d17", func := "loop.example/g01324/laws.FnExactCountMeetings", spec := "fnExactCountMeetings", apart := false }
def FnExactCountMeetingsSaid : Prop := fnExactCountMeetingsRow.holds Try.pinned (OpenSpec.ofChange fnExactCountMeetingsSpec)

/-- ITS FALSE NEIGHBOUR: 'it returns false'. Refute it at one input. -/
def fnExactCountMeetingsWrong : ChangeSpec := { name := "fnExactCountMeetings", fn := fun _ => fun
  | [d] => { results := [.lit (.bool false)], args := [d] }
  | _ => none }
def FnExactCountMeetingsWrongFalsely : Prop := fnExactCountMeetingsRow.holds Try.pinned (OpenSpec.ofChange fnExactCountMeetingsWrong)

/-- 'laws.FnExactIsUnder': WHATEVER THE INPUT: true; the input reads as it did. -/
def fnExactIsUnderSpec : ChangeSpec := { name := "fnExactIsUnder", fn := fun _ => fun
  | [d1, d2, d3] => { results := [.lit (.bool true)], args := [d1, d2, d3] }
  | _ => none }
def fnExactIsUnderRow : OpenClaim := { program := "yteielocamgkabaa", sum := "7f257e5bd0a1b0bce17d8cb87fcf05b1521849d42f6f387f2eb27ac5d16f2d17", func := "loop.example/g01324/laws.FnExactIsUnder", spec := "fnExactIsUnder", unfollowed := true, recurses := true, apart := false }
def FnExactIsUnderSaid : Prop := fnExactIsUnderRow.holds Try.pinned (OpenSpec.ofChange fnExactIsUnderSpec)

/-- ITS FALSE NEIGHBOUR: 'it returns false'. Refute it at one input. -/
def fnExactIsUnderWrong : ChangeSpec := { name := "fnExactIsUnder", fn := fun _ => fun
  | [d1, d2, d3] => { results := [.lit (.bool false)], args := [d1, d2, d3] }
  | _ => none }
def FnExactIsUnderWrongFalsely : Prop := fnExactIsUnderRow.holds Try.pinned (OpenSpec.ofChange fnExactIsUnderWrong)

/-- 'laws.FnExactScaleThreads': WHATEVER THE INPUT: true; the input reads as it did. -/
def fnExactScaleThreadsSpec : ChangeSpec := { name := "fnExactScaleThreads", fn := fun _ => fun
  | [d1, d2] => { results := [.lit (.bool true)], args := [d1, d2] }
  | _ => none }
def fnExactScaleThreadsRow : OpenClaim := { program := "yteielocamgkabaa", sum := "7f257e5bd0a1b0bce17d8cb87fcf05b1521849d42f6f387f2eb27ac5d16f2d17", func := "loop.example/g01324/laws.FnExactScaleThreads", spec := "fnExactScaleThreads", apart := false }
def FnExactScaleThreadsSaid : Prop := fnExactScaleThreadsRow.holds Try.pinned (OpenSpec.ofChange fnExactScaleThreadsSpec)

/-- ITS FALSE NEIGHBOUR: 'it returns false'. Refute it at one input. -/
def fnExactScaleThreadsWrong : ChangeSpec := { name := "fnExactScaleThreads", fn := fun _ => fun
  | [d1, d2] => { results := [.lit (.bool false)], args := [d1, d2] }
  | _ => none }
def FnExactScaleThreadsWrongFalsely : Prop := fnExactScaleThreadsRow.holds Try.pinned (OpenSpec.ofChange fnExactScaleThreadsWrong)

/-- 'laws.FnExactCountUnder': WHATEVER THE INPUT: true; the input reads as it did. -/
def fnExactCountUnderSpec : ChangeSpec := { name := "fnExactCountUnder", fn := fun _ => fun
  | [d] => { results := [.lit (.bool true)], args := [d] }
  | _ => none }
def fnExactCountUnderRow : OpenClaim := { program := "yteielocamgkabaa", sum := "7f257e5bd0a1b0bce17d8cb87fcf05b1521849d42f6f387f2eb27ac5d16f2d17", func := "loop.example/g01324/laws.FnExactCountUnder", spec := "fnExactCountUnder", unfollowed := true, recurses := true, apart := false }
def FnExactCountUnderSaid : Prop := fnExactCountUnderRow.holds Try.pinned (OpenSpec.ofChange fnExactCountUnderSpec)

/-- ITS FALSE NEIGHBOUR: 'it returns false'. Refute it at one input. -/
def fnExactCountUnderWrong : ChangeSpec := { name := "fnExactCountUnder", fn := fun _ => fun
  | [d] => { results := [.lit (.bool false)], args := [d] }
  | _ => none }
def FnExactCountUnderWrongFalsely : Prop := fnExactCountUnderRow.holds Try.pinned (OpenSpec.ofChange fnExactCountUnderWrong)

/-- 'laws.FnExactHighestAt': WHATEVER THE INPUT: true; the input reads as it did. -/
def fnExactHighestAtSpec : ChangeSpec := { name := "fnExactHighestAt", fn := fun _ => fun
  | [d1, d2] => { results := [.lit (.bool true)], args := [d1, d2] }
  | _ => none }
def fnExactHighestAtRow : OpenClaim := { program := "yteielocamgkabaa", sum := "7f257e5bd0a1b0bce17d8cb87fcf05b1521849d42f6f387f2eb27ac5d16f2d17", func := "loop.example/g01324/laws.FnExactHighestAt", spec := "fnExactHighestAt", apart := false }
def FnExactHighestAtSaid : Prop := fnExactHighestAtRow.holds Try.pinned (OpenSpec.ofChange fnExactHighestAtSpec)

/-- ITS FALSE NEIGHBOUR: 'it returns false'. Refute it at one input. -/
def fnExactHighestAtWrong : ChangeSpec := { name := "fnExactHighestAt", fn := fun _ => fun
  | [d1, d2] => { results := [.lit (.bool false)], args := [d1, d2] }
  | _ => none }
def FnExactHighestAtWrongFalsely : Prop := fnExactHighestAtRow.holds Try.pinned (OpenSpec.ofChange fnExactHighestAtWrong)

/-- 'laws.FnExactHiddenThreads': WHATEVER THE INPUT: true; the input reads as it did. -/
def fnExactHiddenThreadsSpec : ChangeSpec := { name := "fnExactHiddenThreads", fn := fun _ => fun
  | [d] => { results := [.lit (.bool true)], args := [d] }
  | _ => none }
def fnExactHiddenThreadsRow : OpenClaim := { program := "yteielocamgkabaa", sum := "7f257e5bd0a1b0bce17d8cb87fcf05b1521849d42f6f387f2eb27ac5d16f2d17", func := "loop.example/g01324/laws.FnExactHiddenThreads", spec := "fnExactHiddenThreads", unfollowed := true, recurses := true, apart := false }
def FnExactHiddenThreadsSaid : Prop := fnExactHiddenThreadsRow.holds Try.pinned (OpenSpec.ofChange fnExactHiddenThreadsSpec)

/-- ITS FALSE NEIGHBOUR: 'it returns false'. Refute it at one input. -/
def fnExactHiddenThreadsWrong : ChangeSpec := { name := "fnExactHiddenThreads", fn := fun _ => fun
  | [d] => { results := [.lit (.bool false)], args := [d] }
  | _ => none }
def FnExactHiddenThreadsWrongFalsely : Prop := fnExactHiddenThreadsRow.holds Try.pinned (OpenSpec.ofChange fnExactHiddenThreadsWrong)

/- THE SECOND FORM. 'bulk': how many values and letters a reading holds, each counted each time it is reached (what is shared counts as often as it is met; a slice's spare places count too). A statement '..UptoSaid' is the law's where the arguments, and the package variables that the reading takes, are together of bulk at most 1048576: NARROWER than '..Said'. Prove '..Said' where nothing that the law and all that it calls make is longer than what came in: it says more and counts as full. Else prove '..UptoSaid'. A law counts once. -/
mutual
def uptoBulk {H : Type} : DataW H → Nat
  | .lit (.string bytes) => bytes.length + 1
  | .lit _ => 1
  | .nil => 1
  | .ptr d => uptoBulk d + 1
  | .slice elems spare => uptoBulkAll elems + uptoBulkAll spare + 1
  | .agg parts => uptoBulkAll parts + 1
  | .iface _ d => uptoBulk d + 1
  | .map entries => uptoBulkEntries entries + 1
  | .held _ => 1
def uptoBulkAll {H : Type} : List (DataW H) → Nat
  | [] => 0
  | d :: r => uptoBulk d + uptoBulkAll r
def uptoBulkEntries {H : Type} : List (Lit × DataW H) → Nat
  | [] => 0
  | x :: r => uptoBulkEntry x + uptoBulkEntries r
def uptoBulkEntry {H : Type} : Lit × DataW H → Nat
  | (.string bytes, d) => bytes.length + uptoBulk d + 1
  | (_, d) => uptoBulk d + 1
 end
def uptoSmall : (H : Type) → List (DataW H) → Bool := fun _ ds => decide (uptoBulkAll ds ≤ 1048576)
def OpenSpec.upto (s : _root_.Go.ChangeSpec) : _root_.Go.OpenSpec := { _root_.Go.OpenSpec.ofChange s with cond := some uptoSmall }

/-- 'laws.FnExactDoubleTriangle', WHERE WHAT IT READS IS OF BULK AT MOST 1048576: true; the input reads as it did. -/
def fnExactDoubleTriangleUptoRow : OpenClaim := { program := "yteielocamgkabaa", sum := "7f257e5bd0a1b0bce17d8cb87fcf05b1521849d42f6f387f2eb27ac5d16f2d17", func := "loop.example/g01324/laws.FnExactDoubleTriangle", spec := "fnExactDoubleTriangle", apart := false, narrowed := true }
def FnExactDoubleTriangleUptoSaid : Prop := fnExactDoubleTriangleUptoRow.holds Try.pinned (OpenSpec.upto fnExactDoubleTriangleSpec)

/-- 'laws.FnExactDoThreadsMeet', WHERE WHAT IT READS IS OF BULK AT MOST 1048576: true; the input reads as it did. -/
def fnExactDoThreadsMeetUptoRow : OpenClaim := { program := "yteielocamgkabaa", sum := "7f257e5bd0a1b0bce17d8cb87fcf05b1521849d42f6f387f2eb27ac5d16f2d17", func := "loop.example/g01324/laws.FnExactDoThreadsMeet", spec := "fnExactDoThreadsMeet", apart := false, narrowed := true }
def FnExactDoThreadsMeetUptoSaid : Prop := fnExactDoThreadsMeetUptoRow.holds Try.pinned (OpenSpec.upto fnExactDoThreadsMeetSpec)

/-- 'laws.FnExactHeightOf', WHERE WHAT IT READS IS OF BULK AT MOST 1048576: true; the input reads as it did. -/
def fnExactHeightOfUptoRow : OpenClaim := { program := "yteielocamgkabaa", sum := "7f257e5bd0a1b0bce17d8cb87fcf05b1521849d42f6f387f2eb27ac5d16f2d17", func := "loop.example/g01324/laws.FnExactHeightOf", spec := "fnExactHeightOf", apart := false, narrowed := true }
def FnExactHeightOfUptoSaid : Prop := fnExactHeightOfUptoRow.holds Try.pinned (OpenSpec.upto fnExactHeightOfSpec)

/-- 'laws.FnExactArtThreads', WHERE WHAT IT READS IS OF BULK AT MOST 1048576: true; the input reads as it did. -/
def fnExactArtThreadsUptoRow : OpenClaim := { program := "yteielocamgkabaa", sum := "7f257e5bd0a1b0bce17d8cb87fcf05b1521849d42f6f387f2eb27ac5d16f2d17", func := "loop.example/g01324/laws.FnExactArtThreads", spec := "fnExactArtThreads", apart := false, narrowed := true }
def FnExactArtThreadsUptoSaid : Prop := fnExactArtThreadsUptoRow.holds Try.pinned (OpenSpec.upto fnExactArtThreadsSpec)

/-- 'laws.FnExactMeetingOf', WHERE WHAT IT READS IS OF BULK AT MOST 1048576: true; the input reads as it did. -/
def fnExactMeetingOfUptoRow : OpenClaim := { program := "yteielocamgkabaa", sum := "7f257e5bd0a1b0bce17d8cb87fcf05b1521849d42f6f387f2eb27ac5d16f2d17", func := "loop.example/g01324/laws.FnExactMeetingOf", spec := "fnExactMeetingOf", apart := false, narrowed := true }
def FnExactMeetingOfUptoSaid : Prop := fnExactMeetingOfUptoRow.holds Try.pinned (OpenSpec.upto fnExactMeetingOfSpec)

/-- 'laws.FnExactAreThreads', WHERE WHAT IT READS IS OF BULK AT MOST 1048576: true; the input reads as it did. -/
def fnExactAreThreadsUptoRow : OpenClaim := { program := "yteielocamgkabaa", sum := "7f257e5bd0a1b0bce17d8cb87fcf05b1521849d42f6f387f2eb27ac5d16f2d17", func := "loop.example/g01324/laws.FnExactAreThreads", spec := "fnExactAreThreads", apart := false, narrowed := true }
def FnExactAreThreadsUptoSaid : Prop := fnExactAreThreadsUptoRow.holds Try.pinned (OpenSpec.upto fnExactAreThreadsSpec)

/-- 'laws.FnExactCountMeetings', WHERE WHAT IT READS IS OF BULK AT MOST 1048576: true; the input reads as it did. -/
def fnExactCountMeetingsUptoRow : OpenClaim := { program := "yteielocamgkabaa", sum := "7f257e5bd0a1b0bce17d8cb87fcf05b1521849d42f6f387f2eb27ac5d16f2d17", func := "loop.example/g01324/laws.FnExactCountMeetings", spec := "fnExactCountMeetings", apart := false, narrowed := true }
def FnExactCountMeetingsUptoSaid : Prop := fnExactCountMeetingsUptoRow.holds Try.pinned (OpenSpec.upto fnExactCountMeetingsSpec)

/-- 'laws.FnExactIsUnder', WHERE WHAT IT READS IS OF BULK AT MOST 1048576: true; the input reads as it did. -/
def fnExactIsUnderUptoRow : OpenClaim := { program := "yteielocamgkabaa", sum := "7f257e5bd0a1b0bce17d8cb87fcf05b1521849d42f6f387f2eb27ac5d16f2d17", func := "loop.example/g01324/laws.FnExactIsUnder", spec := "fnExactIsUnder", unfollowed := true, recurses := true, apart := false, narrowed := true }
def FnExactIsUnderUptoSaid : Prop := fnExactIsUnderUptoRow.holds Try.pinned (OpenSpec.upto fnExactIsUnderSpec)

/-- 'laws.FnExactScaleThreads', WHERE WHAT IT READS IS OF BULK AT MOST 1048576: true; the input reads as it did. -/
def fnExactScaleThreadsUptoRow : OpenClaim := { program := "yteielocamgkabaa", sum := "7f257e5bd0a1b0bce17d8cb87fcf05b1521849d42f6f387f2eb27ac5d16f2d17", func := "loop.example/g01324/laws.FnExactScaleThreads", spec := "fnExactScaleThreads", apart := false, narrowed := true }
def FnExactScaleThreadsUptoSaid : Prop := fnExactScaleThreadsUptoRow.holds Try.pinned (OpenSpec.upto fnExactScaleThreadsSpec)

/-- 'laws.FnExactCountUnder', WHERE WHAT IT READS IS OF BULK AT MOST 1048576: true; the input reads as it did. -/
def fnExactCountUnderUptoRow : OpenClaim := { program := "yteielocamgkabaa", sum := "7f257e5bd0a1b0bce17d8cb87fcf05b1521849d42f6f387f2eb27ac5d16f2d17", func := "loop.example/g01324/laws.FnExactCountUnder", spec := "fnExactCountUnder", unfollowed := true, recurses := true, apart := false, narrowed := true }
def FnExactCountUnderUptoSaid : Prop := fnExactCountUnderUptoRow.holds Try.pinned (OpenSpec.upto fnExactCountUnderSpec)

/-- 'laws.FnExactHighestAt', WHERE WHAT IT READS IS OF BULK AT MOST 1048576: true; the input reads as it did. -/
def fnExactHighestAtUptoRow : OpenClaim := { program := "yteielocamgkabaa", sum := "7f257e5bd0a1b0bce17d8cb87fcf05b1521849d42f6f387f2eb27ac5d16f2d17", func := "loop.example/g01324/laws.FnExactHighestAt", spec := "fnExactHighestAt", apart := false, narrowed := true }
def FnExactHighestAtUptoSaid : Prop := fnExactHighestAtUptoRow.holds Try.pinned (OpenSpec.upto fnExactHighestAtSpec)

/-- 'laws.FnExactHiddenThreads', WHERE WHAT IT READS IS OF BULK AT MOST 1048576: true; the input reads as it did. -/
def fnExactHiddenThreadsUptoRow : OpenClaim := { program := "yteielocamgkabaa", sum := "7f257e5bd0a1b0bce17d8cb87fcf05b1521849d42f6f387f2eb27ac5d16f2d17", func := "loop.example/g01324/laws.FnExactHiddenThreads", spec := "fnExactHiddenThreads", unfollowed := true, recurses := true, apart := false, narrowed := true }
def FnExactHiddenThreadsUptoSaid : Prop := fnExactHiddenThreadsUptoRow.holds Try.pinned (OpenSpec.upto fnExactHiddenThreadsSpec)

end Rows
end Go.Proofs.Yteielocamgkabaa
