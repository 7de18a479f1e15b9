/-
  No cell of these rows narrows 'for every input' (looked for: loops, veiled, ifaces, maps, wideKeys, modest, calm, conditions, laid).
  DERIVED. THE GIVEN ROWS OF THIS SEAT. 6 by the template 'for every input the law returns true; each argument reads behind the call as it read before'; 0 by the template 'total and deterministic' (their statements: YtafbnilpipcjfaaTotals.lean).
  GIVEN WITH THE SEED: the statements are not yours to turn. If you find one false, say at which input.
  Laid BY PROGRAM, IN A SANDBOX (cutbox-rows.mjs): the forced cells as the released guide's own fill.sh prints them over the translation c8c843f53a015d39… (all of the seat's roots in one cut). By AI agents, Wed Nov 11 2026. No macro, syntax, notation, axiom, sorry.
-/
import Derived.Test.YtafbnilpipcjfaaChecked
import GoSem.Claim
import GoSem.ClaimJoined
import GoSem.ClaimMapViews
import Derived.JoinedTies
import Derived.KernelRfl
namespace Go.Proofs.Ytafbnilpipcjfaa
/- THE CELL 'sum', in the pinned program and in every row, IS THE sha256 OF THE DUMP (.gsa) THAT YtafbnilpipcjfaaProg.lean LOADS. Nothing in Lean hashes anything: it is a label: what it is worth is what the hold of that sum in a sandbox is worth. -/
noncomputable def Try.pinned : Pinned := { name := "ytafbnilpipcjfaa", sum := "c8c843f53a015d39a962c71a567d145a5bf2eb61640779f8f35dcef57d3cdc6d", checked := Try.checked }
namespace Rows
def none {H : Type} : Left H := { results := [], args := [] }

/-- 'laws.FnExactHiddenThreads': WHATEVER THE INPUT: true; the input reads as it did. -/
def fnExactHiddenThreadsSpec : ChangeSpec := { name := "fnExactHiddenThreads", fn := fun _ => fun
  | [d] => { results := [.lit (.bool true)], args := [d] }
  | _ => none }
def fnExactHiddenThreadsRow : OpenClaim := { program := "ytafbnilpipcjfaa", sum := "c8c843f53a015d39a962c71a567d145a5bf2eb61640779f8f35dcef57d3cdc6d", func := "loop.example/g01324/laws.FnExactHiddenThreads", spec := "fnExactHiddenThreads", unfollowed := true, recurses := true, apart := false }
def FnExactHiddenThreadsSaid : Prop := fnExactHiddenThreadsRow.holds Try.pinned (OpenSpec.ofChange fnExactHiddenThreadsSpec)

/-- ITS FALSE NEIGHBOUR: 'it returns false'. Refute it at one input. -/
def fnExactHiddenThreadsWrong : ChangeSpec := { name := "fnExactHiddenThreads", fn := fun _ => fun
  | [d] => { results := [.lit (.bool false)], args := [d] }
  | _ => none }
def FnExactHiddenThreadsWrongFalsely : Prop := fnExactHiddenThreadsRow.holds Try.pinned (OpenSpec.ofChange fnExactHiddenThreadsWrong)

/-- 'laws.FnExactEdgeThreads': WHATEVER THE INPUT: true; the input reads as it did. -/
def fnExactEdgeThreadsSpec : ChangeSpec := { name := "fnExactEdgeThreads", fn := fun _ => fun
  | [d] => { results := [.lit (.bool true)], args := [d] }
  | _ => none }
def fnExactEdgeThreadsRow : OpenClaim := { program := "ytafbnilpipcjfaa", sum := "c8c843f53a015d39a962c71a567d145a5bf2eb61640779f8f35dcef57d3cdc6d", func := "loop.example/g01324/laws.FnExactEdgeThreads", spec := "fnExactEdgeThreads", apart := false }
def FnExactEdgeThreadsSaid : Prop := fnExactEdgeThreadsRow.holds Try.pinned (OpenSpec.ofChange fnExactEdgeThreadsSpec)

/-- ITS FALSE NEIGHBOUR: 'it returns false'. Refute it at one input. -/
def fnExactEdgeThreadsWrong : ChangeSpec := { name := "fnExactEdgeThreads", fn := fun _ => fun
  | [d] => { results := [.lit (.bool false)], args := [d] }
  | _ => none }
def FnExactEdgeThreadsWrongFalsely : Prop := fnExactEdgeThreadsRow.holds Try.pinned (OpenSpec.ofChange fnExactEdgeThreadsWrong)

/-- 'laws.FnExactAddThread': WHATEVER THE INPUT: true; the input reads as it did. -/
def fnExactAddThreadSpec : ChangeSpec := { name := "fnExactAddThread", fn := fun _ => fun
  | [d1, d2] => { results := [.lit (.bool true)], args := [d1, d2] }
  | _ => none }
def fnExactAddThreadRow : OpenClaim := { program := "ytafbnilpipcjfaa", sum := "c8c843f53a015d39a962c71a567d145a5bf2eb61640779f8f35dcef57d3cdc6d", func := "loop.example/g01324/laws.FnExactAddThread", spec := "fnExactAddThread", inPlace := ["slices.overlaps[loop.example/g01324/impl.Thread]"], unfollowed := true, recurses := true, apart := false }
def FnExactAddThreadSaid : Prop := fnExactAddThreadRow.holds Try.pinned (OpenSpec.ofChange fnExactAddThreadSpec)

/-- ITS FALSE NEIGHBOUR: 'it returns false'. Refute it at one input. -/
def fnExactAddThreadWrong : ChangeSpec := { name := "fnExactAddThread", fn := fun _ => fun
  | [d1, d2] => { results := [.lit (.bool false)], args := [d1, d2] }
  | _ => none }
def FnExactAddThreadWrongFalsely : Prop := fnExactAddThreadRow.holds Try.pinned (OpenSpec.ofChange fnExactAddThreadWrong)

/-- 'laws.FnExactEdgeCorners': WHATEVER THE INPUT: true; the input reads as it did. -/
def fnExactEdgeCornersSpec : ChangeSpec := { name := "fnExactEdgeCorners", fn := fun _ => fun
  | [d] => { results := [.lit (.bool true)], args := [d] }
  | _ => none }
def fnExactEdgeCornersRow : OpenClaim := { program := "ytafbnilpipcjfaa", sum := "c8c843f53a015d39a962c71a567d145a5bf2eb61640779f8f35dcef57d3cdc6d", func := "loop.example/g01324/laws.FnExactEdgeCorners", spec := "fnExactEdgeCorners", apart := false }
def FnExactEdgeCornersSaid : Prop := fnExactEdgeCornersRow.holds Try.pinned (OpenSpec.ofChange fnExactEdgeCornersSpec)

/-- ITS FALSE NEIGHBOUR: 'it returns false'. Refute it at one input. -/
def fnExactEdgeCornersWrong : ChangeSpec := { name := "fnExactEdgeCorners", fn := fun _ => fun
  | [d] => { results := [.lit (.bool false)], args := [d] }
  | _ => none }
def FnExactEdgeCornersWrongFalsely : Prop := fnExactEdgeCornersRow.holds Try.pinned (OpenSpec.ofChange fnExactEdgeCornersWrong)

/-- 'laws.FnExactMeetingsOnThread': WHATEVER THE INPUT: true; the input reads as it did. -/
def fnExactMeetingsOnThreadSpec : ChangeSpec := { name := "fnExactMeetingsOnThread", fn := fun _ => fun
  | [d1, d2] => { results := [.lit (.bool true)], args := [d1, d2] }
  | _ => none }
def fnExactMeetingsOnThreadRow : OpenClaim := { program := "ytafbnilpipcjfaa", sum := "c8c843f53a015d39a962c71a567d145a5bf2eb61640779f8f35dcef57d3cdc6d", func := "loop.example/g01324/laws.FnExactMeetingsOnThread", spec := "fnExactMeetingsOnThread", unfollowed := true, recurses := true, apart := false }
def FnExactMeetingsOnThreadSaid : Prop := fnExactMeetingsOnThreadRow.holds Try.pinned (OpenSpec.ofChange fnExactMeetingsOnThreadSpec)

/-- ITS FALSE NEIGHBOUR: 'it returns false'. Refute it at one input. -/
def fnExactMeetingsOnThreadWrong : ChangeSpec := { name := "fnExactMeetingsOnThread", fn := fun _ => fun
  | [d1, d2] => { results := [.lit (.bool false)], args := [d1, d2] }
  | _ => none }
def FnExactMeetingsOnThreadWrongFalsely : Prop := fnExactMeetingsOnThreadRow.holds Try.pinned (OpenSpec.ofChange fnExactMeetingsOnThreadWrong)

/-- 'laws.FnExactExchangeThreads': WHATEVER THE INPUT: true; the input reads as it did. -/
def fnExactExchangeThreadsSpec : ChangeSpec := { name := "fnExactExchangeThreads", fn := fun _ => fun
  | [d] => { results := [.lit (.bool true)], args := [d] }
  | _ => none }
def fnExactExchangeThreadsRow : OpenClaim := { program := "ytafbnilpipcjfaa", sum := "c8c843f53a015d39a962c71a567d145a5bf2eb61640779f8f35dcef57d3cdc6d", func := "loop.example/g01324/laws.FnExactExchangeThreads", spec := "fnExactExchangeThreads", unfollowed := true, recurses := true, apart := false }
def FnExactExchangeThreadsSaid : Prop := fnExactExchangeThreadsRow.holds Try.pinned (OpenSpec.ofChange fnExactExchangeThreadsSpec)

/-- ITS FALSE NEIGHBOUR: 'it returns false'. Refute it at one input. -/
def fnExactExchangeThreadsWrong : ChangeSpec := { name := "fnExactExchangeThreads", fn := fun _ => fun
  | [d] => { results := [.lit (.bool false)], args := [d] }
  | _ => none }
def FnExactExchangeThreadsWrongFalsely : Prop := fnExactExchangeThreadsRow.holds Try.pinned (OpenSpec.ofChange fnExactExchangeThreadsWrong)

/- THE SECOND FORM. 'bulk': how many values and letters a reading holds, each counted each time it is reached (what is shared counts as often as it is met; a slice's spare places count too). A statement '..UptoSaid' is the law's where the arguments, and the package variables that the reading takes, are together of bulk at most 1048576: NARROWER than '..Said'. Prove '..Said' where nothing that the law and all that it calls make is longer than what came in: it says more and counts as full. Else prove '..UptoSaid'. A law counts once. -/
mutual
def uptoBulk {H : Type} : DataW H → Nat
  | .lit (.string bytes) => bytes.length + 1
  | .lit _ => 1
  | .nil => 1
  | .ptr d => uptoBulk d + 1
  | .slice elems spare => uptoBulkAll elems + uptoBulkAll spare + 1
  | .agg parts => uptoBulkAll parts + 1
  | .iface _ d => uptoBulk d + 1
  | .map entries => uptoBulkEntries entries + 1
  | .held _ => 1
def uptoBulkAll {H : Type} : List (DataW H) → Nat
  | [] => 0
  | d :: r => uptoBulk d + uptoBulkAll r
def uptoBulkEntries {H : Type} : List (Lit × DataW H) → Nat
  | [] => 0
  | x :: r => uptoBulkEntry x + uptoBulkEntries r
def uptoBulkEntry {H : Type} : Lit × DataW H → Nat
  | (.string bytes, d) => bytes.length + uptoBulk d + 1
  | (_, d) => uptoBulk d + 1
 end
def uptoSmall : (H : Type) → List (DataW H) → Bool := fun _ ds => decide (uptoBulkAll ds ≤ 1048576)
def OpenSpec.upto (s : _root_.Go.ChangeSpec) : _root_.Go.OpenSpec := { _root_.Go.OpenSpec.ofChange s with cond := some uptoSmall }

/-- 'laws.FnExactHiddenThreads', WHERE WHAT IT READS IS OF BULK AT MOST 1048576: true; the input reads as it did. -/
def fnExactHiddenThreadsUptoRow : OpenClaim := { program := "ytafbnilpipcjfaa", sum := "c8c843f53a015d39a962c71a567d145a5bf2eb61640779f8f35dcef57d3cdc6d", func := "loop.example/g01324/laws.FnExactHiddenThreads", spec := "fnExactHiddenThreads", unfollowed := true, recurses := true, apart := false, narrowed := true }
def FnExactHiddenThreadsUptoSaid : Prop := fnExactHiddenThreadsUptoRow.holds Try.pinned (OpenSpec.upto fnExactHiddenThreadsSpec)

/-- 'laws.FnExactEdgeThreads', WHERE WHAT IT READS IS OF BULK AT MOST 1048576: true; the input reads as it did. -/
def fnExactEdgeThreadsUptoRow : OpenClaim := { program := "ytafbnilpipcjfaa", sum := "c8c843f53a015d39a962c71a567d145a5bf2eb61640779f8f35dcef57d3cdc6d", func := "loop.example/g01324/laws.FnExactEdgeThreads", spec := "fnExactEdgeThreads", apart := false, narrowed := true }
def FnExactEdgeThreadsUptoSaid : Prop := fnExactEdgeThreadsUptoRow.holds Try.pinned (OpenSpec.upto fnExactEdgeThreadsSpec)

/-- 'laws.FnExactAddThread', WHERE WHAT IT READS IS OF BULK AT MOST 1048576: true; the input reads as it did. -/
def fnExactAddThreadUptoRow : OpenClaim := { program := "ytafbnilpipcjfaa", sum := "c8c843f53a015d39a962c71a567d145a5bf2eb61640779f8f35dcef57d3cdc6d", func := "loop.example/g01324/laws.FnExactAddThread", spec := "fnExactAddThread", inPlace := ["slices.overlaps[loop.example/g01324/impl.Thread]"], unfollowed := true, recurses := true, apart := false, narrowed := true }
def FnExactAddThreadUptoSaid : Prop := fnExactAddThreadUptoRow.holds Try.pinned (OpenSpec.upto fnExactAddThreadSpec)

/-- 'laws.FnExactEdgeCorners', WHERE WHAT IT READS IS OF BULK AT MOST 1048576: true; the input reads as it did. -/
def fnExactEdgeCornersUptoRow : OpenClaim := { program := "ytafbnilpipcjfaa", sum := "c8c843f53a015d39a962c71a567d145a5bf2eb61640779f8f35dcef57d3cdc6d", func := "loop.example/g01324/laws.FnExactEdgeCorners", spec := "fnExactEdgeCorners", apart := false, narrowed := true }
def FnExactEdgeCornersUptoSaid : Prop := fnExactEdgeCornersUptoRow.holds Try.pinned (OpenSpec.upto fnExactEdgeCornersSpec)

/-- 'laws.FnExactMeetingsOnThread', WHERE WHAT IT READS IS OF BULK AT MOST 1048576: true; the input reads as it did. -/
def fnExactMeetingsOnThreadUptoRow : OpenClaim := { program := "ytafbnilpipcjfaa", sum := "c8c843f53a015d39a962c71a567d145a5bf2eb61640779f8f35dcef57d3cdc6d", func := "loop.example/g01324/laws.FnExactMeetingsOnThread", spec := "fnExactMeetingsOnThread", unfollowed := true, recurses := true, apart := false, narrowed := true }
def FnExactMeetingsOnThreadUptoSaid : Prop := fnExactMeetingsOnThreadUptoRow.holds Try.pinned (OpenSpec.upto fnExactMeetingsOnThreadSpec)

/-- 'laws.FnExactExchangeThreads', WHERE WHAT IT READS IS OF BULK AT MOST 1048576: true; the input reads as it did. -/
def fnExactExchangeThreadsUptoRow : OpenClaim := { program := "ytafbnilpipcjfaa", sum := "c8c843f53a015d39a962c71a567d145a5bf2eb61640779f8f35dcef57d3cdc6d", func := "loop.example/g01324/laws.FnExactExchangeThreads", spec := "fnExactExchangeThreads", unfollowed := true, recurses := true, apart := false, narrowed := true }
def FnExactExchangeThreadsUptoSaid : Prop := fnExactExchangeThreadsUptoRow.holds Try.pinned (OpenSpec.upto fnExactExchangeThreadsSpec)

end Rows
end Go.Proofs.Ytafbnilpipcjfaa
