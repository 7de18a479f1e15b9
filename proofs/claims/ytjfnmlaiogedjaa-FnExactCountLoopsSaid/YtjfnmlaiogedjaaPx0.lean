/- A part of this seat's proofs: contracts of the translated functions, written by the session's own program (gp.py) out of the kit's print.py and the session's own contracts; no conditions of its own. -/
import Derived.Test.YtjfnmlaiogedjaaProg
import Derived.Below
import Derived.Deep.Draws
import Derived.Deep.AppendLies
import Derived.Maps.AppendAt
import Derived.OwnWalk
import Derived.Laws.BytesArg
import Derived.Laws.MakeOwn
import Derived.Laws.OwnMore
import Derived.Deep.OwnRows
import Derived.Tactics
import Derived.Lib.ConvBytes
import Derived.Laws.Slices
import Derived.WalkKit
import Derived.KernelRfl
import Derived.RowKit3
import Derived.Deep.LoopGhost
import Derived.Deep.QuietTactic
import Derived.BigQuiet
import Derived.WideLaws
import Derived.Deep.DeepCutAuto
import Derived.Deep.CutBlock
import Derived.Deep.RegionHeld3
import Derived.Laws.Rows
import Derived.Lib.AppendStr
import Derived.ArgAppend
import Derived.Laws.IdiomCopy
import Derived.OrdersHeld
import Derived.Laws.BitsLemmas
import Derived.RowKit
import Derived.Shelf.Abstract
import Derived.Test.YtjfnmlaiogedjaaWWords
import Derived.Test.YtjfnmlaiogedjaaWLast
import Derived.Test.YtjfnmlaiogedjaaWTab
import Derived.Test.YtjfnmlaiogedjaaWFour
import Derived.Test.YtjfnmlaiogedjaaWQPut
import Derived.Test.YtjfnmlaiogedjaaWApart
import Derived.Test.YtjfnmlaiogedjaaWArr
import Derived.Test.YtjfnmlaiogedjaaWZeros
import Derived.Test.YtjfnmlaiogedjaaWFoot
import Derived.Test.YtjfnmlaiogedjaaWKept
import Derived.Test.YtjfnmlaiogedjaaWShare
import Derived.Test.YtjfnmlaiogedjaaWN
import Derived.Test.YtjfnmlaiogedjaaWFootNe
import Derived.Test.YtjfnmlaiogedjaaWAt
import Derived.Test.YtjfnmlaiogedjaaWEqStruct
import Derived.Test.YtjfnmlaiogedjaaWRepsOne
import Derived.Test.YtjfnmlaiogedjaaWInv
import Derived.Test.YtjfnmlaiogedjaaWInvWords
import Derived.Test.YtjfnmlaiogedjaaWGuard
import Derived.Test.YtjfnmlaiogedjaaWNEv
import Derived.Test.YtjfnmlaiogedjaaWMore
namespace Go.Proofs.Ytjfnmlaiogedjaa.P
open Go.RowKit Go.Proofs.YtjfnmlaiogedjaaW.PrintWords Go.Proofs.YtjfnmlaiogedjaaW.PrintLast Go.Proofs.YtjfnmlaiogedjaaW.PrintMore
attribute [local go_sem] max2_int min2_int max_two min_two max_three min_three max_four min_four   -- for this text's walks alone
set_option linter.unusedVariables false
set_option linter.unusedSimpArgs false



def errW : Option Int → Value
  | none => .nilIface
  | some c => .iface 0 (.int .i64 c)
theorem errW_none : errW none = .nilIface := rfl
theorem errW_some (c : Int) : errW (some c) = .iface 0 (.int .i64 c) := rfl

theorem info5 : (Try.prog.info? 5).map (fun i => (i.zero, i.size, i.bytes)) = some (some (.int .u8 0), 1, 1) := by kernel_rfl
theorem info9 : (Try.prog.info? 9).map (fun i => (i.zero, i.size, i.bytes)) = some (some (.string ⟨#[]⟩), 1, 16) := by kernel_rfl
-- the values' own types

end Go.Proofs.Ytjfnmlaiogedjaa.P
