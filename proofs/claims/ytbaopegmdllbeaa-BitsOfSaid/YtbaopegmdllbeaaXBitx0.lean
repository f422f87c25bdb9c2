-- Written by wip/xprint.py, this session's wrapper round the kit's print program. Not trusted: Lean checks it.
import Derived.Test.YtbaopegmdllbeaaProg
import Derived.Below
import Derived.Deep.Draws
import Derived.Deep.AppendLies
import Derived.Maps.AppendAt
import Derived.OwnWalk
import Derived.Laws.BytesArg
import Derived.Laws.MakeOwn
import Derived.Laws.OwnMore
import Derived.Deep.OwnRows
import Derived.Tactics
import Derived.Lib.ConvBytes
import Derived.Laws.Slices
import Derived.WalkKit
import Derived.KernelRfl
import Derived.RowKit3
import Derived.Deep.LoopGhost
import Derived.Deep.QuietTactic
import Derived.BigQuiet
import Derived.WideLaws
import Derived.Deep.DeepCutAuto
import Derived.Deep.CutBlock
import Derived.Deep.RegionHeld3
import Derived.Laws.Rows
import Derived.Lib.AppendStr
import Derived.ArgAppend
import Derived.Laws.IdiomCopy
import Derived.OrdersHeld
import Derived.Laws.BitsLemmas
import Derived.RowKit
import Derived.Test.YtbaopegmdllbeaaWWords
import Derived.Test.YtbaopegmdllbeaaWLast
import Derived.Test.YtbaopegmdllbeaaWTab
import Derived.Test.YtbaopegmdllbeaaWFour
import Derived.Test.YtbaopegmdllbeaaWQPut
import Derived.Test.YtbaopegmdllbeaaWApart
import Derived.Test.YtbaopegmdllbeaaWArr
import Derived.Test.YtbaopegmdllbeaaWZeros
import Derived.Test.YtbaopegmdllbeaaWFoot
import Derived.Test.YtbaopegmdllbeaaWKept
import Derived.Test.YtbaopegmdllbeaaWShare
import Derived.Test.YtbaopegmdllbeaaWN
import Derived.Test.YtbaopegmdllbeaaWFootNe
import Derived.Test.YtbaopegmdllbeaaWAt
import Derived.Test.YtbaopegmdllbeaaWEqStruct
import Derived.Test.YtbaopegmdllbeaaWRepsOne
import Derived.Test.YtbaopegmdllbeaaWInv
import Derived.Test.YtbaopegmdllbeaaWInvWords
import Derived.Test.YtbaopegmdllbeaaWGuard
import Derived.Test.YtbaopegmdllbeaaWNEv
import Derived.Test.YtbaopegmdllbeaaWMore
import Derived.Test.YtbaopegmdllbeaaYWords
import Derived.Test.YtbaopegmdllbeaaGLen64
namespace Go.Proofs.Ytbaopegmdllbeaa.XBit
open Go.RowKit Go.Proofs.Ytbaopegmdllbeaa.G Go.Proofs.YtbaopegmdllbeaaW.PrintWords Go.Proofs.YtbaopegmdllbeaaW.PrintLast Go.Proofs.YtbaopegmdllbeaaW.PrintMore
attribute [local go_sem] max2_int min2_int max_two min_two max_three min_three max_four min_four   -- for this text's walks alone
set_option linter.unusedVariables false
set_option linter.unusedSimpArgs false



def errW : Option Int → Value
  | none => .nilIface
  | some c => .iface 0 (.int .i64 c)
theorem errW_none : errW none = .nilIface := rfl
theorem errW_some (c : Int) : errW (some c) = .iface 0 (.int .i64 c) := rfl

theorem info4 : (Try.prog.info? 4).map (fun i => (i.zero, i.size, i.bytes)) = some (some (.bool false), 1, 1) := by kernel_rfl
theorem info5 : (Try.prog.info? 5).map (fun i => (i.zero, i.size, i.bytes)) = some (some (.int .u8 0), 1, 1) := by kernel_rfl
-- the values' own types

end Go.Proofs.Ytbaopegmdllbeaa.XBit
