-- Written by wip/xprint.py, this session's wrapper round the kit's print program. Not trusted: Lean checks it.
import Derived.Test.YtbjkednhoanloaaProg
import Derived.Below
import Derived.Deep.Draws
import Derived.Deep.AppendLies
import Derived.Maps.AppendAt
import Derived.OwnWalk
import Derived.Laws.BytesArg
import Derived.Laws.MakeOwn
import Derived.Laws.OwnMore
import Derived.Deep.OwnRows
import Derived.Tactics
import Derived.Lib.ConvBytes
import Derived.Laws.Slices
import Derived.WalkKit
import Derived.KernelRfl
import Derived.RowKit3
import Derived.Deep.LoopGhost
import Derived.Deep.QuietTactic
import Derived.BigQuiet
import Derived.WideLaws
import Derived.Deep.DeepCutAuto
import Derived.Deep.CutBlock
import Derived.Deep.RegionHeld3
import Derived.Laws.Rows
import Derived.Lib.AppendStr
import Derived.ArgAppend
import Derived.Laws.IdiomCopy
import Derived.OrdersHeld
import Derived.Laws.BitsLemmas
import Derived.RowKit
import Derived.Test.YtbjkednhoanloaaWWords
import Derived.Test.YtbjkednhoanloaaWLast
import Derived.Test.YtbjkednhoanloaaWTab
import Derived.Test.YtbjkednhoanloaaWFour
import Derived.Test.YtbjkednhoanloaaWQPut
import Derived.Test.YtbjkednhoanloaaWApart
import Derived.Test.YtbjkednhoanloaaWArr
import Derived.Test.YtbjkednhoanloaaWZeros
import Derived.Test.YtbjkednhoanloaaWFoot
import Derived.Test.YtbjkednhoanloaaWKept
import Derived.Test.YtbjkednhoanloaaWShare
import Derived.Test.YtbjkednhoanloaaWN
import Derived.Test.YtbjkednhoanloaaWFootNe
import Derived.Test.YtbjkednhoanloaaWAt
import Derived.Test.YtbjkednhoanloaaWEqStruct
import Derived.Test.YtbjkednhoanloaaWRepsOne
import Derived.Test.YtbjkednhoanloaaWInv
import Derived.Test.YtbjkednhoanloaaWInvWords
import Derived.Test.YtbjkednhoanloaaWGuard
import Derived.Test.YtbjkednhoanloaaWNEv
import Derived.Test.YtbjkednhoanloaaWMore
import Derived.Test.YtbjkednhoanloaaYWords
import Derived.Test.YtbjkednhoanloaaGRunes
import Derived.Test.YtbjkednhoanloaaGKey
namespace Go.Proofs.Ytbjkednhoanloaa.XKey
open Go.RowKit Go.Proofs.Ytbjkednhoanloaa.G Go.Proofs.YtbjkednhoanloaaW.PrintWords Go.Proofs.YtbjkednhoanloaaW.PrintLast Go.Proofs.YtbjkednhoanloaaW.PrintMore
attribute [local go_sem] max2_int min2_int max_two min_two max_three min_three max_four min_four   -- for this text's walks alone
set_option linter.unusedVariables false
set_option linter.unusedSimpArgs false



def errW : Option Int → Value
  | none => .nilIface
  | some c => .iface 0 (.int .i64 c)
theorem errW_none : errW none = .nilIface := rfl
theorem errW_some (c : Int) : errW (some c) = .iface 0 (.int .i64 c) := rfl

theorem info3 : (Try.prog.info? 3).map (fun i => (i.zero, i.size, i.bytes)) = some (some (.int .i64 0), 1, 8) := by kernel_rfl
theorem info21 : (Try.prog.info? 21).map (fun i => (i.zero, i.size, i.bytes)) = some (some (.int .i32 0), 1, 4) := by kernel_rfl
-- the values' own types

end Go.Proofs.Ytbjkednhoanloaa.XKey
