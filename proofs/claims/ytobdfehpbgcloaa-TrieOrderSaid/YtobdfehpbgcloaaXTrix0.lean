-- Written by wip/xprint.py, this session's wrapper round the kit's print program. Not trusted: Lean checks it.
import Derived.Test.YtobdfehpbgcloaaProg
import Derived.Below
import Derived.Deep.Draws
import Derived.Deep.AppendLies
import Derived.Maps.AppendAt
import Derived.OwnWalk
import Derived.Laws.BytesArg
import Derived.Laws.MakeOwn
import Derived.Laws.OwnMore
import Derived.Deep.OwnRows
import Derived.Tactics
import Derived.Lib.ConvBytes
import Derived.Laws.Slices
import Derived.WalkKit
import Derived.KernelRfl
import Derived.RowKit3
import Derived.Deep.LoopGhost
import Derived.Deep.QuietTactic
import Derived.BigQuiet
import Derived.WideLaws
import Derived.Deep.DeepCutAuto
import Derived.Deep.CutBlock
import Derived.Deep.RegionHeld3
import Derived.Laws.Rows
import Derived.Lib.AppendStr
import Derived.ArgAppend
import Derived.Laws.IdiomCopy
import Derived.OrdersHeld
import Derived.Laws.BitsLemmas
import Derived.RowKit
import Derived.Test.YtobdfehpbgcloaaWWords
import Derived.Test.YtobdfehpbgcloaaWLast
import Derived.Test.YtobdfehpbgcloaaWTab
import Derived.Test.YtobdfehpbgcloaaWFour
import Derived.Test.YtobdfehpbgcloaaWQPut
import Derived.Test.YtobdfehpbgcloaaWApart
import Derived.Test.YtobdfehpbgcloaaWArr
import Derived.Test.YtobdfehpbgcloaaWZeros
import Derived.Test.YtobdfehpbgcloaaWFoot
import Derived.Test.YtobdfehpbgcloaaWKept
import Derived.Test.YtobdfehpbgcloaaWShare
import Derived.Test.YtobdfehpbgcloaaWN
import Derived.Test.YtobdfehpbgcloaaWFootNe
import Derived.Test.YtobdfehpbgcloaaWAt
import Derived.Test.YtobdfehpbgcloaaWEqStruct
import Derived.Test.YtobdfehpbgcloaaWRepsOne
import Derived.Test.YtobdfehpbgcloaaWInv
import Derived.Test.YtobdfehpbgcloaaWInvWords
import Derived.Test.YtobdfehpbgcloaaWGuard
import Derived.Test.YtobdfehpbgcloaaWNEv
import Derived.Test.YtobdfehpbgcloaaWMore
import Derived.Test.YtobdfehpbgcloaaYWords
import Derived.Test.YtobdfehpbgcloaaGLen64
namespace Go.Proofs.Ytobdfehpbgcloaa.XTri
open Go.RowKit Go.Proofs.Ytobdfehpbgcloaa.G Go.Proofs.YtobdfehpbgcloaaW.PrintWords Go.Proofs.YtobdfehpbgcloaaW.PrintLast Go.Proofs.YtobdfehpbgcloaaW.PrintMore
attribute [local go_sem] max2_int min2_int max_two min_two max_three min_three max_four min_four   -- for this text's walks alone
set_option linter.unusedVariables false
set_option linter.unusedSimpArgs false



def errW : Option Int → Value
  | none => .nilIface
  | some c => .iface 0 (.int .i64 c)
theorem errW_none : errW none = .nilIface := rfl
theorem errW_some (c : Int) : errW (some c) = .iface 0 (.int .i64 c) := rfl

theorem info4 : (Try.prog.info? 4).map (fun i => (i.zero, i.size, i.bytes)) = some (some (.bool false), 1, 1) := by kernel_rfl
theorem info5 : (Try.prog.info? 5).map (fun i => (i.zero, i.size, i.bytes)) = some (some (.int .u8 0), 1, 1) := by kernel_rfl
theorem info23 : (Try.prog.info? 23).map (fun i => (i.zero, i.size, i.bytes)) = some (some (.int .u64 0), 1, 8) := by kernel_rfl
-- the values' own types

end Go.Proofs.Ytobdfehpbgcloaa.XTri
