-- Written by wip/xprint.py, this session's wrapper round the kit's print program. Not trusted: Lean checks it.
import Derived.Test.YtoachfoaknlemaaProg
import Derived.Below
import Derived.Deep.Draws
import Derived.Deep.AppendLies
import Derived.Maps.AppendAt
import Derived.OwnWalk
import Derived.Laws.BytesArg
import Derived.Laws.MakeOwn
import Derived.Laws.OwnMore
import Derived.Deep.OwnRows
import Derived.Tactics
import Derived.Lib.ConvBytes
import Derived.Laws.Slices
import Derived.WalkKit
import Derived.KernelRfl
import Derived.RowKit3
import Derived.Deep.LoopGhost
import Derived.Deep.QuietTactic
import Derived.BigQuiet
import Derived.WideLaws
import Derived.Deep.DeepCutAuto
import Derived.Deep.CutBlock
import Derived.Deep.RegionHeld3
import Derived.Laws.Rows
import Derived.Lib.AppendStr
import Derived.ArgAppend
import Derived.Laws.IdiomCopy
import Derived.OrdersHeld
import Derived.Laws.BitsLemmas
import Derived.RowKit
import Derived.Test.YtoachfoaknlemaaWWords
import Derived.Test.YtoachfoaknlemaaWLast
import Derived.Test.YtoachfoaknlemaaWTab
import Derived.Test.YtoachfoaknlemaaWFour
import Derived.Test.YtoachfoaknlemaaWQPut
import Derived.Test.YtoachfoaknlemaaWApart
import Derived.Test.YtoachfoaknlemaaWArr
import Derived.Test.YtoachfoaknlemaaWZeros
import Derived.Test.YtoachfoaknlemaaWFoot
import Derived.Test.YtoachfoaknlemaaWKept
import Derived.Test.YtoachfoaknlemaaWShare
import Derived.Test.YtoachfoaknlemaaWN
import Derived.Test.YtoachfoaknlemaaWFootNe
import Derived.Test.YtoachfoaknlemaaWAt
import Derived.Test.YtoachfoaknlemaaWEqStruct
import Derived.Test.YtoachfoaknlemaaWRepsOne
import Derived.Test.YtoachfoaknlemaaWInv
import Derived.Test.YtoachfoaknlemaaWInvWords
import Derived.Test.YtoachfoaknlemaaWGuard
import Derived.Test.YtoachfoaknlemaaWNEv
import Derived.Test.YtoachfoaknlemaaWMore
import Derived.Test.YtoachfoaknlemaaYWords
import Derived.Test.YtoachfoaknlemaaGRunes
namespace Go.Proofs.Ytoachfoaknlemaa.XHash
open Go.RowKit Go.Proofs.Ytoachfoaknlemaa.G Go.Proofs.YtoachfoaknlemaaW.PrintWords Go.Proofs.YtoachfoaknlemaaW.PrintLast Go.Proofs.YtoachfoaknlemaaW.PrintMore
attribute [local go_sem] max2_int min2_int max_two min_two max_three min_three max_four min_four   -- for this text's walks alone
set_option linter.unusedVariables false
set_option linter.unusedSimpArgs false



def errW : Option Int → Value
  | none => .nilIface
  | some c => .iface 0 (.int .i64 c)
theorem errW_none : errW none = .nilIface := rfl
theorem errW_some (c : Int) : errW (some c) = .iface 0 (.int .i64 c) := rfl

theorem info3 : (Try.prog.info? 3).map (fun i => (i.zero, i.size, i.bytes)) = some (some (.int .i64 0), 1, 8) := by kernel_rfl
theorem info5 : (Try.prog.info? 5).map (fun i => (i.zero, i.size, i.bytes)) = some (some (.int .u8 0), 1, 1) := by kernel_rfl
theorem info21 : (Try.prog.info? 21).map (fun i => (i.zero, i.size, i.bytes)) = some (some (.int .i32 0), 1, 4) := by kernel_rfl
-- the values' own types

end Go.Proofs.Ytoachfoaknlemaa.XHash
