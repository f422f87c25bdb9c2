-- Written by wip/xprint.py, this session's wrapper round the kit's print program. Not trusted: Lean checks it.
import Derived.Test.YtkiocnhpmmgmoaaProg
import Derived.Below
import Derived.Deep.Draws
import Derived.Deep.AppendLies
import Derived.Maps.AppendAt
import Derived.OwnWalk
import Derived.Laws.BytesArg
import Derived.Laws.MakeOwn
import Derived.Laws.OwnMore
import Derived.Deep.OwnRows
import Derived.Tactics
import Derived.Lib.ConvBytes
import Derived.Laws.Slices
import Derived.WalkKit
import Derived.KernelRfl
import Derived.RowKit3
import Derived.Deep.LoopGhost
import Derived.Deep.QuietTactic
import Derived.BigQuiet
import Derived.WideLaws
import Derived.Deep.DeepCutAuto
import Derived.Deep.CutBlock
import Derived.Deep.RegionHeld3
import Derived.Laws.Rows
import Derived.Lib.AppendStr
import Derived.ArgAppend
import Derived.Laws.IdiomCopy
import Derived.OrdersHeld
import Derived.Laws.BitsLemmas
import Derived.RowKit
import Derived.Test.YtkiocnhpmmgmoaaWWords
import Derived.Test.YtkiocnhpmmgmoaaWLast
import Derived.Test.YtkiocnhpmmgmoaaWTab
import Derived.Test.YtkiocnhpmmgmoaaWFour
import Derived.Test.YtkiocnhpmmgmoaaWQPut
import Derived.Test.YtkiocnhpmmgmoaaWApart
import Derived.Test.YtkiocnhpmmgmoaaWArr
import Derived.Test.YtkiocnhpmmgmoaaWZeros
import Derived.Test.YtkiocnhpmmgmoaaWFoot
import Derived.Test.YtkiocnhpmmgmoaaWKept
import Derived.Test.YtkiocnhpmmgmoaaWShare
import Derived.Test.YtkiocnhpmmgmoaaWN
import Derived.Test.YtkiocnhpmmgmoaaWFootNe
import Derived.Test.YtkiocnhpmmgmoaaWAt
import Derived.Test.YtkiocnhpmmgmoaaWEqStruct
import Derived.Test.YtkiocnhpmmgmoaaWRepsOne
import Derived.Test.YtkiocnhpmmgmoaaWInv
import Derived.Test.YtkiocnhpmmgmoaaWInvWords
import Derived.Test.YtkiocnhpmmgmoaaWGuard
import Derived.Test.YtkiocnhpmmgmoaaWNEv
import Derived.Test.YtkiocnhpmmgmoaaWMore
import Derived.Test.YtkiocnhpmmgmoaaYWords
namespace Go.Proofs.Ytkiocnhpmmgmoaa.XNum
open Go.RowKit Go.Proofs.YtkiocnhpmmgmoaaW.PrintWords Go.Proofs.YtkiocnhpmmgmoaaW.PrintLast Go.Proofs.YtkiocnhpmmgmoaaW.PrintMore
attribute [local go_sem] max2_int min2_int max_two min_two max_three min_three max_four min_four   -- for this text's walks alone
set_option linter.unusedVariables false
set_option linter.unusedSimpArgs false



def errW : Option Int → Value
  | none => .nilIface
  | some c => .iface 0 (.int .i64 c)
theorem errW_none : errW none = .nilIface := rfl
theorem errW_some (c : Int) : errW (some c) = .iface 0 (.int .i64 c) := rfl

theorem info2 : (Try.prog.info? 2).map (fun i => (i.zero, i.size, i.bytes)) = some (some (.int .i64 0), 1, 8) := by kernel_rfl
theorem info5 : (Try.prog.info? 5).map (fun i => (i.zero, i.size, i.bytes)) = some (some (.int .u8 0), 1, 1) := by kernel_rfl
-- the values' own types

end Go.Proofs.Ytkiocnhpmmgmoaa.XNum
