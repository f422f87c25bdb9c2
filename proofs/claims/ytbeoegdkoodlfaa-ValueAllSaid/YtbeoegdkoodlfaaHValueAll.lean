/- The law ValueAll, out of its printed contract: the walk with its argument opened. -/
import Derived.Test.YtbeoegdkoodlfaaPureValueAll
import Derived.Test.YtbeoegdkoodlfaaQOpenRaw
import Derived.Test.YtbeoegdkoodlfaaXVaax8
set_option linter.unusedVariables false
namespace Go.Proofs.Ytbeoegdkoodlfaa.H
open Go.RowKit Go.Proofs.YtbeoegdkoodlfaaW.PrintWords Go.Proofs.YtbeoegdkoodlfaaW.PrintMore Go.Proofs.Ytbeoegdkoodlfaa.G Go.Proofs.Ytbeoegdkoodlfaa.XVaa
theorem ValueAll.walk (P : True) (a0 : O.S23) (w : World) (w0 : O.ok23 a0) :
    Calls Try.prog 3 #[O.v23 a0] w fun e w' => e = .returned (.bool true) ∧ Below w.heap.size w w' := by
  obtain ⟨k, hk⟩ := Pure.ValueAll a0.f0 a0.f1 a0.f2 w0.1 w0.2.1 w0.2.2
  exact loesslaw4_ValueAll.calls k a0.f0 a0.f1 a0.f2 true w hk
end Go.Proofs.Ytbeoegdkoodlfaa.H
