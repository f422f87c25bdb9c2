/- The law ValueNone's pure statement: no value (closed). -/
import Derived.KernelRfl
import Derived.Test.YtbeoegdkoodlfaaXValx18
set_option linter.unusedVariables false
namespace Go.Proofs.Ytbeoegdkoodlfaa.Pure
open Go.RowKit Go.Proofs.YtbeoegdkoodlfaaW.PrintWords Go.Proofs.YtbeoegdkoodlfaaW.PrintMore Go.Proofs.Ytbeoegdkoodlfaa.G Go.Proofs.Ytbeoegdkoodlfaa.XVal
theorem ValueNone : loesslaw4_ValueNone.Pure := ⟨60, by kernel_rfl⟩
end Go.Proofs.Ytbeoegdkoodlfaa.Pure
