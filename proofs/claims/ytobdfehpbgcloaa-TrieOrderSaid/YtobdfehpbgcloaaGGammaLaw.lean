/- loesslaw7.begun by hand. -/
import Derived.Test.YtobdfehpbgcloaaGGamma
import Derived.Test.YtobdfehpbgcloaaGBitsLaw

namespace Go.Proofs.Ytobdfehpbgcloaa.GL
open Go.RowKit Go.Proofs.YtobdfehpbgcloaaW.PrintWords Go.Proofs.YtobdfehpbgcloaaW.PrintLast Go.Proofs.YtobdfehpbgcloaaW.PrintMore Go.Proofs.Ytobdfehpbgcloaa.Q Go.Proofs.Ytobdfehpbgcloaa.XTri Go.Proofs.Ytobdfehpbgcloaa.G
set_option linter.unusedVariables false
set_option linter.unusedSimpArgs false
/-- gamma.Len. -/
def lenG (x : Int) : Int := if x = 0 then 0 else 2 * (Lib.bitLen x.toNat : Int) - 1
end Go.Proofs.Ytobdfehpbgcloaa.GL
