/- math/bits.Len64 in the form that the printed functions have. -/
-- GIVEN math/bits.Len64 0
import Derived.Test.YtobdfehpbgcloaaGLen64W
import Derived.Test.YtobdfehpbgcloaaWMore
set_option linter.unusedVariables false
namespace Go.Proofs.Ytobdfehpbgcloaa.G
open Go.RowKit Go.Proofs.YtobdfehpbgcloaaW.PrintWords
def bits_Len64.f (a0 : Int) : Option Int := if 0 ≤ a0 ∧ a0 ≤ 18446744073709551615 then some (Lib.bitLen a0.toNat) else none
theorem bits_Len64.calls (a0 : Int) (r : Int) (w : World) (h : bits_Len64.f a0 = some r) :
    Calls Try.prog 36 #[.int .u64 a0] w fun e w' => e = .returned (.int .i64 r) ∧ Drawn0 w w' := by
  unfold bits_Len64.f at h
  split at h
  · rename_i hc
    obtain rfl := Option.some.inj h
    refine (len64 a0 w hc.1 hc.2).mono ?_
    rintro e w' ⟨rfl, rfl⟩
    exact ⟨rfl, ⟨0, rfl⟩⟩
  · cases h
end Go.Proofs.Ytobdfehpbgcloaa.G
