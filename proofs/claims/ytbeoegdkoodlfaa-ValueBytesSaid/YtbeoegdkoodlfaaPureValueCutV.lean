/- A raw value that is cut. -/
import Derived.Test.YtbeoegdkoodlfaaQValFn
import Derived.Test.YtbeoegdkoodlfaaXVabx5
set_option linter.unusedVariables false
set_option linter.unusedSimpArgs false
namespace Go.Proofs.Ytbeoegdkoodlfaa.Pure
open Go.RowKit Go.Proofs.YtbeoegdkoodlfaaW.PrintWords Go.Proofs.YtbeoegdkoodlfaaW.PrintMore Go.Proofs.Ytbeoegdkoodlfaa.G Go.Proofs.Ytbeoegdkoodlfaa.XVab Go.Proofs.Ytbeoegdkoodlfaa.Q
theorem cutV (a b : Int) (s : ByteArray) : ∃ t : ByteArray, loesslaw4_Cut.f a b s = some (a, b, t) ∧ t.size ≤ 30 ∧ bytesOf t = (bytesOf s).take 30 := by
  obtain ⟨t, h1, h2, h3⟩ := cut3_eq s 30
  refine ⟨t, ?_, h2, h3⟩
  unfold loesslaw4_Cut.f
  rw [show (30 : Int) = ((30 : Nat) : Int) from rfl, h1]
  rfl
end Go.Proofs.Ytbeoegdkoodlfaa.Pure
