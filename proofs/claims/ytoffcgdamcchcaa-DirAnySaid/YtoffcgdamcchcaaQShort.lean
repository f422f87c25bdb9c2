/- loesslaw1.Short in plain Lean. -/
import Derived.Test.YtoffcgdamcchcaaGDirM
import Derived.Test.YtoffcgdamcchcaaXDirx25
set_option linter.unusedVariables false
namespace Go.Proofs.Ytoffcgdamcchcaa.Q
open Go.RowKit Go.Proofs.YtoffcgdamcchcaaW.PrintWords Go.Proofs.YtoffcgdamcchcaaW.PrintMore Go.Proofs.Ytoffcgdamcchcaa.XDir
theorem short_eq (l : List Int) (n : Nat) : loesslaw1_Short.f l (n : Int) = some (l.take n) := by
  unfold loesslaw1_Short.f
  split
  · rw [if_pos (by omega), if_pos (by omega), Int.toNat_natCast]
  · rw [List.take_of_length_le (by omega)]
end Go.Proofs.Ytoffcgdamcchcaa.Q
