-- Written by wip/xprint.py, this session's wrapper round the kit's print program. Not trusted: Lean checks it.
import Derived.Test.YtoffcgdamcchcaaXDirx0
namespace Go.Proofs.Ytoffcgdamcchcaa.XDir
open Go.RowKit Go.Proofs.YtoffcgdamcchcaaW.PrintWords Go.Proofs.YtoffcgdamcchcaaW.PrintLast Go.Proofs.YtoffcgdamcchcaaW.PrintMore
attribute [local go_sem] max2_int min2_int max_two min_two max_three min_three max_four min_four   -- for this text's walks alone
set_option linter.unusedVariables false
set_option linter.unusedSimpArgs false

/-! ### dir_Sectors: function 29 -/
def dir_Sectors.f (a0 : Int) : Option (Int) := some (wrap64 (Int.tdiv (wrap64 ((wrap64 (a0 + 64)) - 1)) 64))
set_option maxHeartbeats 8000000 in
set_option maxRecDepth 100000 in
theorem dir_Sectors.calls (a0 : Int) (r : Int) (w : World) (h : dir_Sectors.f a0 = some r) :
    Calls Try.prog 29 #[.int .i64 a0] w fun e w' => e = .returned (.int .i64 r) ∧ Drawn0 w w' := by
  have H : (some (wrap64 (Int.tdiv (wrap64 ((wrap64 (a0 + 64)) - 1)) 64))) = some r := h
  clear h
  obtain rfl := Option.some.inj H
  go_enter Try.func29, Try.ntmps29
  go_wp2
  go_ret
  exact ⟨by first | rfl | (simp; done) | (simp [*]; done), by repeat (first | exact Drawn0.refl _ | apply Drawn0.step)⟩

end Go.Proofs.Ytoffcgdamcchcaa.XDir
