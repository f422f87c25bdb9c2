-- Written by wip/xprint.py, this session's wrapper round the kit's print program. Not trusted: Lean checks it.
import Derived.Test.YtoachfoaknlemaaXHashx0
namespace Go.Proofs.Ytoachfoaknlemaa.XHash
open Go.RowKit Go.Proofs.Ytoachfoaknlemaa.G Go.Proofs.YtoachfoaknlemaaW.PrintWords Go.Proofs.YtoachfoaknlemaaW.PrintLast Go.Proofs.YtoachfoaknlemaaW.PrintMore
attribute [local go_sem] max2_int min2_int max_two min_two max_three min_three max_four min_four   -- for this text's walks alone
set_option linter.unusedVariables false
set_option linter.unusedSimpArgs false

/-! ### hash_Tag: function 15 -/
def hash_Tag.f (a0 : Int) : Option (Int) := some (wrap64 (Int.tmod (a0 / 256) 32768))
set_option maxHeartbeats 8000000 in
set_option maxRecDepth 100000 in
theorem hash_Tag.calls (a0 : Int) (r : Int) (w : World) (h : hash_Tag.f a0 = some r) :
    Calls Try.prog 15 #[.int .u64 a0] w fun e w' => e = .returned (.int .i64 r) ∧ Drawn0 w w' := by
  have H : (some (wrap64 (Int.tmod (a0 / 256) 32768))) = some r := h
  clear h
  obtain rfl := Option.some.inj H
  go_enter Try.func15, Try.ntmps15
  go_wp2
  go_ret
  exact ⟨by first | rfl | (simp; done) | (simp [*]; done), by repeat (first | exact Drawn0.refl _ | apply Drawn0.step)⟩

end Go.Proofs.Ytoachfoaknlemaa.XHash
