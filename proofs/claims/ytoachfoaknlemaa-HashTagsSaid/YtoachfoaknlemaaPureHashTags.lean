/- The law HashTags' pure statement, with no condition of its own: a hash's bucket and tag are its lowest bits; the others say nothing of them. -/
import Derived.Test.YtoachfoaknlemaaQHashBegun
import Derived.Test.YtoachfoaknlemaaXHashx17
set_option linter.unusedVariables false
set_option linter.unusedSimpArgs false
namespace Go.Proofs.Ytoachfoaknlemaa.Pure
open Go.RowKit Go.Proofs.YtoachfoaknlemaaW.PrintWords Go.Proofs.YtoachfoaknlemaaW.PrintMore Go.Proofs.Ytoachfoaknlemaa.G Go.Proofs.Ytoachfoaknlemaa.XHash Go.Proofs.Ytoachfoaknlemaa.Q
theorem HashTags : loesslaw9_HashTags.Pure := by
  intro h x hh hx
  obtain ⟨h0, h1⟩ := wfU64 hh
  obtain ⟨x0, x1⟩ := wfU64 hx
  refine Ev.rounds ?_
  unfold loesslaw9_HashTags.f
  refine hash_then (evC ?_)
  have e1 : Go.bits .and .u64 h 8388607 = h % 8388608 := bits_mask .u64 64 (by decide) wraps_u64 23 (by decide) h h0 (by omega)
  have e2 : IntKind.u64.wrap (x * 8388608) = (x * 8388608) % 18446744073709551616 := u64_mod _
  have e3 : Go.bits .or .u64 (h % 8388608) ((x * 8388608) % 18446744073709551616) = h % 8388608 + (x * 8388608) % 18446744073709551616 := or_join 23 (by decide) (by omega) (by omega) (by omega) (by omega) (by omega)
  have e4 : Go.bits .and .u64 h 7 = h % 8 := bits_mask .u64 64 (by decide) wraps_u64 3 (by decide) h h0 (by omega)
  have e5 : Go.bits .and .u64 (h / 256) 32767 = h / 256 % 32768 := bits_mask .u64 64 (by decide) wraps_u64 15 (by decide) (h / 256) (by omega) (by omega)
  rw [e1, e2, e3, e4, e5, first_eq (by omega), tag_eq (by omega), w64 (x := h % 8) (by omega) (by omega), w64 (x := h / 256 % 32768) (by omega) (by omega)]
  have f1 : fst8 (h % 8388608 + (x * 8388608) % 18446744073709551616) = h % 8 := by unfold fst8; omega
  have f2 : tag8 (h % 8388608 + (x * 8388608) % 18446744073709551616) = h / 256 % 32768 := by unfold tag8; omega
  simp only [Option.bind_some, f1, f2, if_true]
  simp
end Go.Proofs.Ytoachfoaknlemaa.Pure
