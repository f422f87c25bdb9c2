/- The law RunesJoin's pure statement, with no condition of its own: behind a valid text the runes go on. -/
import Derived.Test.YtmolfmnepbgdfaaQRunBegun
import Derived.Test.YtmolfmnepbgdfaaXRunx9
set_option linter.unusedVariables false
set_option linter.unusedSimpArgs false
namespace Go.Proofs.Ytmolfmnepbgdfaa.Pure
open Go.RowKit Go.Proofs.YtmolfmnepbgdfaaW.PrintWords Go.Proofs.YtmolfmnepbgdfaaW.PrintMore Go.Proofs.Ytmolfmnepbgdfaa.G Go.Proofs.Ytmolfmnepbgdfaa.XRun Go.Proofs.Ytmolfmnepbgdfaa.Q
theorem RunesJoin : loesslaw3_RunesJoin.Pure := by
  intro a b ha hb
  obtain ⟨s, hs, hs1, hs2⟩ := cut3_eq a 40
  obtain ⟨t, ht, ht1, ht2⟩ := cut3_eq b 40
  unfold loesslaw3_RunesJoin.f
  rw [run_begun]
  simp only [Option.bind_some, if_true]
  rw [show ((40 : Int)) = ((40 : Nat) : Int) from rfl, hs, ht]
  simp only [Option.bind_some]
  rw [rValid (s := s) (by omega), Option.bind_some]
  by_cases hv : vld s = true
  · have hl := D_len s
    have hl2 := D_len t
    have hsz : (s ++ t).size = s.size + t.size := by rw [size_of_bytes, bytesOf_append, List.length_append, ← size_of_bytes, ← size_of_bytes]
    have hD : D (s ++ t) = D s ++ D t := by unfold D; rw [bytesOf_append]; exact ds_append _ _ _ (Nat.le_refl _) hv
    obtain ⟨c, hc, hc2⟩ := rCut (s := s ++ t) (by omega) ((D s).length : Int)
    have hcs : bytesOf c = bytesOf s := by
      rw [hc2]
      unfold cutB
      rw [hD, Int.toNat_natCast, List.take_left, D_wd, bytesOf_append, size_of_bytes, List.take_left]
    rw [if_pos hv, rCount (s := s) (by omega), Option.bind_some, if_pos (by omega), rCount (s := s ++ t) (by omega), Option.bind_some, rCount (s := t) (by omega), Option.bind_some, hD, w64 (by omega) (by omega), if_pos (by rw [List.length_append]; omega), hc, Option.bind_some, if_pos (bytes_iff.2 hcs), rValid (s := s ++ t) (by omega), Option.bind_some, rValid (s := t) (by omega), Option.bind_some]
    have hv2 : vld (s ++ t) = vld t := by
      unfold vld at hv ⊢
      rw [hD, List.all_append, hv, Bool.true_and]
    rw [hv2]
    simp
  · rw [if_neg hv]
end Go.Proofs.Ytmolfmnepbgdfaa.Pure
