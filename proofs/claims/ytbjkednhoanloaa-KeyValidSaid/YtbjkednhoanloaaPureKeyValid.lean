/- The law KeyValid's pure statement, with no condition of its own: of two that are valid the order by runes is the one by bytes. -/
import Derived.Test.YtbjkednhoanloaaQKeyFn
import Derived.Test.YtbjkednhoanloaaXKeyx15
set_option linter.unusedVariables false
set_option linter.unusedSimpArgs false
namespace Go.Proofs.Ytbjkednhoanloaa.Pure
open Go.RowKit Go.Proofs.YtbjkednhoanloaaW.PrintWords Go.Proofs.YtbjkednhoanloaaW.PrintMore Go.Proofs.Ytbjkednhoanloaa.G Go.Proofs.Ytbjkednhoanloaa.XKey Go.Proofs.Ytbjkednhoanloaa.Q
theorem KeyValid : loesslaw5_KeyValid.Pure := by
  intro a b ha hb
  obtain ⟨s, hs, hs1, hs2⟩ := cut3_eq a 20
  obtain ⟨t, ht, ht1, ht2⟩ := cut3_eq b 20
  refine Ev.rounds ?_
  unfold loesslaw5_KeyValid.f
  refine key_then ?_
  rw [show ((20 : Int)) = ((20 : Nat) : Int) from rfl, hs, ht]
  simp only [Option.bind_some]
  have hout : Ev (fun k => loesslaw5_KeyValid.j0 k s t true) true := by
    refine Ev.step (f := fun _ => some true) (fun k => ?_) (Ev.now _)
    simp only [loesslaw5_KeyValid.j0]
    rw [if_pos trivial]
  by_cases hv : vld s = true
  · have h1 : Ev (fun k => loessref1_Valid.f k s) true := by rw [← hv]; exact refValid_ev (by omega)
    refine Ev.bind h1 (Ev.congr (fun k => if_pos rfl) ?_)
    by_cases hw : vld t = true
    · have h2 : Ev (fun k => loessref1_Valid.f k t) true := by rw [← hw]; exact refValid_ev (by omega)
      refine Ev.bind h2 ?_
      have hst := R_valid hv hw
      have hts := R_valid hw hv
      have r1 := runes_ev (a := s) (b := t) (by omega) (by omega)
      have r2 := runes_ev (a := t) (b := s) (by omega) (by omega)
      have sw := cmpL_swap (bytesOf s) (bytesOf t)
      have rg := cmpL_range (bytesOf s) (bytesOf t)
      have last : ∀ x : Int, x = (if cmpL (bytesOf s) (bytesOf t) = -1 then -1 else 0) → Ev (fun k => loesslaw5_KeyValid.j1 k s t x) true := by
        intro x hx
        by_cases hg : cmpL (bytesOf t) (bytesOf s) = -1
        · have e1 : cmpL (bytesOf s) (bytesOf t) = 1 := by omega
          refine Ev.step (f := fun k => (key_Runes.f k s t).bind fun t164 => if t164 = 1 then (key_Runes.f k t s).bind fun t165 => some (t165 == -1) else some false) (fun k => ?_) ?_
          · simp only [loesslaw5_KeyValid.j1, less_bytes]
            rw [if_pos (decide_eq_true hg)]
          · refine Ev.bind r1 (Ev.congr (fun k => if_pos (by rw [hst]; exact e1)) (Ev.bind r2 (evC ?_)))
            rw [hts, hg]
            rfl
        · have e1 : x = cmpL (bytesOf s) (bytesOf t) := by
            rw [hx]
            split <;> omega
          refine Ev.step (f := fun k => (key_Runes.f k s t).bind fun t164 => if t164 = x then (key_Runes.f k t s).bind fun t165 => some (t165 == wrap64 (-x)) else some false) (fun k => ?_) ?_
          · simp only [loesslaw5_KeyValid.j1, less_bytes]
            rw [if_neg (by simpa using hg)]
          · refine Ev.bind r1 (Ev.congr (fun k => if_pos (by rw [hst]; exact e1.symm)) (Ev.bind r2 (evC ?_)))
            rw [hts, sw, w64 (by omega) (by omega), e1]
            simp
      by_cases hl : cmpL (bytesOf s) (bytesOf t) = -1
      · refine Ev.step (fun k => ?_) (last (-1) (by rw [if_pos hl]))
        simp only [loesslaw5_KeyValid.j0, less_bytes]
        rw [if_neg (by simp), if_pos (decide_eq_true hl)]
      · refine Ev.step (fun k => ?_) (last 0 (by rw [if_neg hl]))
        simp only [loesslaw5_KeyValid.j0, less_bytes]
        rw [if_neg (by simp), if_neg (by simpa using hl)]
    · have h2 : Ev (fun k => loessref1_Valid.f k t) false := by rw [← (Bool.eq_false_iff.2 hw)]; exact refValid_ev (by omega)
      exact Ev.bind h2 hout
  · have h1 : Ev (fun k => loessref1_Valid.f k s) false := by rw [← (Bool.eq_false_iff.2 hv)]; exact refValid_ev (by omega)
    exact Ev.bind h1 (Ev.congr (fun k => if_neg (by simp)) hout)
end Go.Proofs.Ytbjkednhoanloaa.Pure
