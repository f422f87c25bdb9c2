/- The law KeyThree's pure statement, with no condition of its own: the order by runes of any three is one. -/
import Derived.Test.YtbjkednhoanloaaQKeyFn
import Derived.Test.YtbjkednhoanloaaXKeyx16
set_option linter.unusedVariables false
set_option linter.unusedSimpArgs false
namespace Go.Proofs.Ytbjkednhoanloaa.Pure
open Go.RowKit Go.Proofs.YtbjkednhoanloaaW.PrintWords Go.Proofs.YtbjkednhoanloaaW.PrintMore Go.Proofs.Ytbjkednhoanloaa.G Go.Proofs.Ytbjkednhoanloaa.XKey Go.Proofs.Ytbjkednhoanloaa.Q
theorem KeyThree : loesslaw5_KeyThree.Pure := by
  intro a b c ha hb hc
  obtain ⟨s, hs, hs1, hs2⟩ := cut3_eq a 12
  obtain ⟨t, ht, ht1, ht2⟩ := cut3_eq b 12
  obtain ⟨u, hu, hu1, hu2⟩ := cut3_eq c 12
  refine Ev.rounds ?_
  unfold loesslaw5_KeyThree.f
  refine key_then ?_
  rw [show ((12 : Int)) = ((12 : Nat) : Int) from rfl, hs, ht, hu]
  simp only [Option.bind_some]
  have r0 : Ev (fun k => key_Runes.f k s s) 0 := by
    have := runes_ev (a := s) (b := s) (by omega) (by omega)
    rwa [R, cmpL_self] at this
  have r1 := runes_ev (a := s) (b := t) (by omega) (by omega)
  have r2 := runes_ev (a := t) (b := s) (by omega) (by omega)
  have r3 := runes_ev (a := t) (b := u) (by omega) (by omega)
  have r4 := runes_ev (a := s) (b := u) (by omega) (by omega)
  have sw : R t s = - R s t := cmpL_swap _ _
  have rg : R s t = -1 ∨ R s t = 0 ∨ R s t = 1 := cmpL_range _ _
  have tr : R s t ≤ 0 → R t u ≤ 0 → R s u ≤ 0 ∧ ((R s u < 0) ↔ (R s t < 0 ∨ R t u < 0)) := cmpL_trans _ _ _
  refine Ev.bind r0 (Ev.congr (fun k => if_pos rfl) (Ev.bind r1 (Ev.bind r2 ?_)))
  have e1 : (R s t != wrap64 (-R t s)) = false := by
    rw [sw, w64 (by omega) (by omega)]
    simp
  rw [e1]
  let X : Nat → Option Bool := fun k => (key_Runes.f k s t).bind fun t175 => (if t175 > 0 then (some true) else ((key_Runes.f k t u).bind fun t176 => (if t176 > 0 then (some true) else ((key_Runes.f k s u).bind fun t177 => (if t177 ≤ 0 then ((key_Runes.f k s u).bind fun t177 => ((key_Runes.f k s t).bind fun t175 => (if t175 < 0 then (some ((decide (t177 < 0)) == true)) else ((key_Runes.f k t u).bind fun t176 => (some ((decide (t177 < 0)) == (decide (t176 < 0)))))))) else (some false))))))
  refine Ev.step (f := X) (fun k => ?_) ?_
  · simp only [loesslaw5_KeyThree.j0]
    rw [if_neg (by simp)]
  refine Ev.bind r1 ?_
  by_cases h1 : R s t > 0
  · exact Ev.congr (fun k => if_pos h1) (Ev.now _)
  refine Ev.congr (fun k => if_neg h1) (Ev.bind r3 ?_)
  by_cases h2 : R t u > 0
  · exact Ev.congr (fun k => if_pos h2) (Ev.now _)
  refine Ev.congr (fun k => if_neg h2) (Ev.bind r4 ?_)
  have h3 := tr (by omega) (by omega)
  refine Ev.congr (fun k => if_pos h3.1) (Ev.bind r4 (Ev.bind r1 ?_))
  by_cases h4 : R s t < 0
  · refine Ev.congr (fun k => if_pos h4) (evC ?_)
    have : R s u < 0 := h3.2.2 (.inl h4)
    simp [this]
  refine Ev.congr (fun k => if_neg h4) (Ev.bind r3 (evC ?_))
  have h5 : (R s u < 0) ↔ R t u < 0 := by rw [h3.2]; simp [h4]
  have : decide (R s u < 0) = decide (R t u < 0) := decide_eq_decide.2 h5
  rw [this, beq_self_eq_true]
end Go.Proofs.Ytbjkednhoanloaa.Pure
