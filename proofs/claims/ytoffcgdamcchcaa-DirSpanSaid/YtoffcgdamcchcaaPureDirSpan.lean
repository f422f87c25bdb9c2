/- The law DirSpan in plain Lean: an entry's span is just as long as its bytes need. -/
import Derived.Test.YtoffcgdamcchcaaQDirLaw
import Derived.Test.YtoffcgdamcchcaaXDirx16
set_option linter.unusedVariables false
set_option linter.unusedSimpArgs false
namespace Go.Proofs.Ytoffcgdamcchcaa.Pure
open Go.RowKit Go.Proofs.YtoffcgdamcchcaaW.PrintWords Go.Proofs.YtoffcgdamcchcaaW.PrintMore Go.Proofs.Ytoffcgdamcchcaa.XDir Go.Proofs.Ytoffcgdamcchcaa.GL Go.Proofs.Ytoffcgdamcchcaa.Q
theorem span_end (x : Ent) (X : Bool) (hm : decide (OkE x) = X) : Ev (fun k => (dir_May.f k [x]).bind fun t => if (t == X) = true then (dir_Encode.f [x]).bind fun u => some ((decide ((u.length : Int) > 0)) == X) else none) true := by
  have hm2 : mayD [x] = X := by rw [mayD_one]; exact hm
  refine Ev.bind (evEq (dir_May_ev [x] (by simp)) hm2) (Ev.congr (fun k => if_pos (by simp)) (Ev.bind (evC (show dir_Encode.f [x] = some (encO [x]) from rfl)) (evC ?_)))
  rw [encO_pos, hm2]
  simp
theorem DirSpan : loesslaw14_DirSpan.Pure := by
  intro a b c ha hb hc
  have ha := wfI64 ha
  have hb := wfI64 hb
  have hc := wfI64 hc
  refine Ev.rounds ?_
  unfold loesslaw14_DirSpan.f
  refine dir_then ?_
  have hout : Ev (fun k => loesslaw14_DirSpan.j0 k a b c true) true := Ev.step (fun k => by unfold loesslaw14_DirSpan.j0; rfl) (Ev.congr (fun k => if_pos rfl) (Ev.now _))
  by_cases h1 : a < 0
  · exact Ev.congr (fun k => if_pos h1) hout
  refine Ev.congr (fun k => if_neg h1) ?_
  by_cases h2 : a > 70000
  · exact Ev.congr (fun k => if_pos h2) hout
  refine Ev.congr (fun k => if_neg h2) ?_
  by_cases h3 : b < 0
  · exact Ev.congr (fun k => if_pos h3) hout
  refine Ev.congr (fun k => if_neg h3) ?_
  by_cases h4 : b > 1200
  · rw [decide_eq_true h4]
    exact hout
  rw [decide_eq_false h4]
  obtain ⟨x, hx⟩ : ∃ x : Ent, x = ⟨(⟨#[97]⟩ : ByteArray), a, ⟨c, b⟩⟩ := ⟨_, rfl⟩
  have hx0 : x.f0.size = 1 := by rw [hx]; rfl
  have hx1 : x.f1 = a := by rw [hx]
  have hx2 : x.f2.f0 = c := by rw [hx]
  have hx3 : x.f2.f1 = b := by rw [hx]
  have hw : wrap64 (Int.tdiv (wrap64 (a + 63)) 64) = (a + 63) / 64 := by
    rw [w64 (x := a + 63) (by omega) (by omega), Int.tdiv_eq_ediv_of_nonneg (by omega), w64 (by omega) (by omega)]
  have hok : OkE x ↔ (a ≤ 65536 ∧ b = (a + 63) / 64 ∧ 0 ≤ c ∧ c ≤ 2048 ∧ (0 < a ∨ c = 0)) := by
    unfold OkE
    rw [hx0, hx1, hx2, hx3]
    omega
  refine Ev.step (fun k => by unfold loesslaw14_DirSpan.j0; rfl) (Ev.congr (fun k => if_neg (by decide)) ?_)
  rw [← hx, hw]
  simp only [Option.bind_some]
  by_cases c1 : a ≤ 65536
  · refine Ev.congr (fun k => if_pos c1) ?_
    by_cases c2 : b = (a + 63) / 64
    · refine Ev.congr (fun k => if_pos c2) ?_
      by_cases c3 : c ≥ 0
      · refine Ev.congr (fun k => if_pos c3) ?_
        by_cases c4 : c ≤ 2048
        · refine Ev.congr (fun k => if_pos c4) ?_
          by_cases c5 : b > 0
          · refine Ev.congr (fun k => if_pos c5) ?_
            exact span_end x true (decide_eq_true (hok.2 ⟨c1, c2, c3, c4, by omega⟩))
          · refine Ev.congr (fun k => if_neg c5) ?_
            refine span_end x (c == 0) ?_
            by_cases c6 : c = 0
            · rw [decide_eq_true (hok.2 ⟨c1, c2, c3, c4, .inr c6⟩), c6]; rfl
            · rw [decide_eq_false (fun h => by have := (hok.1 h).2.2.2.2; omega)]
              simp [c6]
        · refine Ev.congr (fun k => if_neg c4) ?_
          exact span_end x false (decide_eq_false (fun h => c4 (hok.1 h).2.2.2.1))
      · refine Ev.congr (fun k => if_neg c3) ?_
        exact span_end x false (decide_eq_false (fun h => c3 (hok.1 h).2.2.1))
    · refine Ev.congr (fun k => if_neg c2) ?_
      exact span_end x false (decide_eq_false (fun h => c2 (hok.1 h).2.1))
  · refine Ev.congr (fun k => if_neg c1) ?_
    exact span_end x false (decide_eq_false (fun h => c1 (hok.1 h).1))
end Go.Proofs.Ytoffcgdamcchcaa.Pure
