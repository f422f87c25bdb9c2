/- The law HashAll's pure statement, with no condition of its own: of any text the program and the reference tell one hash, one bucket, one tag, one other bucket. -/
import Derived.Test.YtoachfoaknlemaaQHashBegun
import Derived.Test.YtoachfoaknlemaaXHashx13
import Derived.Test.YtoachfoaknlemaaXHashx10
import Derived.Test.YtoachfoaknlemaaXHashx11
import Derived.Test.YtoachfoaknlemaaXHashx12
set_option linter.unusedVariables false
set_option linter.unusedSimpArgs false
namespace Go.Proofs.Ytoachfoaknlemaa.Pure
open Go.RowKit Go.Proofs.YtoachfoaknlemaaW.PrintWords Go.Proofs.YtoachfoaknlemaaW.PrintMore Go.Proofs.Ytoachfoaknlemaa.G Go.Proofs.Ytoachfoaknlemaa.XHash Go.Proofs.Ytoachfoaknlemaa.Q
theorem refFirst {h : Int} (h0 : 0 ≤ h) : loessref6_First.f h = some (fst8 h) := by
  unfold loessref6_First.f fst8
  rw [Int.tmod_eq_emod_of_nonneg h0, w64 (by omega) (by omega)]
theorem refTag {h : Int} (h0 : 0 ≤ h) (h1 : h < 18446744073709551616) : loessref6_Tag.f h = some (tag8 h) := by
  unfold loessref6_Tag.f tag8
  rw [Int.tdiv_eq_ediv_of_nonneg h0, u64 (by omega) (by omega), Int.tmod_eq_emod_of_nonneg (by omega), w64 (by omega) (by omega)]
theorem refOther (b t : Int) : loessref6_Other.f b t = some (oth b t) := by
  unfold loessref6_Other.f oth
  by_cases h1 : b < 0
  · rw [if_pos h1, if_pos (.inl h1)]
  rw [if_neg h1]
  by_cases h2 : b > 7
  · rw [if_pos h2, if_pos (by omega)]
  rw [if_neg h2]
  by_cases h3 : t < 0
  · rw [if_pos h3, if_pos (by omega)]
  rw [if_neg h3]
  by_cases h4 : t > 32767
  · rw [if_pos h4, if_pos (by omega)]
  rw [if_neg h4, if_neg (by omega), Int.tmod_eq_emod_of_nonneg (by omega), w64 (by omega) (by omega)]
theorem HashAll : loesslaw9_HashAll.Pure := by
  intro a ha
  obtain ⟨s, hs, hs1, hs2⟩ := cut3_eq a 40
  refine Ev.rounds ?_
  unfold loesslaw9_HashAll.f
  refine hash_then ?_
  rw [show ((40 : Int)) = ((40 : Nat) : Int) from rfl, hs]
  simp only [Option.bind_some]
  have hr := H_range s
  have g1 := hash_ev (s := s) (by omega)
  have g2 := refHash_ev (s := s) (by omega)
  generalize H s = h at hr g1 g2
  refine Ev.bind g1 (Ev.bind g2 (evC ?_))
  rw [if_pos rfl, first_eq hr.1, refFirst hr.1, Option.bind_some, Option.bind_some, if_pos rfl, tag_eq hr.1, refTag hr.1 hr.2, Option.bind_some, Option.bind_some, if_pos rfl, other_eq, Option.bind_some, refOther, Option.bind_some, beq_self_eq_true]
end Go.Proofs.Ytoachfoaknlemaa.Pure
