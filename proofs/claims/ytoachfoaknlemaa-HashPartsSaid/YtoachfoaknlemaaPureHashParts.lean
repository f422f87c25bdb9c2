/- The law HashParts' pure statement, with no condition of its own: of any hash the bucket, the tag; the other bucket's other one is the bucket, and another one. -/
import Derived.Test.YtoachfoaknlemaaPureHashAll
import Derived.Test.YtoachfoaknlemaaXHashx14
set_option linter.unusedVariables false
set_option linter.unusedSimpArgs false
namespace Go.Proofs.Ytoachfoaknlemaa.Pure
open Go.RowKit Go.Proofs.YtoachfoaknlemaaW.PrintWords Go.Proofs.YtoachfoaknlemaaW.PrintMore Go.Proofs.Ytoachfoaknlemaa.G Go.Proofs.Ytoachfoaknlemaa.XHash Go.Proofs.Ytoachfoaknlemaa.Q
theorem HashParts : loesslaw9_HashParts.Pure := by
  intro h b t hh hb ht
  obtain ⟨h0, h1⟩ := wfU64 hh
  refine Ev.rounds ?_
  unfold loesslaw9_HashParts.f
  refine hash_then ?_
  have hf : 0 ≤ fst8 h ∧ fst8 h < 8 := by unfold fst8; omega
  have htg : 0 ≤ tag8 h ∧ tag8 h < 32768 := by unfold tag8; omega
  have ho := oth_back hf.1 hf.2 htg.1 htg.2
  simp only [first_eq h0, refFirst h0, tag_eq h0, refTag h0 h1, other_eq, refOther, Option.bind_some, if_true]
  refine Ev.congr (fun k => if_neg (by omega)) (Ev.congr (fun k => if_neg (by omega)) (Ev.congr (fun k => if_neg ho.2.2.1) ?_))
  have hne : (oth (oth (fst8 h) (tag8 h)) (tag8 h) != fst8 h) = false := by rw [ho.2.2.2]; simp
  rw [hne]
  refine Ev.step (f := fun _ => some true) (fun k => ?_) (Ev.now _)
  simp only [loesslaw9_HashParts.j0]
  rw [if_neg (by simp)]
  simp only [other_eq, refOther, Option.bind_some]
  simp
end Go.Proofs.Ytoachfoaknlemaa.Pure
