/- The law RunesBytes' pure statement, with no condition of its own: of any four bytes the program and the reference tell the same runes. -/
import Derived.Test.YtmolfmnepbgdfaaQRunBegun
import Derived.Test.YtmolfmnepbgdfaaQRunesRef
import Derived.Test.YtmolfmnepbgdfaaXRunx7
set_option linter.unusedVariables false
set_option linter.unusedSimpArgs false
namespace Go.Proofs.Ytmolfmnepbgdfaa.Pure
open Go.RowKit Go.Proofs.YtmolfmnepbgdfaaW.PrintWords Go.Proofs.YtmolfmnepbgdfaaW.PrintMore Go.Proofs.Ytmolfmnepbgdfaa.G Go.Proofs.Ytmolfmnepbgdfaa.XRun Go.Proofs.Ytmolfmnepbgdfaa.Q
theorem same_l (l : List Int) (hl : l.length ≤ 1000000) : ∀ (d i : Nat), i + d = l.length → Ev (fun k => loesslaw3_RunesBytes.l0 k l l (i : Int)) true := by
  intro d
  induction d with
  | zero =>
    intro i hi
    refine Ev.step (f := fun _ => some true) (fun k => ?_) (Ev.now _)
    simp only [loesslaw3_RunesBytes.l0]
    rw [if_neg (by omega)]
  | succ d ih =>
    intro i hi
    refine Ev.step (fun k => ?_) (ih (i + 1) (by omega))
    simp only [loesslaw3_RunesBytes.l0]
    rw [if_pos (by omega), if_pos (by omega), if_pos (by omega), if_pos trivial, w64 (by omega) (by omega)]
    rfl
theorem RunesBytes : loesslaw3_RunesBytes.Pure := by
  intro a b c d ha hb hc hd
  refine Ev.rounds ?_
  unfold loesslaw3_RunesBytes.f
  simp only [run_begun, Option.bind_some, if_true]
  generalize hs : strOfNums [a, b, c, d] = s
  have hz : s.size = 4 := by rw [← hs, strOfNums_size]; rfl
  have hl := D_len s
  refine Ev.bind (refRunes_ev (s := s) (by omega)) ?_
  simp only [rOf (s := s) (by omega), rValid (s := s) (by omega), Option.bind_some]
  refine Ev.congr (fun k => if_pos (by simp [D])) ?_
  refine Ev.bind (refValid_ev (s := s) (by omega)) ?_
  have hne : (vld s != (ds (bytesOf s)).all (·.2.2)) = false := by unfold vld D; simp
  rw [hne]
  refine Ev.step (fun k => ?_) (same_l ((D s).map (·.1)) (by rw [List.length_map]; omega) _ 0 (Nat.zero_add _))
  simp only [loesslaw3_RunesBytes.j0]
  rw [if_neg (by simp)]
  rfl
end Go.Proofs.Ytmolfmnepbgdfaa.Pure
