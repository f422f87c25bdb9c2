/- The law ValueAny's pure statement, with no condition of its own: any bytes begin with a value, or not. -/
import Derived.Test.YtbeoegdkoodlfaaQValFn
import Derived.Test.YtbeoegdkoodlfaaXValx17
set_option linter.unusedVariables false
set_option linter.unusedSimpArgs false
namespace Go.Proofs.Ytbeoegdkoodlfaa.Pure
open Go.RowKit Go.Proofs.YtbeoegdkoodlfaaW.PrintWords Go.Proofs.YtbeoegdkoodlfaaW.PrintMore Go.Proofs.Ytbeoegdkoodlfaa.G Go.Proofs.Ytbeoegdkoodlfaa.XVal Go.Proofs.Ytbeoegdkoodlfaa.Q
theorem ValueAny : loesslaw4_ValueAny.Pure := by
  intro l h1 h2 h3
  have hb := (Byt.of_wf h3).take 40
  have hl : (l.take 40).length < 4611686018427387904 := by rw [List.length_take]; omega
  refine Ev.rounds ?_
  unfold loesslaw4_ValueAny.f
  refine val_then ?_
  rw [show ((40 : Int)) = ((40 : Nat) : Int) from rfl, short_eq]
  simp only [Option.bind_some]
  refine Ev.bind (get_ev hb hl) (Ev.bind (refGet_ev hb hl) ?_)
  refine Ev.congr (fun k => if_pos rfl) (Ev.congr (fun k => if_pos rfl) (evC ?_))
  rw [eqVal_eq, decide_eq_true ⟨rfl, rfl, rfl⟩]
  rfl
end Go.Proofs.Ytbeoegdkoodlfaa.Pure
