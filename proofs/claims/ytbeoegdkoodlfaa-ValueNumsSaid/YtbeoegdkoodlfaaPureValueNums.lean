/- The law ValueNums' pure statement, with no condition of its own: any number is a value, and comes back by two roads; it is no text. -/
import Derived.Test.YtbeoegdkoodlfaaQValFn
import Derived.Test.YtbeoegdkoodlfaaXValx7
set_option linter.unusedVariables false
set_option linter.unusedSimpArgs false
namespace Go.Proofs.Ytbeoegdkoodlfaa.Pure
open Go.RowKit Go.Proofs.YtbeoegdkoodlfaaW.PrintWords Go.Proofs.YtbeoegdkoodlfaaW.PrintMore Go.Proofs.Ytbeoegdkoodlfaa.G Go.Proofs.Ytbeoegdkoodlfaa.XVal Go.Proofs.Ytbeoegdkoodlfaa.Q
theorem ValueNums : loesslaw4_ValueNums.Pure := by
  intro n hn
  refine Ev.rounds ?_
  unfold loesslaw4_ValueNums.f
  refine val_then ?_
  have e : ofV 1 n ⟨#[]⟩ = (VX.num n, 0) := by unfold ofV; rw [if_pos ⟨rfl, rfl⟩]
  have h := value_Of_ev 1 n (s := ⟨#[]⟩) (by decide)
  rw [e] at h
  refine Ev.bind h (evC ?_)
  simp only [value_Num.f, value_Text.f, loesslaw4_must.f, raw_eq, VX.n, VX.isN, VX.s, VX.isT, VX.k, Option.bind_some, if_true]
  have : (⟨#[]⟩ : ByteArray).toList = ([] : List UInt8) := (nil_iff _).2 rfl
  rw [if_neg (by simp), if_pos this]
  simp
end Go.Proofs.Ytbeoegdkoodlfaa.Pure
