/- The law ValueAll in plain Lean: any raw value is one, or none; what is one is told again, as what it is. -/
import Derived.Test.YtbeoegdkoodlfaaPureValueCutV
import Derived.Test.YtbeoegdkoodlfaaXVaax8
set_option linter.unusedVariables false
set_option linter.unusedSimpArgs false
namespace Go.Proofs.Ytbeoegdkoodlfaa.Pure
open Go.RowKit Go.Proofs.YtbeoegdkoodlfaaW.PrintWords Go.Proofs.YtbeoegdkoodlfaaW.PrintMore Go.Proofs.Ytbeoegdkoodlfaa.G Go.Proofs.Ytbeoegdkoodlfaa.XVaa Go.Proofs.Ytbeoegdkoodlfaa.Q
theorem ValueAll (a b : Int) (s : ByteArray) (ha : (Lit.int .i64 a).wf = true) (hb : (Lit.int .i64 b).wf = true) (hs : s.size ≤ 9223372036854775807) : ∃ k, loesslaw4_ValueAll.f k a b s = some true := by
  refine Ev.rounds ?_
  unfold loesslaw4_ValueAll.f
  refine Ev.bind val_begun (Ev.congr (fun k => if_pos rfl) ?_)
  obtain ⟨t, h1, h2, h3⟩ := cutV a b s
  refine Ev.bind (evC h1) ?_
  dsimp only
  by_cases hm : mayV a b t = true
  · rcases mayV_cases hm with ⟨h4, h5⟩ | ⟨h4, h5, h6, h7⟩
    · subst h4; subst h5
      have e : ofV 1 b ⟨#[]⟩ = (VX.num b, 0) := by unfold ofV; rw [if_pos ⟨rfl, rfl⟩]
      refine Ev.bind (evEq (value_Of_ev 1 b (s := ⟨#[]⟩) (by decide)) e) ?_
      refine Ev.bind (evC (show loesslaw4_must.f (VX.num b) = some (b, true) from rfl)) ?_
      refine Ev.bind (may_ev 1 b (s := ⟨#[]⟩) (by decide)) (Ev.congr (fun k => if_pos hm) ?_)
      refine Ev.bind (evC (show value_Num.f (VX.num b) = some (b, true) from rfl)) (Ev.bind (evC (show value_Text.f (VX.num b) = some (⟨#[]⟩, false) from rfl)) ?_)
      refine Ev.congr (fun k => if_pos rfl) (Ev.bind (evC (kind_eq (VX.num b))) (Ev.congr (fun k => if_pos rfl) (Ev.bind (evC (raw_eq (VX.num b))) (Ev.bind (evC (eqVal_eq _ _ _ _ _ _)) ?_))))
      refine Ev.congr (fun k => if_pos (decide_eq_true ⟨rfl, rfl, rfl⟩)) (Ev.congr (fun k => if_pos rfl) (Ev.congr (fun k => if_pos rfl) (Ev.congr (fun k => if_pos rfl) (Ev.congr (fun k => if_pos rfl) (Ev.congr (fun k => if_pos rfl) (Ev.congr (fun k => if_pos rfl) (evC ?_)))))))
      simp
    · subst h4; subst h5
      have e : ofV 2 0 t = (VX.txt t, 0) := by rw [ofV_two rfl, if_pos hm]
      refine Ev.bind (evEq (value_Of_ev 2 0 (s := t) (by omega)) e) ?_
      refine Ev.bind (evC (show loesslaw4_must.f (VX.txt t) = some (0, false) from rfl)) ?_
      refine Ev.bind (may_ev 2 0 (s := t) (by omega)) (Ev.congr (fun k => if_pos hm) ?_)
      refine Ev.bind (evC (show value_Num.f (VX.txt t) = some (0, false) from rfl)) (Ev.bind (evC (show value_Text.f (VX.txt t) = some (t, true) from rfl)) ?_)
      refine Ev.congr (fun k => if_pos rfl) (Ev.bind (evC (kind_eq (VX.txt t))) (Ev.congr (fun k => if_pos rfl) (Ev.bind (evC (raw_eq (VX.txt t))) (Ev.bind (evC (eqVal_eq _ _ _ _ _ _)) ?_))))
      refine Ev.congr (fun k => if_pos (decide_eq_true ⟨rfl, rfl, rfl⟩)) (Ev.congr (fun k => if_pos rfl) (Ev.congr (fun k => if_pos rfl) (Ev.congr (fun k => if_pos rfl) (Ev.congr (fun k => if_pos rfl) (Ev.congr (fun k => if_pos rfl) (Ev.congr (fun k => if_neg (by decide)) (Ev.now _)))))))
  · have e : ofV a b t = (VX.none, 1) := by
      unfold ofV
      rw [if_neg (fun h => hm (decide_eq_true (.inl h))), if_neg (fun h => hm (decide_eq_true (.inr h)))]
    refine Ev.bind (evEq (value_Of_ev a b (s := t) (by omega)) e) ?_
    refine Ev.bind (evC (show loesslaw4_must.f VX.none = some (0, false) from rfl)) ?_
    refine Ev.bind (may_ev a b (s := t) (by omega)) (Ev.congr (fun k => if_neg hm) ?_)
    refine Ev.congr (fun k => if_pos rfl) (Ev.bind (evC (kind_eq VX.none)) (Ev.congr (fun k => if_pos rfl) (Ev.congr (fun k => if_neg (by decide)) (Ev.bind (evC (raw_eq VX.none)) (evC ?_)))))
    rfl
end Go.Proofs.Ytbeoegdkoodlfaa.Pure
