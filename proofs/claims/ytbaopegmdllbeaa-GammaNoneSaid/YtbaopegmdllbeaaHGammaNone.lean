/- The law GammaNone, walked by hand. -/
import Derived.Test.YtbaopegmdllbeaaGGammaLaw
namespace Go.Proofs.Ytbaopegmdllbeaa.GL
open Go.RowKit Go.Proofs.YtbaopegmdllbeaaW.PrintWords Go.Proofs.YtbaopegmdllbeaaW.PrintLast Go.Proofs.YtbaopegmdllbeaaW.PrintMore Go.Proofs.Ytbaopegmdllbeaa.Q Go.Proofs.Ytbaopegmdllbeaa.XBit Go.Proofs.Ytbaopegmdllbeaa.G
set_option linter.unusedVariables false
set_option linter.unusedSimpArgs false
theorem G_get : getG [] 3 = none := by decide
theorem G_all : allI [] 2 0 = some ([], 2) := by decide
set_option maxRecDepth 1000000 in
set_option maxHeartbeats 8000000 in
theorem GammaNone.walk (P : True) (w : World) : Calls Try.prog 11 #[] w fun e w' => e = .returned (.bool true) ∧ Below w.heap.size w w' := by
  have HB := Aside0.mk (Below.refl w.heap.size w)
  go_enter Try.func11, Try.ntmps11
  go_wp2_with (first
    | (go_at_call 29; refine (gamma_Get _ (BitsP.nil _) (by decide)).mono ?_; rw [G_get]; rintro e w' ⟨rfl, rfl⟩; simp only [getR])
    | (go_at_call 31; refine (gamma_All _ _ (BitsP.nil _) (by decide) (by decide)).mono ?_; rw [G_all]; rintro e w8 ⟨hb, v8, rfl, hR⟩; obtain ⟨A8, c8, rfl⟩ := Kd.R_slice hR; have m2_ := Aside0.mk (below_step HB.out hb); clear HB; have HB := m2_; clear m2_ hb hR)
    | (go_at_call 28; refine (law7_begun _).mono ?_; rintro e w11 ⟨rfl, hb⟩; have m2_ := Aside0.mk (below_step HB.out hb); clear HB; have HB := m2_; clear m2_ hb)
    | (go_at_call 33; refine (gamma_Put_nil _ _).mono ?_; rintro e w' ⟨rfl, rfl⟩))
  go_ret
  exact ⟨rfl, HB.out⟩
end Go.Proofs.Ytbaopegmdllbeaa.GL
