/- The law BitsNone, walked by hand. -/
import Derived.Test.YtbaopegmdllbeaaGBitsLaw
namespace Go.Proofs.Ytbaopegmdllbeaa.GL
open Go.RowKit Go.Proofs.YtbaopegmdllbeaaW.PrintWords Go.Proofs.YtbaopegmdllbeaaW.PrintLast Go.Proofs.YtbaopegmdllbeaaW.PrintMore Go.Proofs.Ytbaopegmdllbeaa.Q Go.Proofs.Ytbaopegmdllbeaa.XBit
set_option linter.unusedVariables false
set_option linter.unusedSimpArgs false
theorem L0_num : numAt [] 0 1 = none := by decide
theorem L0_at : atB [] 0 = false := by decide
theorem L0_of : ofBits [] 0 = some [] := by decide
theorem L0_pack : pack [] = [] := rfl
theorem bits_PutNum_nil_at {w : World} (x n : Int) (k : Nat) (hn : n = (k : Int)) (hk : k ≤ 64) (hx0 : 0 ≤ x) (hx1 : x < 18446744073709551616) :
    Calls Try.prog 18 #[.pointer none, .int .u64 x, .int .i64 n] w fun e w' => e = .returned (.tuple #[]) ∧ w = w' := by
  subst hn
  exact bits_PutNum_nil x k hk hx0 hx1
set_option maxRecDepth 1000000 in
set_option maxHeartbeats 8000000 in
theorem BitsNone.walk (P : True) (w : World) : Calls Try.prog 5 #[] w fun e w' => e = .returned (.bool true) ∧ Below w.heap.size w w' := by
  have HB := Aside0.mk (Below.refl w.heap.size w)
  have BY0 := Aside0.mk Byt.nil
  go_enter Try.func5, Try.ntmps5
  go_wp2_with (first
    | (go_at_call 20; refine (bits_Put_nil _ _).mono ?_; rintro e w' ⟨rfl, rfl⟩)
    | (go_at_call 18; refine (bits_PutNum_nil_at _ _ 5 rfl (by decide) (by decide) (by decide)).mono ?_; rintro e w' ⟨rfl, rfl⟩)
    | (go_at_call 19; refine (bits_Num _ _ (BitsP.nil _) (by decide)).mono ?_; rw [L0_num]; rintro e w' ⟨rfl, rfl⟩; simp only [numR, Option.getD_some, Option.getD_none, Option.isSome_some, Option.isSome_none])
    | (go_at_call 15; refine (bits_Of (l := []) 0 (Kd.C_nil _ _) (Nat.le_refl _) (by decide) BY0.out).mono ?_; rw [L0_of]; rintro e w10 ⟨hb, q, rfl, hq⟩; have HBO := Aside0.mk hq; have m2_ := Aside0.mk (below_step HB.out hb); clear HB; have HB := m2_; clear m2_ hb hq)
    | (go_at_call 13; refine (law6_begun _).mono ?_; rintro e w11 ⟨rfl, hb⟩; have m1_ := Aside0.mk (HBO.out.below hb); have m2_ := Aside0.mk (below_step HB.out hb); clear HB HBO; have HBO := m1_; have HB := m2_; clear m1_ m2_ hb)
    | (go_at_call 17; refine (bits_Bytes (BitsP.nil _) (by decide)).mono ?_; rw [L0_pack]; rintro e w8 ⟨v8, rfl, hR, hb⟩; obtain ⟨A8, c8, rfl⟩ := Kd.R_slice hR; have m1_ := Aside0.mk (HBO.out.below hb); have m2_ := Aside0.mk (below_step HB.out hb); clear HB HBO; have HBO := m1_; have HB := m2_; clear m1_ m2_ hb hR)
    | (go_at_call 16; (first
        | (with_reducible refine (bits_Len (BitsP.nil _)).mono ?_)
        | (with_reducible refine (bits_Len HBO.out.toP).mono ?_)); rintro e w' ⟨rfl, rfl⟩)
    | (go_at_call 21; refine (bits_At _ (BitsP.nil _) (by decide)).mono ?_; rw [L0_at]; rintro e w' ⟨rfl, rfl⟩))
  go_ret
  exact ⟨rfl, HB.out⟩
end Go.Proofs.Ytbaopegmdllbeaa.GL
