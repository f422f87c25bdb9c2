/- loesslaw8.begun by hand. -/
import Derived.Test.YtbaopegmdllbeaaGRankPl
namespace Go.Proofs.Ytbaopegmdllbeaa.GL
open Go.RowKit Go.Proofs.YtbaopegmdllbeaaW.PrintWords Go.Proofs.YtbaopegmdllbeaaW.PrintLast Go.Proofs.YtbaopegmdllbeaaW.PrintMore Go.Proofs.Ytbaopegmdllbeaa.Q Go.Proofs.Ytbaopegmdllbeaa.XBit
set_option linter.unusedVariables false
set_option linter.unusedSimpArgs false
theorem drawn_below {w w' : World} (h : Drawn0 w w') : Below w.heap.size w w' := by obtain ⟨n, rfl⟩ := h; exact pw_below_drewN (Below.refl _ _) n
theorem RankR.drawn {p : Nat} {w w' : World} {R : List Int} (h : RankR w p R) (hd : Drawn0 w w') : RankR w' p R := h.below (drawn_below hd)
theorem Drawn0.to {w w' w2 : World} (h : Drawn0 w w') (k : Drawn0 w' w2) : Drawn0 w w2 := by obtain ⟨n, rfl⟩ := k; exact h.step n
set_option maxRecDepth 1000000 in
set_option maxHeartbeats 8000000 in
theorem law8_begun (w : World) : Calls Try.prog 22 #[] w fun e w' => e = .returned (.bool true) ∧ Below w.heap.size w w' := by
  have HB := Aside0.mk (Below.refl w.heap.size w)
  have o0 := Aside0.mk (show cnt [true, false, true, true] (clampN 0 [true, false, true, true].length) = 0 from rfl)
  have o3 := Aside0.mk (show cnt [true, false, true, true] (clampN 3 [true, false, true, true].length) = 2 from rfl)
  have o9 := Aside0.mk (show cnt [true, false, true, true] (clampN 9 [true, false, true, true].length) = 3 from rfl)
  have om := Aside0.mk (show cnt [true, false, true, true] (clampN (-1) [true, false, true, true].length) = 0 from rfl)
  obtain ⟨L, hL⟩ : ∃ L, L = [true, false, true, true] := ⟨_, rfl⟩
  have hl4 : L.length = 4 := by rw [hL]; rfl
  have p1 := Aside0.mk (show (2 : Nat) < L.length ∧ L.getD 2 false = true ∧ (1 : Int) = (cnt L 2 : Int) by rw [hL]; exact ⟨by decide, rfl, rfl⟩)
  have p3 := Aside0.mk (show (3 : Int) < 0 ∨ (cnt L L.length : Int) ≤ 3 by rw [hL]; exact .inr (by decide))
  rw [← hL] at o0 o3 o9 om
  have HL := Aside0.mk (show L.length < 1000000000 by omega)
  have HL1 := Aside0.mk (show L.length < 100000000 by omega)
  have HL0 := Aside0.mk (show L.length < 100000000000 by omega)
  have HLE := Aside0.mk hL
  have HT := Aside0.mk (show (2 : Int) = ((2 : Nat) : Int) from rfl)
  have HL4 := Aside0.mk hl4
  clear hL hl4
  go_enter Try.func22, Try.ntmps22
  go_wp2_with (first
    | ((with_reducible refine gate_dst (N := 2) rfl ?_); refine Kd.R_lit Kd.bool (w0 := w) w.heap.size 4 rfl (N := 2) rfl (xs := [true, false, true, true]) (inner := [.bool true, .bool false, .bool true, .bool true]) (ok := fun _ => True) (okp := fun _ => True) ?aR (Kd.reps_scalar (enc := Value.bool) [true, false, true, true]) (fun _ h => h) trivial HB.out (below_size HB.out) (by decide) ?_; (case aR => first | (go_simp; done) | (go_simp; rfl)); intro v2 w2 ho hb hg hat; rw [← HLE.out] at ho; obtain ⟨A2, c2, rfl, _, hC⟩ := Kd.R_reads ho; have HC := Aside0.mk hC; have n1_ := Aside0.mk hb; clear HB ho hb hg hat hC; have HB := n1_; clear n1_)
    | (go_at_call 24; refine (law_Of HC.out HL0.out).mono ?_; rintro e w3 ⟨p, rfl, hbo, hb⟩; have HBO := Aside0.mk hbo; have n1_ := Aside0.mk (below_step HB.out hb); clear HB hbo hb HC; have HB := n1_; clear n1_)
    | (go_at_call 23; refine (rank_New HBO.out.toP HL.out).mono ?_; rintro e w4 ⟨q, rfl, hr, hb⟩; have HRR := Aside0.mk hr.reads; have n1_ := Aside0.mk (below_step HB.out hb); clear HB hr hb HBO; have HB := n1_; clear n1_; have HD := Aside0.mk (Drawn0.refl w4))
    | ((go_at_call 25; refine (rank_Ones _ (HRR.out.drawn HD.out) HL.out).mono ?_; (first | rw [o0.out] | rw [o3.out] | rw [o9.out] | rw [om.out]); rintro e w' ⟨rfl, hd⟩; have n0_ := Aside0.mk (Drawn0.to HD.out hd); clear HD hd; have HD := n0_; clear n0_))
    | (go_at_call 26; (first | (with_reducible refine (rank_Place_at 2 2 1 (HRR.out.drawn HD.out) HL1.out p1.out.1 p1.out.2.1 p1.out.2.2 HT.out).mono ?_) | (with_reducible refine (rank_Place_none 3 (HRR.out.drawn HD.out) HL1.out p3.out).mono ?_)); rintro e w' ⟨rfl, hd⟩; have n0_ := Aside0.mk (Drawn0.to HD.out hd); clear HD hd; have HD := n0_; clear n0_)
    | (go_at_call 27; refine (rank_Len (HRR.out.drawn HD.out) HL.out).mono ?_; (try rw [HL4.out]); rintro e w' ⟨rfl, rfl⟩))
  go_ret
  exact ⟨rfl, below_step HB.out (drawn_below HD.out)⟩
end Go.Proofs.Ytbaopegmdllbeaa.GL
