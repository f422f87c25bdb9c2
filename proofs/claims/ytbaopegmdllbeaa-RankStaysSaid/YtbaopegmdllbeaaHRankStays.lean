/- The law RankStays, walked by hand. -/
import Derived.Test.YtbaopegmdllbeaaHRankBack
namespace Go.Proofs.Ytbaopegmdllbeaa.GL
open Go.RowKit Go.Proofs.YtbaopegmdllbeaaW.PrintWords Go.Proofs.YtbaopegmdllbeaaW.PrintLast Go.Proofs.YtbaopegmdllbeaaW.PrintMore Go.Proofs.Ytbaopegmdllbeaa.Q Go.Proofs.Ytbaopegmdllbeaa.XBit
set_option linter.unusedVariables false
set_option linter.unusedSimpArgs false
theorem RankAt.below {base p : Nat} {w w' : World} {R : List Int} (h : RankAt base w p R) (hb : Below w.heap.size w w') : RankAt base w' p R := by
  obtain ⟨v, h1, h2, h3⟩ := h
  exact ⟨v, blk_below h1 hb, h2, Kd.R_below h3 hb⟩
/-- Bits that are put beside it leave a rank as it was. -/
theorem RankAt.keep {base p : Nat} {w w' : World} {R : List Int} (h : RankAt base w p R) (hk : KeepT w w') : RankAt base w' p R := by
  obtain ⟨v, h1, h2, h3⟩ := h
  exact ⟨v, hk.2 _ _ _ _ h1 (by decide) (by decide), h2, hk.R h3 (by intro q hq; (rcases List.mem_cons.1 hq with rfl | h); exact ⟨by decide, by decide⟩; cases h)⟩
theorem BO.lower {base base' p : Nat} {w : World} {L : List Bool} (h : BO base w p L) (hb : base' ≤ base) : BO base' w p L := by
  obtain ⟨v, h1, h2, h3⟩ := h
  exact ⟨v, h1, Nat.le_trans hb h2, Kd.R_lower h3 hb⟩
theorem RankAt.lower {base base' p : Nat} {w : World} {R : List Int} (h : RankAt base w p R) (hb : base' ≤ base) : RankAt base' w p R := by
  obtain ⟨v, h1, h2, h3⟩ := h
  exact ⟨v, h1, Nat.le_trans hb h2, Kd.R_lower h3 hb⟩
set_option maxRecDepth 1000000 in
set_option maxHeartbeats 8000000 in
theorem RankStays.walk (P : True) (A0 : Option Addr) (len0 c0 : Nat) (l : List Bool) (a1 : Bool) (w : World) (w0 : O.IsRows Kd.bool (fun _ => True) w A0 len0 c0 l) :
    Calls Try.prog 8 #[.slice A0 len0 c0, .bool a1] w fun e w' => e = .returned (.bool true) ∧ Below w.heap.size w w' := by
  obtain ⟨hlen, hlc, hcm, hC0, _⟩ := w0
  have HB := Aside0.mk (Below.refl w.heap.size w)
  by_cases hcut : 100 < len0
  · skip
    obtain ⟨L, hL⟩ : ∃ L, L = l.take 100 := ⟨_, rfl⟩
    obtain ⟨M, hM⟩ : ∃ M, M = 100 := ⟨_, rfl⟩
    obtain ⟨i0, hi, hi1, hi2, hi3⟩ := info_parts info4
    have hrun : ∀ W : World, (Instr.slice 43 (.slice A0 len0 c0) none (some (.int .i64 100)) none).run Try.prog W = .ok (.slice A0 M c0) W := by
      intro W
      rw [hM]
      exact cut_to (P := Try.prog) 43 4 .i64 Try.underlying43 hi A0 len0 c0 100 (by decide) (by omega) hlc W
    have hcd : decide ((100 : Int) < (len0 : Int)) = true := decide_eq_true (by omega)
    have hcd2 : decide (100 < len0) = true := decide_eq_true hcut
    have hC1 : Kd.C Kd.bool w A0 M L := by
      have := Kd.C_take (k := Kd.bool) (m := 100) (by rw [hlen]; exact hC0) (by omega)
      rw [List.length_take, hlen, Nat.min_eq_left (by omega)] at this
      rw [hM, hL]
      exact this
    have hML : M = L.length := by rw [hM, hL, List.length_take]; omega
    have HM100 := Aside0.mk hM
    have hmi : (M : Int) ≤ 100 := by omega
    have HC := Aside0.mk hC1
    have HM := Aside0.mk hML
    have HM3 := Aside0.mk (show M ≤ 100 by omega)
    have HL := Aside0.mk (show L.length < 1000000000 by omega)
    have HL1 := Aside0.mk (show L.length < 100000000 by omega)
    have HL0 := Aside0.mk (show L.length < 100000000000 by omega)
    clear hC0 hlen hM hL hML hcut hlc hcm hC1 hi hi1 hi2 hi3 HM100
    obtain ⟨c, hc⟩ : ∃ c, c = cnt L L.length := ⟨_, rfl⟩
    have o1 := Aside0.mk (show cnt L (clampN (M : Int) L.length) = c by rw [clampN_over (by have := HM.out; omega), hc])
    have o2 := Aside0.mk (show cnt L (clampN ((M : Int) + 1) L.length) = c by rw [clampN_over (by have := HM.out; omega), hc])
    have HE := Aside0.mk HM.out.symm
    have hcb : (c : Int) ≤ 100 := by have := cnt_le L L.length; have := HM.out; have := HM3.out; omega
    have HL12 := Aside0.mk (show L.length < 1000000000000 by have := HL.out; omega)
    clear hc
    go_enter Try.func8, Try.ntmps8
    go_wp2_with (first
      | (go_at_call 22; refine (law8_begun _).mono ?_; rintro e w1 ⟨rfl, hb⟩; have n1_ := Aside0.mk (below_step HB.out hb); clear HB hb; have HB := n1_; clear n1_)
      | (go_at_call 24; refine (law_Of_m HM.out (Kd.C_below HC.out HB.out) HL0.out).mono ?_; rintro e w3 ⟨p, rfl, hbo, hb⟩; have HBO := Aside0.mk (hbo.lower HB.out.size); have n1_ := Aside0.mk (below_step HB.out hb); clear HB hbo hb; have HB := n1_; clear n1_)
      | (go_at_call 23; (first
          | ((with_reducible refine (rank_New HBO.out.toP HL.out).mono ?_); rintro e w4 ⟨q, rfl, hr, hb⟩; have HRA := Aside0.mk (hr.lower HB.out.size); have n1_ := Aside0.mk (below_step HB.out hb); have n2_ := Aside0.mk (HBO.out.below hb); clear HB HBO hr hb; have HB := n1_; have HBO := n2_; clear n1_ n2_)
          | ((with_reducible refine (rank_New (BitsP.nil _) (by decide)).mono ?_); rintro e w6 ⟨q2, rfl, hr, hb⟩; have HRN := Aside0.mk hr.reads; have n1_ := Aside0.mk (below_step HB.out hb); clear HB hb hr; have HB := n1_; clear n1_)))
      | (go_at_call 20; refine (bits_Put a1 HBO.out HB.out.size HL12.out).mono ?_; rintro e w5 ⟨rfl, hO, hb, hk⟩; have n1_ := Aside0.mk (HB.out.trans hb); have n2_ := Aside0.mk (HRA.out.keep hk); clear HB HBO HRA hO hb hk; have HB := n1_; have HRA := n2_; clear n1_ n2_)
      | (go_at_call 25; (first
          | ((with_reducible refine (rank_Ones_nil _ _).mono ?_))
          | ((with_reducible refine (rank_Ones _ HRA.out.reads HL.out).mono ?_); (first | rw [o1.out] | rw [o2.out]))); rintro e w' ⟨rfl, hd⟩; have n1_ := Aside0.mk (below_step HB.out (drawn_below hd)); have n2_ := Aside0.mk (HRA.out.below (drawn_below hd)); (try (have n3_ := Aside0.mk (HBO.out.below (drawn_below hd)); clear HBO; have HBO := n3_; clear n3_)); clear HB HRA hd; have HB := n1_; have HRA := n2_; clear n1_ n2_)
      | (go_at_call 26; (with_reducible refine (rank_Place_nil _ _).mono ?_); rintro e w' ⟨rfl, hd⟩; have n1_ := Aside0.mk (below_step HB.out (drawn_below hd)); have n2_ := Aside0.mk (HRA.out.below (drawn_below hd)); clear HB HRA hd; have HB := n1_; have HRA := n2_; clear n1_ n2_)
      | (go_at_call 27; (first
          | ((with_reducible refine (rank_Len_nil _).mono ?_))
          | ((with_reducible refine (rank_Len HRN.out (by decide)).mono ?_))
          | ((with_reducible refine (rank_Len HRA.out.reads HL.out).mono ?_); rw [HE.out])); rintro e w' ⟨rfl, rfl⟩))
    go_ret
    exact ⟨rfl, HB.out⟩
  · skip
    obtain ⟨L, hL⟩ : ∃ L, L = l := ⟨_, rfl⟩
    obtain ⟨M, hM⟩ : ∃ M, M = len0 := ⟨_, rfl⟩
    rw [← hM] at hC0 hcut ⊢
    rw [← hL] at hC0
    have hML : M = L.length := by rw [hM, hL, hlen]
    have hcd : decide ((100 : Int) < (M : Int)) = false := decide_eq_false (by omega)
    have hcd2 : decide (100 < M) = false := decide_eq_false (by omega)
    have hmi : (M : Int) ≤ 100 := by omega
    have HC := Aside0.mk hC0
    have HM := Aside0.mk hML
    have HM3 := Aside0.mk (show M ≤ 100 by omega)
    have HL := Aside0.mk (show L.length < 1000000000 by omega)
    have HL1 := Aside0.mk (show L.length < 100000000 by omega)
    have HL0 := Aside0.mk (show L.length < 100000000000 by omega)
    clear hC0 hlen hM hL hML hcut hlc hcm
    obtain ⟨c, hc⟩ : ∃ c, c = cnt L L.length := ⟨_, rfl⟩
    have o1 := Aside0.mk (show cnt L (clampN (M : Int) L.length) = c by rw [clampN_over (by have := HM.out; omega), hc])
    have o2 := Aside0.mk (show cnt L (clampN ((M : Int) + 1) L.length) = c by rw [clampN_over (by have := HM.out; omega), hc])
    have HE := Aside0.mk HM.out.symm
    have hcb : (c : Int) ≤ 100 := by have := cnt_le L L.length; have := HM.out; have := HM3.out; omega
    have HL12 := Aside0.mk (show L.length < 1000000000000 by have := HL.out; omega)
    clear hc
    go_enter Try.func8, Try.ntmps8
    go_wp2_with (first
      | (go_at_call 22; refine (law8_begun _).mono ?_; rintro e w1 ⟨rfl, hb⟩; have n1_ := Aside0.mk (below_step HB.out hb); clear HB hb; have HB := n1_; clear n1_)
      | (go_at_call 24; refine (law_Of_m HM.out (Kd.C_below HC.out HB.out) HL0.out).mono ?_; rintro e w3 ⟨p, rfl, hbo, hb⟩; have HBO := Aside0.mk (hbo.lower HB.out.size); have n1_ := Aside0.mk (below_step HB.out hb); clear HB hbo hb; have HB := n1_; clear n1_)
      | (go_at_call 23; (first
          | ((with_reducible refine (rank_New HBO.out.toP HL.out).mono ?_); rintro e w4 ⟨q, rfl, hr, hb⟩; have HRA := Aside0.mk (hr.lower HB.out.size); have n1_ := Aside0.mk (below_step HB.out hb); have n2_ := Aside0.mk (HBO.out.below hb); clear HB HBO hr hb; have HB := n1_; have HBO := n2_; clear n1_ n2_)
          | ((with_reducible refine (rank_New (BitsP.nil _) (by decide)).mono ?_); rintro e w6 ⟨q2, rfl, hr, hb⟩; have HRN := Aside0.mk hr.reads; have n1_ := Aside0.mk (below_step HB.out hb); clear HB hb hr; have HB := n1_; clear n1_)))
      | (go_at_call 20; refine (bits_Put a1 HBO.out HB.out.size HL12.out).mono ?_; rintro e w5 ⟨rfl, hO, hb, hk⟩; have n1_ := Aside0.mk (HB.out.trans hb); have n2_ := Aside0.mk (HRA.out.keep hk); clear HB HBO HRA hO hb hk; have HB := n1_; have HRA := n2_; clear n1_ n2_)
      | (go_at_call 25; (first
          | ((with_reducible refine (rank_Ones_nil _ _).mono ?_))
          | ((with_reducible refine (rank_Ones _ HRA.out.reads HL.out).mono ?_); (first | rw [o1.out] | rw [o2.out]))); rintro e w' ⟨rfl, hd⟩; have n1_ := Aside0.mk (below_step HB.out (drawn_below hd)); have n2_ := Aside0.mk (HRA.out.below (drawn_below hd)); (try (have n3_ := Aside0.mk (HBO.out.below (drawn_below hd)); clear HBO; have HBO := n3_; clear n3_)); clear HB HRA hd; have HB := n1_; have HRA := n2_; clear n1_ n2_)
      | (go_at_call 26; (with_reducible refine (rank_Place_nil _ _).mono ?_); rintro e w' ⟨rfl, hd⟩; have n1_ := Aside0.mk (below_step HB.out (drawn_below hd)); have n2_ := Aside0.mk (HRA.out.below (drawn_below hd)); clear HB HRA hd; have HB := n1_; have HRA := n2_; clear n1_ n2_)
      | (go_at_call 27; (first
          | ((with_reducible refine (rank_Len_nil _).mono ?_))
          | ((with_reducible refine (rank_Len HRN.out (by decide)).mono ?_))
          | ((with_reducible refine (rank_Len HRA.out.reads HL.out).mono ?_); rw [HE.out])); rintro e w' ⟨rfl, rfl⟩))
    go_ret
    exact ⟨rfl, HB.out⟩
end Go.Proofs.Ytbaopegmdllbeaa.GL
