/- The law RankAll, walked by hand. -/
import Derived.Test.YtbaopegmdllbeaaGRankLaw
import Derived.Test.YtbaopegmdllbeaaQOpen
namespace Go.Proofs.Ytbaopegmdllbeaa.GL
open Go.RowKit Go.Proofs.YtbaopegmdllbeaaW.PrintWords Go.Proofs.YtbaopegmdllbeaaW.PrintLast Go.Proofs.YtbaopegmdllbeaaW.PrintMore Go.Proofs.Ytbaopegmdllbeaa.Q Go.Proofs.Ytbaopegmdllbeaa.XBit
set_option linter.unusedVariables false
set_option linter.unusedSimpArgs false
theorem clampN_in {k n : Nat} (h : k ≤ n) : clampN (k : Int) n = k := by unfold clampN; rw [if_neg (by omega)]; omega
theorem clampN_over {i : Int} {n : Nat} (h : (n : Int) ≤ i) : clampN i n = n := by unfold clampN; rw [if_neg (by omega)]; omega
theorem law_Of_m {w : World} {A : Option Addr} {c m : Nat} {L : List Bool} (hm : m = L.length) (hC : Kd.C Kd.bool w A m L) (hl : L.length < 100000000000) :
    Calls Try.prog 24 #[.slice A m c] w (NewPost w L) := by
  subst hm
  exact law_Of hC hl
set_option maxRecDepth 1000000 in
set_option maxHeartbeats 8000000 in
theorem RankAll.walk (P : True) (A0 : Option Addr) (len0 c0 : Nat) (l : List Bool) (n : Int) (w : World) (w0 : O.IsRows Kd.bool (fun _ => True) w A0 len0 c0 l) (w1 : (Lit.int .i64 n).wf = true) :
    Calls Try.prog 6 #[.slice A0 len0 c0, .int .i64 n] w fun e w' => e = .returned (.bool true) ∧ Below w.heap.size w w' := by
  obtain ⟨hlen, hlc, hcm, hC0, _⟩ := w0
  have HB := Aside0.mk (Below.refl w.heap.size w)
  by_cases hcut : 300 < len0
  · obtain ⟨L, hL⟩ : ∃ L, L = l.take 300 := ⟨_, rfl⟩
    obtain ⟨M, hM⟩ : ∃ M, M = 300 := ⟨_, rfl⟩
    obtain ⟨i0, hi, hi1, hi2, hi3⟩ := info_parts info4
    have hrun : ∀ W : World, (Instr.slice 43 (.slice A0 len0 c0) none (some (.int .i64 300)) none).run Try.prog W = .ok (.slice A0 M c0) W := by
      intro W
      rw [hM]
      exact cut_to (P := Try.prog) 43 4 .i64 Try.underlying43 hi A0 len0 c0 300 (by decide) (by omega) hlc W
    have hcd : decide ((300 : Int) < (len0 : Int)) = true := decide_eq_true (by omega)
    have hcd2 : decide (300 < len0) = true := decide_eq_true hcut
    have hC1 : Kd.C Kd.bool w A0 M L := by
      have := Kd.C_take (k := Kd.bool) (m := 300) (by rw [hlen]; exact hC0) (by omega)
      rw [List.length_take, hlen, Nat.min_eq_left (by omega)] at this
      rw [hM, hL]
      exact this
    have hML : M = L.length := by rw [hM, hL, List.length_take]; omega
    have HM300 := Aside0.mk hM
    have hmi : (M : Int) ≤ 300 := by omega
    have HC := Aside0.mk hC1
    have HM := Aside0.mk hML
    have HM3 := Aside0.mk (show M ≤ 300 by omega)
    have HL := Aside0.mk (show L.length < 1000000000 by omega)
    have HL1 := Aside0.mk (show L.length < 100000000 by omega)
    have HL0 := Aside0.mk (show L.length < 100000000000 by omega)
    clear hC0 hlen hM hL hML hcut hlc hcm hC1 hi hi1 hi2 hi3 HM300
    go_enter Try.func6, Try.ntmps6
    go_wp2_with (first
    | (go_at_call 22; refine (law8_begun _).mono ?_; rintro e w1 ⟨rfl, hb⟩; have n1_ := Aside0.mk (below_step HB.out hb); clear HB hb; have HB := n1_; clear n1_)
    | (go_at_call 24; refine (law_Of_m HM.out (Kd.C_below HC.out HB.out) HL0.out).mono ?_; rintro e w3 ⟨p, rfl, hbo, hb⟩; have HBO := Aside0.mk hbo; have n1_ := Aside0.mk (below_step HB.out hb); clear HB hbo hb; have HB := n1_; clear n1_)
    | (go_at_call 23; refine (rank_New HBO.out.toP HL.out).mono ?_; rintro e w4 ⟨q, rfl, hr, hb⟩; have HRR := Aside0.mk hr.reads; have n1_ := Aside0.mk (below_step HB.out hb); clear HB hr hb HBO; have HB := n1_; clear n1_; have HD := Aside0.mk (Drawn0.refl w4))
    )
    go_loopw [7, 8] (fun v7 v8 wr => ∃ (k : Nat), v8 = .int .i64 k ∧ v7 = .int .i64 (cnt L k) ∧ k ≤ M ∧ Aside0 (Drawn0 w4 wr)) (fun _ v _ => M - (intOf v).toNat)
    case atStart => exact ⟨0, by first | rfl | go_num, by first | rfl | (simp [cnt]; done), Nat.zero_le _, HD⟩
    case round =>
      clear HD
      obtain ⟨k, rfl, rfl, hk, HD⟩ := hrel
      obtain ⟨nq, rfl⟩ := HD.out.out
      clear HD
      obtain ⟨c, hc⟩ : ∃ c, c = cnt L k := ⟨_, rfl⟩
      rw [← hc]
      have hcb : (c : Int) ≤ 300 := by have := cnt_le L k; have := HM3.out; omega
      by_cases hlt : k < M
      · obtain ⟨ad, e, hx⟩ := Kd.at_bool (Kd.C_below HC.out HB.out) (k : Int) (Int.natCast_nonneg _) (by have := HM.out; omega)
        cases e
        have HLT := Aside0.mk hlt
        have hlz : (k : Int) < (M : Int) := by omega
        have o1 := Aside0.mk (show cnt L (clampN (k : Int) L.length) = c by rw [clampN_in (by have := HM.out; omega), hc])
        have hk3 : (k : Int) < 300 := by have := HM3.out; omega
        cases hb : L.getD k false
        · replace hx : w4.cell? (ad.add k) = some (.bool false) := by rw [← hb]; exact hx
          have HS := Aside0.mk (show cnt L (k + 1) = c by rw [cnt_succ, hb, ← hc]; simp)
          clear hb hc hlt
          go_wp2_with (first
            | (go_at_call 25; refine (rank_Ones _ (HRR.out.drawn ⟨⟨_, rfl⟩⟩) HL.out).mono ?_; (first | rw [o1.out]); rintro e w' ⟨rfl, ⟨nd, rfl⟩⟩))
          refine ⟨⟨k + 1, by first | rfl | go_num, by rw [HS.out], HLT.out, ⟨⟨_, rfl⟩⟩⟩, ?_⟩
          have := HLT.out
          simp [intOf]
          omega
        · replace hx : w4.cell? (ad.add k) = some (.bool true) := by rw [← hb]; exact hx
          have HS := Aside0.mk (show cnt L (k + 1) = c + 1 by rw [cnt_succ, hb, ← hc]; simp)
          have HLK := Aside0.mk (show k < L.length by have := HM.out; omega)
          have HBT := Aside0.mk hb
          have HCC := Aside0.mk (show (c : Int) = (cnt L k : Int) by rw [hc])
          clear hb hc hlt
          go_wp2_with (first
            | (go_at_call 25; refine (rank_Ones _ (HRR.out.drawn ⟨⟨_, rfl⟩⟩) HL.out).mono ?_; (first | rw [o1.out]); rintro e w' ⟨rfl, ⟨nd, rfl⟩⟩)
            | (go_at_call 26; refine (rank_Place_at k (k : Int) (c : Int) (HRR.out.drawn ⟨⟨_, rfl⟩⟩) HL1.out HLK.out HBT.out HCC.out rfl).mono ?_; rintro e w' ⟨rfl, ⟨nd, rfl⟩⟩))
          refine ⟨⟨k + 1, by first | rfl | go_num, by rw [HS.out]; rfl, HLT.out, ⟨⟨_, rfl⟩⟩⟩, ?_⟩
          have := HLT.out
          simp [intOf]
          omega
      · obtain rfl : k = M := by omega
        have o1 := Aside0.mk (show cnt L (clampN (k : Int) L.length) = c by rw [clampN_in (by have := HM.out; omega), hc])
        have o2 := Aside0.mk (show cnt L (clampN ((k : Int) + 7) L.length) = c by rw [clampN_over (by have := HM.out; omega), hc, HM.out])
        have hk3 : (k : Int) ≤ 300 := by have := HM3.out; omega
        have HE := Aside0.mk HM.out.symm
        have HPN := Aside0.mk (show (c : Int) < 0 ∨ (cnt L L.length : Int) ≤ (c : Int) by rw [hc, HM.out]; exact .inr (Int.le_refl _))
        have HCL := Aside0.mk (show cnt L L.length = c by rw [hc, HM.out])
        clear hk hlt hc
        by_cases hn0 : n < 0
        · have hnd := decide_eq_true hn0
          have HPM := Aside0.mk (show n < 0 ∨ (cnt L L.length : Int) ≤ n from .inl hn0)
          clear hn0
          go_wp2_with (first
            | (go_at_call 25; refine (rank_Ones _ (HRR.out.drawn ⟨⟨_, rfl⟩⟩) HL.out).mono ?_; (first | rw [o1.out] | rw [o2.out]); rintro e w' ⟨rfl, ⟨nd, rfl⟩⟩)
            | (go_at_call 26; (first | (with_reducible refine (rank_Place_none (c : Int) (HRR.out.drawn ⟨⟨_, rfl⟩⟩) HL1.out HPN.out).mono ?_) | (with_reducible refine (rank_Place_none n (HRR.out.drawn ⟨⟨_, rfl⟩⟩) HL1.out HPM.out).mono ?_)); rintro e w' ⟨rfl, ⟨nd, rfl⟩⟩)
            | (go_at_call 27; refine (rank_Len (HRR.out.drawn ⟨⟨_, rfl⟩⟩) HL.out).mono ?_; rw [HE.out]; rintro e w' ⟨rfl, rfl⟩))
          go_ret
          exact ⟨rfl, pw_below_drewN HB.out _⟩
        · have hnd := decide_eq_false hn0
          by_cases hn1 : (c : Int) ≤ n
          · have hnd1 := decide_eq_true hn1
            have HPM := Aside0.mk (show n < 0 ∨ (cnt L L.length : Int) ≤ n by rw [HCL.out]; exact .inr hn1)
            clear hn0 hn1
            go_wp2_with (first
              | (go_at_call 25; refine (rank_Ones _ (HRR.out.drawn ⟨⟨_, rfl⟩⟩) HL.out).mono ?_; (first | rw [o1.out] | rw [o2.out]); rintro e w' ⟨rfl, ⟨nd, rfl⟩⟩)
              | (go_at_call 26; (first | (with_reducible refine (rank_Place_none (c : Int) (HRR.out.drawn ⟨⟨_, rfl⟩⟩) HL1.out HPN.out).mono ?_) | (with_reducible refine (rank_Place_none n (HRR.out.drawn ⟨⟨_, rfl⟩⟩) HL1.out HPM.out).mono ?_)); rintro e w' ⟨rfl, ⟨nd, rfl⟩⟩)
              | (go_at_call 27; refine (rank_Len (HRR.out.drawn ⟨⟨_, rfl⟩⟩) HL.out).mono ?_; rw [HE.out]; rintro e w' ⟨rfl, rfl⟩))
            go_ret
            exact ⟨rfl, pw_below_drewN HB.out _⟩
          · have hnd1 := decide_eq_false hn1
            clear hn0 hn1
            go_wp2_with (first
              | (go_at_call 25; refine (rank_Ones _ (HRR.out.drawn ⟨⟨_, rfl⟩⟩) HL.out).mono ?_; (first | rw [o1.out] | rw [o2.out]); rintro e w' ⟨rfl, ⟨nd, rfl⟩⟩)
              | (go_at_call 26; (first | (with_reducible refine (rank_Place_none (c : Int) (HRR.out.drawn ⟨⟨_, rfl⟩⟩) HL1.out HPN.out).mono ?_) ); rintro e w' ⟨rfl, ⟨nd, rfl⟩⟩)
              | (go_at_call 27; refine (rank_Len (HRR.out.drawn ⟨⟨_, rfl⟩⟩) HL.out).mono ?_; rw [HE.out]; rintro e w' ⟨rfl, rfl⟩))
            go_ret
            exact ⟨rfl, pw_below_drewN HB.out _⟩
  · obtain ⟨L, hL⟩ : ∃ L, L = l := ⟨_, rfl⟩
    obtain ⟨M, hM⟩ : ∃ M, M = len0 := ⟨_, rfl⟩
    rw [← hM] at hC0 hcut ⊢
    rw [← hL] at hC0
    have hML : M = L.length := by rw [hM, hL, hlen]
    have hcd : decide ((300 : Int) < (M : Int)) = false := decide_eq_false (by omega)
    have hcd2 : decide (300 < M) = false := decide_eq_false (by omega)
    have hmi : (M : Int) ≤ 300 := by omega
    have HC := Aside0.mk hC0
    have HM := Aside0.mk hML
    have HM3 := Aside0.mk (show M ≤ 300 by omega)
    have HL := Aside0.mk (show L.length < 1000000000 by omega)
    have HL1 := Aside0.mk (show L.length < 100000000 by omega)
    have HL0 := Aside0.mk (show L.length < 100000000000 by omega)
    clear hC0 hlen hM hL hML hcut hlc hcm
    go_enter Try.func6, Try.ntmps6
    go_wp2_with (first
    | (go_at_call 22; refine (law8_begun _).mono ?_; rintro e w1 ⟨rfl, hb⟩; have n1_ := Aside0.mk (below_step HB.out hb); clear HB hb; have HB := n1_; clear n1_)
    | (go_at_call 24; refine (law_Of_m HM.out (Kd.C_below HC.out HB.out) HL0.out).mono ?_; rintro e w3 ⟨p, rfl, hbo, hb⟩; have HBO := Aside0.mk hbo; have n1_ := Aside0.mk (below_step HB.out hb); clear HB hbo hb; have HB := n1_; clear n1_)
    | (go_at_call 23; refine (rank_New HBO.out.toP HL.out).mono ?_; rintro e w4 ⟨q, rfl, hr, hb⟩; have HRR := Aside0.mk hr.reads; have n1_ := Aside0.mk (below_step HB.out hb); clear HB hr hb HBO; have HB := n1_; clear n1_; have HD := Aside0.mk (Drawn0.refl w4))
    )
    go_loopw [7, 8] (fun v7 v8 wr => ∃ (k : Nat), v8 = .int .i64 k ∧ v7 = .int .i64 (cnt L k) ∧ k ≤ M ∧ Aside0 (Drawn0 w4 wr)) (fun _ v _ => M - (intOf v).toNat)
    case atStart => exact ⟨0, by first | rfl | go_num, by first | rfl | (simp [cnt]; done), Nat.zero_le _, HD⟩
    case round =>
      clear HD
      obtain ⟨k, rfl, rfl, hk, HD⟩ := hrel
      obtain ⟨nq, rfl⟩ := HD.out.out
      clear HD
      obtain ⟨c, hc⟩ : ∃ c, c = cnt L k := ⟨_, rfl⟩
      rw [← hc]
      have hcb : (c : Int) ≤ 300 := by have := cnt_le L k; have := HM3.out; omega
      by_cases hlt : k < M
      · obtain ⟨ad, e, hx⟩ := Kd.at_bool (Kd.C_below HC.out HB.out) (k : Int) (Int.natCast_nonneg _) (by have := HM.out; omega)
        cases e
        have HLT := Aside0.mk hlt
        have hlz : (k : Int) < (M : Int) := by omega
        have o1 := Aside0.mk (show cnt L (clampN (k : Int) L.length) = c by rw [clampN_in (by have := HM.out; omega), hc])
        have hk3 : (k : Int) < 300 := by have := HM3.out; omega
        cases hb : L.getD k false
        · replace hx : w4.cell? (ad.add k) = some (.bool false) := by rw [← hb]; exact hx
          have HS := Aside0.mk (show cnt L (k + 1) = c by rw [cnt_succ, hb, ← hc]; simp)
          clear hb hc hlt
          go_wp2_with (first
            | (go_at_call 25; refine (rank_Ones _ (HRR.out.drawn ⟨⟨_, rfl⟩⟩) HL.out).mono ?_; (first | rw [o1.out]); rintro e w' ⟨rfl, ⟨nd, rfl⟩⟩))
          refine ⟨⟨k + 1, by first | rfl | go_num, by rw [HS.out], HLT.out, ⟨⟨_, rfl⟩⟩⟩, ?_⟩
          have := HLT.out
          simp [intOf]
          omega
        · replace hx : w4.cell? (ad.add k) = some (.bool true) := by rw [← hb]; exact hx
          have HS := Aside0.mk (show cnt L (k + 1) = c + 1 by rw [cnt_succ, hb, ← hc]; simp)
          have HLK := Aside0.mk (show k < L.length by have := HM.out; omega)
          have HBT := Aside0.mk hb
          have HCC := Aside0.mk (show (c : Int) = (cnt L k : Int) by rw [hc])
          clear hb hc hlt
          go_wp2_with (first
            | (go_at_call 25; refine (rank_Ones _ (HRR.out.drawn ⟨⟨_, rfl⟩⟩) HL.out).mono ?_; (first | rw [o1.out]); rintro e w' ⟨rfl, ⟨nd, rfl⟩⟩)
            | (go_at_call 26; refine (rank_Place_at k (k : Int) (c : Int) (HRR.out.drawn ⟨⟨_, rfl⟩⟩) HL1.out HLK.out HBT.out HCC.out rfl).mono ?_; rintro e w' ⟨rfl, ⟨nd, rfl⟩⟩))
          refine ⟨⟨k + 1, by first | rfl | go_num, by rw [HS.out]; rfl, HLT.out, ⟨⟨_, rfl⟩⟩⟩, ?_⟩
          have := HLT.out
          simp [intOf]
          omega
      · obtain rfl : k = M := by omega
        have o1 := Aside0.mk (show cnt L (clampN (k : Int) L.length) = c by rw [clampN_in (by have := HM.out; omega), hc])
        have o2 := Aside0.mk (show cnt L (clampN ((k : Int) + 7) L.length) = c by rw [clampN_over (by have := HM.out; omega), hc, HM.out])
        have hk3 : (k : Int) ≤ 300 := by have := HM3.out; omega
        have HE := Aside0.mk HM.out.symm
        have HPN := Aside0.mk (show (c : Int) < 0 ∨ (cnt L L.length : Int) ≤ (c : Int) by rw [hc, HM.out]; exact .inr (Int.le_refl _))
        have HCL := Aside0.mk (show cnt L L.length = c by rw [hc, HM.out])
        clear hk hlt hc
        by_cases hn0 : n < 0
        · have hnd := decide_eq_true hn0
          have HPM := Aside0.mk (show n < 0 ∨ (cnt L L.length : Int) ≤ n from .inl hn0)
          clear hn0
          go_wp2_with (first
            | (go_at_call 25; refine (rank_Ones _ (HRR.out.drawn ⟨⟨_, rfl⟩⟩) HL.out).mono ?_; (first | rw [o1.out] | rw [o2.out]); rintro e w' ⟨rfl, ⟨nd, rfl⟩⟩)
            | (go_at_call 26; (first | (with_reducible refine (rank_Place_none (c : Int) (HRR.out.drawn ⟨⟨_, rfl⟩⟩) HL1.out HPN.out).mono ?_) | (with_reducible refine (rank_Place_none n (HRR.out.drawn ⟨⟨_, rfl⟩⟩) HL1.out HPM.out).mono ?_)); rintro e w' ⟨rfl, ⟨nd, rfl⟩⟩)
            | (go_at_call 27; refine (rank_Len (HRR.out.drawn ⟨⟨_, rfl⟩⟩) HL.out).mono ?_; rw [HE.out]; rintro e w' ⟨rfl, rfl⟩))
          go_ret
          exact ⟨rfl, pw_below_drewN HB.out _⟩
        · have hnd := decide_eq_false hn0
          by_cases hn1 : (c : Int) ≤ n
          · have hnd1 := decide_eq_true hn1
            have HPM := Aside0.mk (show n < 0 ∨ (cnt L L.length : Int) ≤ n by rw [HCL.out]; exact .inr hn1)
            clear hn0 hn1
            go_wp2_with (first
              | (go_at_call 25; refine (rank_Ones _ (HRR.out.drawn ⟨⟨_, rfl⟩⟩) HL.out).mono ?_; (first | rw [o1.out] | rw [o2.out]); rintro e w' ⟨rfl, ⟨nd, rfl⟩⟩)
              | (go_at_call 26; (first | (with_reducible refine (rank_Place_none (c : Int) (HRR.out.drawn ⟨⟨_, rfl⟩⟩) HL1.out HPN.out).mono ?_) | (with_reducible refine (rank_Place_none n (HRR.out.drawn ⟨⟨_, rfl⟩⟩) HL1.out HPM.out).mono ?_)); rintro e w' ⟨rfl, ⟨nd, rfl⟩⟩)
              | (go_at_call 27; refine (rank_Len (HRR.out.drawn ⟨⟨_, rfl⟩⟩) HL.out).mono ?_; rw [HE.out]; rintro e w' ⟨rfl, rfl⟩))
            go_ret
            exact ⟨rfl, pw_below_drewN HB.out _⟩
          · have hnd1 := decide_eq_false hn1
            clear hn0 hn1
            go_wp2_with (first
              | (go_at_call 25; refine (rank_Ones _ (HRR.out.drawn ⟨⟨_, rfl⟩⟩) HL.out).mono ?_; (first | rw [o1.out] | rw [o2.out]); rintro e w' ⟨rfl, ⟨nd, rfl⟩⟩)
              | (go_at_call 26; (first | (with_reducible refine (rank_Place_none (c : Int) (HRR.out.drawn ⟨⟨_, rfl⟩⟩) HL1.out HPN.out).mono ?_) ); rintro e w' ⟨rfl, ⟨nd, rfl⟩⟩)
              | (go_at_call 27; refine (rank_Len (HRR.out.drawn ⟨⟨_, rfl⟩⟩) HL.out).mono ?_; rw [HE.out]; rintro e w' ⟨rfl, rfl⟩))
            go_ret
            exact ⟨rfl, pw_below_drewN HB.out _⟩
end Go.Proofs.Ytbaopegmdllbeaa.GL
