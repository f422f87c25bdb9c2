/- The law TrieForm, walked by hand. -/
import Derived.Test.YtobdfehpbgcloaaGTrieLaw
import Derived.Test.YtobdfehpbgcloaaQOpen
import Derived.Deep.QuietTactic
import Derived.BigQuiet
namespace Go.Proofs.Ytobdfehpbgcloaa.GL
open Go.RowKit Go.Proofs.YtobdfehpbgcloaaW.PrintWords Go.Proofs.YtobdfehpbgcloaaW.PrintLast Go.Proofs.YtobdfehpbgcloaaW.PrintMore Go.Proofs.Ytobdfehpbgcloaa.Q Go.Proofs.Ytobdfehpbgcloaa.XTri Go.Proofs.Ytobdfehpbgcloaa.G
set_option linter.unusedVariables false
set_option linter.unusedSimpArgs false
theorem buildT_one (x : Int) : buildT [x] = some [] := by
  unfold buildT
  rw [if_pos ⟨by simp, by simp⟩, treeG_short _ (by simp)]
theorem rankI_one (h : Int) : rankI [] h 1 = some 0 := by
  unfold rankI
  rw [if_neg (by omega), rankT_1]
theorem pairwise_iff {ls : List Int} {i : Nat} (hi : i + 1 < ls.length) : (ls.take (i + 2)).Pairwise (· < ·) ↔ (ls.take (i + 1)).Pairwise (· < ·) ∧ ls.getD i 0 < ls.getD (i + 1) 0 := by
  constructor
  · intro h
    refine ⟨h.sublist ?_, ?_⟩
    · rw [List.take_succ_eq_append_getElem hi]
      exact List.sublist_append_left _ _
    · have := List.pairwise_iff_getElem.1 h i (i + 1) (by rw [List.length_take]; omega) (by rw [List.length_take]; omega) (by omega)
      rw [List.getElem_take, List.getElem_take] at this
      rw [List.getD_eq_getElem?_getD, List.getD_eq_getElem?_getD, List.getElem?_eq_getElem (by omega), List.getElem?_eq_getElem hi]
      exact this
  · intro h
    exact pairwise_more h.1 hi h.2
def riseB (ls : List Int) (i : Nat) : Bool := decide ((ls.take i).Pairwise (· < ·))
set_option maxRecDepth 1000000 in
set_option maxHeartbeats 8000000 in
theorem TrieForm.core (A0 : Option Addr) (len0 c0 : Nat) (l : List Int) (x : Int) (w : World) (hlen : len0 = l.length) (hC0 : Kd.C (Kd.int .u64) w A0 len0 l) (hlc : len0 ≤ c0) (hcm : len0 < 100000000000000) (hU0 : U64s l) (hxu : U64s [x]) :
    Calls Try.prog 4 #[.slice A0 len0 c0, .int .u64 x] w fun e w' => e = .returned (.bool true) ∧ Below w.heap.size w w' := by
  by_cases hcut : 30 < len0
  · skip
    obtain ⟨L, hL⟩ : ∃ L, L = l.take 30 := ⟨_, rfl⟩
    obtain ⟨M, hM⟩ : ∃ M, M = 30 := ⟨_, rfl⟩
    obtain ⟨i0, hi, hi1, hi2, hi3⟩ := info_parts info23
    have hrun : ∀ W : World, (Instr.slice 33 (.slice A0 len0 c0) none (some (.int .i64 30)) none).run Try.prog W = .ok (.slice A0 M c0) W := by
      intro W
      rw [hM]
      exact cut_to (P := Try.prog) 33 23 .i64 Try.underlying33 hi A0 len0 c0 30 (by decide) (by omega) hlc W
    have hcd : decide ((30 : Int) < (len0 : Int)) = true := decide_eq_true (by omega)
    have hcd2 : decide (30 < len0) = true := decide_eq_true hcut
    have hC1 : Kd.C (Kd.int .u64) w A0 M L := by
      have := Kd.C_take (k := Kd.int .u64) (m := 30) (by rw [hlen] at hC0; exact hC0) (by omega)
      rw [List.length_take, Nat.min_eq_left (by omega)] at this
      rw [hM, hL]
      exact this
    have hML : M = L.length := by rw [hM, hL, List.length_take]; omega
    have HU := Aside0.mk (show U64s L by rw [hL]; exact fun x hx => hU0 x (List.mem_of_mem_take hx))
    have hmi : (M : Int) ≤ 30 := by omega
    have HC := Aside0.mk hC1
    have HM := Aside0.mk hML
    have HM3 := Aside0.mk (show M ≤ 30 by omega)
    have HLC := Aside0.mk (show M ≤ c0 by omega)
    have HMB := Aside0.mk (show M < 1000000000 by omega)
    clear hC0 hlen hM hL hML hcut hlc hcm hC1 hi hi1 hi2 hi3 hU0
    obtain ⟨y, hy⟩ : ∃ y, y = IntKind.u64.wrap (x + 1) := ⟨_, rfl⟩
    have hyb : 0 ≤ y ∧ y < 18446744073709551616 := by
      rw [hy]
      unfold IntKind.wrap
      simp [IntKind.bits, IntKind.signed]
      omega
    have HY := Aside0.mk hyb
    have hyw : IntKind.u64.wrap (x + 1) = y := hy.symm
    have HYW := Aside0.mk hyw
    have HR1 := Aside0.mk (show riseB L 1 = true by refine decide_eq_true ?_; cases L <;> simp)
    have HB := Aside0.mk (Below.refl w.heap.size w)
    have HX := Aside0.mk hxu
    clear hy hyb hyw hxu
    go_enter Try.func4, Try.ntmps4
    go_wp2_with (first | (go_at_call 8; refine (law21_begun _).mono ?_; rintro e w11 ⟨rfl, hb⟩; have m2_ := Aside0.mk (below_step HB.out hb); clear HB; have HB := m2_; clear m2_ hb))
    go_loopw [6, 7] (fun v6 v7 wr => ∃ (i : Nat), v7 = .int .i64 ((i : Int) + 1) ∧ v6 = .bool (riseB L (i + 1)) ∧ i ≤ M ∧ Aside0 (Drawn0 w11 wr)) (fun _ v _ => M + 1 - (intOf v).toNat)
    case atStart => exact ⟨0, by first | rfl | go_num, by rw [HR1.out], Nat.zero_le _, ⟨Drawn0.refl _⟩⟩
    case round =>
      clear HR1
      obtain ⟨i, rfl, rfl, hi, HD⟩ := hrel
      obtain ⟨nd, rfl⟩ := HD.out.out
      clear HD
      have hi4 : (i : Int) ≤ 30 := by have := HM3.out; omega
      by_cases hlt : i + 1 < M
      · have hlz : (i : Int) + 1 < (M : Int) := by omega
        have hld := decide_eq_true hlz
        obtain ⟨ad, e, hx⟩ := Kd.at_int (Kd.C_below HC.out HB.out) (i : Int) (Int.natCast_nonneg _) (by omega)
        cases e
        obtain ⟨ad2, e2, hz⟩ := Kd.at_int (Kd.C_below HC.out HB.out) ((i : Int) + 1) (by omega) hlz
        cases e2
        obtain ⟨p, hp⟩ : ∃ p, p = L.getD i 0 := ⟨_, rfl⟩
        obtain ⟨q, hq⟩ : ∃ q, q = L.getD (i + 1) 0 := ⟨_, rfl⟩
        have hti : ((i : Int) + 1).toNat = i + 1 := by omega
        replace hx : w11.cell? (ad.add i) = some (.int .u64 p) := by rw [hp]; exact hx
        replace hz : w11.cell? (ad.add (i + 1)) = some (.int .u64 q) := by rw [hti] at hz; rw [hq, hz]; unfold rd; rw [hti]
        have hil : i + 1 < L.length := by rw [← HM.out]; exact hlt
        have HNEXT := Aside0.mk (show riseB L (i + 2) = (riseB L (i + 1) && decide (p < q)) by
          rw [hp, hq]
          unfold riseB
          rw [← Bool.decide_and, decide_eq_decide]
          exact pairwise_iff hil)
        obtain ⟨j, hj⟩ : ∃ j : Nat, j = i + 1 := ⟨_, rfl⟩
        have hjz : (i : Int) + 1 = (j : Int) := by omega
        have hjm : (j : Int) < (M : Int) := by omega
        have hj1 : (j : Int) - 1 = (i : Int) := by omega
        have hw1 : IntKind.i64.wrap ((j : Int) - 1) = (i : Int) := by rw [hj1]; exact (i64_w _).trans (w64 (by omega) (by omega))
        have him : (i : Int) < (M : Int) := by omega
        rw [hjz] at hld ⊢
        rw [← hj] at hz
        have HJ := Aside0.mk hjz
        have HLT := Aside0.mk hlt
        clear hti hlz hj hjz hj1 hlt hi hil hp hq
        obtain ⟨rb, hrb⟩ : ∃ rb, rb = riseB L (i + 1) := ⟨_, rfl⟩
        rw [← hrb] at HNEXT ⊢
        clear hrb
        cases rb with
        | false =>
          go_wp2
          go_quiet (fail)
          go_wp2
          clear hw1
          have hij := HJ.out
          refine ⟨⟨i + 1, by first | rfl | go_num, by rw [HNEXT.out]; rfl, by have := HLT.out; omega, ⟨⟨_, rfl⟩⟩⟩, ?_⟩
          have := HLT.out
          simp [intOf]
          omega
        | true =>
          by_cases hpq : p < q
          · have hpd := decide_eq_true hpq
            clear hpq
            go_wp2
            go_quiet (fail)
            go_wp2
            clear hw1
            have hij := HJ.out
            refine ⟨⟨i + 1, by first | rfl | go_num, by rw [HNEXT.out, hpd]; rfl, by have := HLT.out; omega, ⟨⟨_, rfl⟩⟩⟩, ?_⟩
            have := HLT.out
            simp [intOf]
            omega
          · have hpd := decide_eq_false hpq
            clear hpq
            go_wp2
            go_quiet (fail)
            go_wp2
            clear hw1
            have hij := HJ.out
            refine ⟨⟨i + 1, by first | rfl | go_num, by rw [HNEXT.out, hpd]; rfl, by have := HLT.out; omega, ⟨⟨_, rfl⟩⟩⟩, ?_⟩
            have := HLT.out
            simp [intOf]
            omega
      · have hld := decide_eq_false (show ¬ (i : Int) + 1 < (M : Int) by omega)
        have htk : L.take (i + 1) = L := List.take_of_length_le (by rw [← HM.out]; omega)
        have HB2 := Aside0.mk (pw_below_drewN HB.out nd)
        clear HB
        have HB := HB2
        clear HB2 hlt hi
        by_cases hpw : L.Pairwise (· < ·)
        · have hrb : riseB L (i + 1) = true := by unfold riseB; rw [htk]; exact decide_eq_true hpw
          rw [hrb]
          have HBT := Aside0.mk (show buildT L = some (treeG 64 L) from if_pos ⟨by rw [← HM.out]; have := HM3.out; omega, hpw⟩)
          clear hrb htk hpw
          go_wp2_with (first
            | (go_at_call 14; (first
              | ((with_reducible refine (trie_Build HM.out (Kd.C_below HC.out HB.out) HLC.out HMB.out HU.out).mono ?_); rw [HBT.out]; rintro e w3 ⟨hb, p, rfl, hO⟩; have n1_ := Aside0.mk (below_step HB.out hb); clear HB hO hb; have HB := n1_; clear n1_)
              | ((with_reducible refine (trie_Build (ls := [x]) (m := 1) (List.length_singleton).symm HC2.out HL2.out (by decide) HX.out).mono ?_); rw [buildT_one]; rintro e w4 ⟨hb, p1, rfl, hO⟩; have HBP := Aside0.mk hO.toP; have n1_ := Aside0.mk (below_step HB.out hb); clear HB hO hb; have HB := n1_; clear n1_)))
            | ((with_reducible refine gate_dst (N := 48) rfl ?_); refine Kd.R_lit (Kd.int .u64) (w0 := w) w.heap.size 23 rfl (N := 48) rfl (xs := [x]) (inner := [.int .u64 x]) (ok := fun _ => True) (okp := fun _ => True) ?aR (Kd.reps_scalar (enc := Value.int .u64) [x]) (fun _ h => h) trivial HB.out (below_size HB.out) (by rw [List.length_singleton]; decide) ?_; (case aR => first | (go_simp; done) | (go_simp; rfl)); intro v2 w2 ho hb0 hg hat; obtain ⟨A2, c2, rfl, _, hC2⟩ := Kd.R_reads ho; have HC2 : Aside0 (Kd.C (Kd.int .u64) w2 A2 1 [x]) := ⟨hC2⟩; have HL2 : Aside0 (1 ≤ c2) := ⟨(Kd.R_reads' ho).2.1⟩; have n1_ := Aside0.mk hb0; clear HB ho hb0 hg hat hC2; have HB := n1_; clear n1_)
            | (go_at_call 10; (try rw [HYW.out]); refine (trie_Rank _ HBP.out (by decide) HY.out.1 HY.out.2).mono ?_; rw [rankI_one]; rintro e w' ⟨rfl, rfl⟩; simp only [skipR])
            | (go_at_call 15; refine (bits_Len HBP.out).mono ?_; rintro e w' ⟨rfl, rfl⟩))
          go_ret
          exact ⟨rfl, HB.out⟩
        · have hrb : riseB L (i + 1) = false := by unfold riseB; rw [htk]; exact decide_eq_false hpw
          rw [hrb]
          have HBT := Aside0.mk (show buildT L = none from if_neg (fun h => hpw h.2))
          clear hrb htk hpw
          go_wp2_with (first
            | (go_at_call 14; (first
              | ((with_reducible refine (trie_Build HM.out (Kd.C_below HC.out HB.out) HLC.out HMB.out HU.out).mono ?_); rw [HBT.out]; rintro e w3 ⟨hb, rfl⟩; have n1_ := Aside0.mk (below_step HB.out hb); clear HB hb; have HB := n1_; clear n1_)
              | ((with_reducible refine (trie_Build (ls := [x]) (m := 1) (List.length_singleton).symm HC2.out HL2.out (by decide) HX.out).mono ?_); rw [buildT_one]; rintro e w4 ⟨hb, p1, rfl, hO⟩; have HBP := Aside0.mk hO.toP; have n1_ := Aside0.mk (below_step HB.out hb); clear HB hO hb; have HB := n1_; clear n1_)))
            | ((with_reducible refine gate_dst (N := 48) rfl ?_); refine Kd.R_lit (Kd.int .u64) (w0 := w) w.heap.size 23 rfl (N := 48) rfl (xs := [x]) (inner := [.int .u64 x]) (ok := fun _ => True) (okp := fun _ => True) ?aR (Kd.reps_scalar (enc := Value.int .u64) [x]) (fun _ h => h) trivial HB.out (below_size HB.out) (by rw [List.length_singleton]; decide) ?_; (case aR => first | (go_simp; done) | (go_simp; rfl)); intro v2 w2 ho hb0 hg hat; obtain ⟨A2, c2, rfl, _, hC2⟩ := Kd.R_reads ho; have HC2 : Aside0 (Kd.C (Kd.int .u64) w2 A2 1 [x]) := ⟨hC2⟩; have HL2 : Aside0 (1 ≤ c2) := ⟨(Kd.R_reads' ho).2.1⟩; have n1_ := Aside0.mk hb0; clear HB ho hb0 hg hat hC2; have HB := n1_; clear n1_)
            | (go_at_call 10; (try rw [HYW.out]); refine (trie_Rank _ HBP.out (by decide) HY.out.1 HY.out.2).mono ?_; rw [rankI_one]; rintro e w' ⟨rfl, rfl⟩; simp only [skipR])
            | (go_at_call 15; refine (bits_Len HBP.out).mono ?_; rintro e w' ⟨rfl, rfl⟩))
          go_ret
          exact ⟨rfl, HB.out⟩
  · skip
    obtain ⟨L, hL⟩ : ∃ L, L = l := ⟨_, rfl⟩
    obtain ⟨M, hM⟩ : ∃ M, M = len0 := ⟨_, rfl⟩
    rw [← hM] at hC0 hcut ⊢
    rw [← hL] at hC0
    have hML : M = L.length := by rw [hM, hL, hlen]
    have hcd : decide ((30 : Int) < (M : Int)) = false := decide_eq_false (by omega)
    have hcd2 : decide (30 < M) = false := decide_eq_false (by omega)
    have HU := Aside0.mk (show U64s L by rw [hL]; exact hU0)
    have hmi : (M : Int) ≤ 30 := by omega
    have HC := Aside0.mk hC0
    have HM := Aside0.mk hML
    have HM3 := Aside0.mk (show M ≤ 30 by omega)
    have HLC := Aside0.mk (show M ≤ c0 by omega)
    have HMB := Aside0.mk (show M < 1000000000 by omega)
    clear hC0 hlen hM hL hML hcut hlc hcm hU0
    obtain ⟨y, hy⟩ : ∃ y, y = IntKind.u64.wrap (x + 1) := ⟨_, rfl⟩
    have hyb : 0 ≤ y ∧ y < 18446744073709551616 := by
      rw [hy]
      unfold IntKind.wrap
      simp [IntKind.bits, IntKind.signed]
      omega
    have HY := Aside0.mk hyb
    have hyw : IntKind.u64.wrap (x + 1) = y := hy.symm
    have HYW := Aside0.mk hyw
    have HR1 := Aside0.mk (show riseB L 1 = true by refine decide_eq_true ?_; cases L <;> simp)
    have HB := Aside0.mk (Below.refl w.heap.size w)
    have HX := Aside0.mk hxu
    clear hy hyb hyw hxu
    go_enter Try.func4, Try.ntmps4
    go_wp2_with (first | (go_at_call 8; refine (law21_begun _).mono ?_; rintro e w11 ⟨rfl, hb⟩; have m2_ := Aside0.mk (below_step HB.out hb); clear HB; have HB := m2_; clear m2_ hb))
    go_loopw [6, 7] (fun v6 v7 wr => ∃ (i : Nat), v7 = .int .i64 ((i : Int) + 1) ∧ v6 = .bool (riseB L (i + 1)) ∧ i ≤ M ∧ Aside0 (Drawn0 w11 wr)) (fun _ v _ => M + 1 - (intOf v).toNat)
    case atStart => exact ⟨0, by first | rfl | go_num, by rw [HR1.out], Nat.zero_le _, ⟨Drawn0.refl _⟩⟩
    case round =>
      clear HR1
      obtain ⟨i, rfl, rfl, hi, HD⟩ := hrel
      obtain ⟨nd, rfl⟩ := HD.out.out
      clear HD
      have hi4 : (i : Int) ≤ 30 := by have := HM3.out; omega
      by_cases hlt : i + 1 < M
      · have hlz : (i : Int) + 1 < (M : Int) := by omega
        have hld := decide_eq_true hlz
        obtain ⟨ad, e, hx⟩ := Kd.at_int (Kd.C_below HC.out HB.out) (i : Int) (Int.natCast_nonneg _) (by omega)
        cases e
        obtain ⟨ad2, e2, hz⟩ := Kd.at_int (Kd.C_below HC.out HB.out) ((i : Int) + 1) (by omega) hlz
        cases e2
        obtain ⟨p, hp⟩ : ∃ p, p = L.getD i 0 := ⟨_, rfl⟩
        obtain ⟨q, hq⟩ : ∃ q, q = L.getD (i + 1) 0 := ⟨_, rfl⟩
        have hti : ((i : Int) + 1).toNat = i + 1 := by omega
        replace hx : w11.cell? (ad.add i) = some (.int .u64 p) := by rw [hp]; exact hx
        replace hz : w11.cell? (ad.add (i + 1)) = some (.int .u64 q) := by rw [hti] at hz; rw [hq, hz]; unfold rd; rw [hti]
        have hil : i + 1 < L.length := by rw [← HM.out]; exact hlt
        have HNEXT := Aside0.mk (show riseB L (i + 2) = (riseB L (i + 1) && decide (p < q)) by
          rw [hp, hq]
          unfold riseB
          rw [← Bool.decide_and, decide_eq_decide]
          exact pairwise_iff hil)
        obtain ⟨j, hj⟩ : ∃ j : Nat, j = i + 1 := ⟨_, rfl⟩
        have hjz : (i : Int) + 1 = (j : Int) := by omega
        have hjm : (j : Int) < (M : Int) := by omega
        have hj1 : (j : Int) - 1 = (i : Int) := by omega
        have hw1 : IntKind.i64.wrap ((j : Int) - 1) = (i : Int) := by rw [hj1]; exact (i64_w _).trans (w64 (by omega) (by omega))
        have him : (i : Int) < (M : Int) := by omega
        rw [hjz] at hld ⊢
        rw [← hj] at hz
        have HJ := Aside0.mk hjz
        have HLT := Aside0.mk hlt
        clear hti hlz hj hjz hj1 hlt hi hil hp hq
        obtain ⟨rb, hrb⟩ : ∃ rb, rb = riseB L (i + 1) := ⟨_, rfl⟩
        rw [← hrb] at HNEXT ⊢
        clear hrb
        cases rb with
        | false =>
          go_wp2
          go_quiet (fail)
          go_wp2
          clear hw1
          have hij := HJ.out
          refine ⟨⟨i + 1, by first | rfl | go_num, by rw [HNEXT.out]; rfl, by have := HLT.out; omega, ⟨⟨_, rfl⟩⟩⟩, ?_⟩
          have := HLT.out
          simp [intOf]
          omega
        | true =>
          by_cases hpq : p < q
          · have hpd := decide_eq_true hpq
            clear hpq
            go_wp2
            go_quiet (fail)
            go_wp2
            clear hw1
            have hij := HJ.out
            refine ⟨⟨i + 1, by first | rfl | go_num, by rw [HNEXT.out, hpd]; rfl, by have := HLT.out; omega, ⟨⟨_, rfl⟩⟩⟩, ?_⟩
            have := HLT.out
            simp [intOf]
            omega
          · have hpd := decide_eq_false hpq
            clear hpq
            go_wp2
            go_quiet (fail)
            go_wp2
            clear hw1
            have hij := HJ.out
            refine ⟨⟨i + 1, by first | rfl | go_num, by rw [HNEXT.out, hpd]; rfl, by have := HLT.out; omega, ⟨⟨_, rfl⟩⟩⟩, ?_⟩
            have := HLT.out
            simp [intOf]
            omega
      · have hld := decide_eq_false (show ¬ (i : Int) + 1 < (M : Int) by omega)
        have htk : L.take (i + 1) = L := List.take_of_length_le (by rw [← HM.out]; omega)
        have HB2 := Aside0.mk (pw_below_drewN HB.out nd)
        clear HB
        have HB := HB2
        clear HB2 hlt hi
        by_cases hpw : L.Pairwise (· < ·)
        · have hrb : riseB L (i + 1) = true := by unfold riseB; rw [htk]; exact decide_eq_true hpw
          rw [hrb]
          have HBT := Aside0.mk (show buildT L = some (treeG 64 L) from if_pos ⟨by rw [← HM.out]; have := HM3.out; omega, hpw⟩)
          clear hrb htk hpw
          go_wp2_with (first
            | (go_at_call 14; (first
              | ((with_reducible refine (trie_Build HM.out (Kd.C_below HC.out HB.out) HLC.out HMB.out HU.out).mono ?_); rw [HBT.out]; rintro e w3 ⟨hb, p, rfl, hO⟩; have n1_ := Aside0.mk (below_step HB.out hb); clear HB hO hb; have HB := n1_; clear n1_)
              | ((with_reducible refine (trie_Build (ls := [x]) (m := 1) (List.length_singleton).symm HC2.out HL2.out (by decide) HX.out).mono ?_); rw [buildT_one]; rintro e w4 ⟨hb, p1, rfl, hO⟩; have HBP := Aside0.mk hO.toP; have n1_ := Aside0.mk (below_step HB.out hb); clear HB hO hb; have HB := n1_; clear n1_)))
            | ((with_reducible refine gate_dst (N := 48) rfl ?_); refine Kd.R_lit (Kd.int .u64) (w0 := w) w.heap.size 23 rfl (N := 48) rfl (xs := [x]) (inner := [.int .u64 x]) (ok := fun _ => True) (okp := fun _ => True) ?aR (Kd.reps_scalar (enc := Value.int .u64) [x]) (fun _ h => h) trivial HB.out (below_size HB.out) (by rw [List.length_singleton]; decide) ?_; (case aR => first | (go_simp; done) | (go_simp; rfl)); intro v2 w2 ho hb0 hg hat; obtain ⟨A2, c2, rfl, _, hC2⟩ := Kd.R_reads ho; have HC2 : Aside0 (Kd.C (Kd.int .u64) w2 A2 1 [x]) := ⟨hC2⟩; have HL2 : Aside0 (1 ≤ c2) := ⟨(Kd.R_reads' ho).2.1⟩; have n1_ := Aside0.mk hb0; clear HB ho hb0 hg hat hC2; have HB := n1_; clear n1_)
            | (go_at_call 10; (try rw [HYW.out]); refine (trie_Rank _ HBP.out (by decide) HY.out.1 HY.out.2).mono ?_; rw [rankI_one]; rintro e w' ⟨rfl, rfl⟩; simp only [skipR])
            | (go_at_call 15; refine (bits_Len HBP.out).mono ?_; rintro e w' ⟨rfl, rfl⟩))
          go_ret
          exact ⟨rfl, HB.out⟩
        · have hrb : riseB L (i + 1) = false := by unfold riseB; rw [htk]; exact decide_eq_false hpw
          rw [hrb]
          have HBT := Aside0.mk (show buildT L = none from if_neg (fun h => hpw h.2))
          clear hrb htk hpw
          go_wp2_with (first
            | (go_at_call 14; (first
              | ((with_reducible refine (trie_Build HM.out (Kd.C_below HC.out HB.out) HLC.out HMB.out HU.out).mono ?_); rw [HBT.out]; rintro e w3 ⟨hb, rfl⟩; have n1_ := Aside0.mk (below_step HB.out hb); clear HB hb; have HB := n1_; clear n1_)
              | ((with_reducible refine (trie_Build (ls := [x]) (m := 1) (List.length_singleton).symm HC2.out HL2.out (by decide) HX.out).mono ?_); rw [buildT_one]; rintro e w4 ⟨hb, p1, rfl, hO⟩; have HBP := Aside0.mk hO.toP; have n1_ := Aside0.mk (below_step HB.out hb); clear HB hO hb; have HB := n1_; clear n1_)))
            | ((with_reducible refine gate_dst (N := 48) rfl ?_); refine Kd.R_lit (Kd.int .u64) (w0 := w) w.heap.size 23 rfl (N := 48) rfl (xs := [x]) (inner := [.int .u64 x]) (ok := fun _ => True) (okp := fun _ => True) ?aR (Kd.reps_scalar (enc := Value.int .u64) [x]) (fun _ h => h) trivial HB.out (below_size HB.out) (by rw [List.length_singleton]; decide) ?_; (case aR => first | (go_simp; done) | (go_simp; rfl)); intro v2 w2 ho hb0 hg hat; obtain ⟨A2, c2, rfl, _, hC2⟩ := Kd.R_reads ho; have HC2 : Aside0 (Kd.C (Kd.int .u64) w2 A2 1 [x]) := ⟨hC2⟩; have HL2 : Aside0 (1 ≤ c2) := ⟨(Kd.R_reads' ho).2.1⟩; have n1_ := Aside0.mk hb0; clear HB ho hb0 hg hat hC2; have HB := n1_; clear n1_)
            | (go_at_call 10; (try rw [HYW.out]); refine (trie_Rank _ HBP.out (by decide) HY.out.1 HY.out.2).mono ?_; rw [rankI_one]; rintro e w' ⟨rfl, rfl⟩; simp only [skipR])
            | (go_at_call 15; refine (bits_Len HBP.out).mono ?_; rintro e w' ⟨rfl, rfl⟩))
          go_ret
          exact ⟨rfl, HB.out⟩
theorem TrieForm.walk (P : True) (a0 : Option Addr) (len0 cap0 : Nat) (z0 : List Int) (x : Int) (w : World) (w0 : (a0 = none ∧ len0 = 0 ∧ cap0 = 0 ∧ z0 = []) ∨ ∃ x, a0 = some x ∧ len0 ≤ cap0 ∧ cap0 ≤ maxLen ∧ z0.length = cap0 ∧ (∀ i, i < z0.length → w.cell? (x.add i) = some (.int .u64 (z0.getD i 0))) ∧ ∀ n ∈ z0, (Lit.int .u64 n).wf = true) (y0 : len0 * 8 ≤ 140737488351232) (w1 : (Lit.int .u64 x).wf = true) :
    Calls Try.prog 4 #[.slice a0 len0 cap0, .int .u64 x] w fun e w' => e = .returned (.bool true) ∧ Below w.heap.size w w' := by
  obtain ⟨l0, rfl, hr0, hm0, hw0, hc0⟩ := ReadsInt.ofRowC w0
  exact TrieForm.core _ _ _ l0 x w rfl (Kd.C_of_reads (d := (0 : Int)) (h1 := fun _ => rfl) hr0) hc0 (by omega) (fun x hx => wfU64 (hw0 x hx)) (fun y hy => by simp only [List.mem_singleton] at hy; subst hy; exact wfU64 w1)
end Go.Proofs.Ytobdfehpbgcloaa.GL
