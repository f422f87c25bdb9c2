/- loesslaw6.Same by hand: bits that are as they should be. -/
import Derived.Test.YtbaopegmdllbeaaGBitsOf
import Derived.Test.YtbaopegmdllbeaaQPackRef
import Derived.Deep.RegionWith
import Derived.Test.YtbaopegmdllbeaaXBitx41
namespace Go.Proofs.Ytbaopegmdllbeaa.GL
open Go.RowKit Go.Proofs.YtbaopegmdllbeaaW.PrintWords Go.Proofs.YtbaopegmdllbeaaW.PrintLast Go.Proofs.YtbaopegmdllbeaaW.PrintMore Go.Proofs.Ytbaopegmdllbeaa.Q Go.Proofs.Ytbaopegmdllbeaa.XBit
set_option linter.unusedVariables false
set_option linter.unusedSimpArgs false
set_option maxRecDepth 1000000 in
set_option maxHeartbeats 8000000 in
theorem law_Same {w : World} {P A : Option Addr} {c m : Nat} {L : List Bool} (hm : m = L.length) (h : BitsP w P L) (hC : Kd.C Kd.bool w A m L) (hc : m ≤ c) (hl : L.length < 100000000000) :
    Calls Try.prog 35 #[.pointer P, .slice A m c] w fun e w' => e = .returned (.bool true) ∧ Below w.heap.size w w' := by
  have HP := Aside0.mk h
  have HC := Aside0.mk hC
  have HCC := Aside0.mk hc
  have HM := Aside0.mk hm
  have HL := Aside0.mk hl
  have HL12 := Aside0.mk (show L.length < 1000000000000 by omega)
  have HB := Aside0.mk (Below.refl w.heap.size w)
  have hml : (m : Int) < 100000000000 := by omega
  obtain ⟨k0, hk0⟩ := (bytes_ev L hl).rounds
  have HK0 := Aside0.mk hk0
  obtain ⟨s, hs⟩ : ∃ s, s = strOfNums (pack L) := ⟨_, rfl⟩
  have HS := Aside0.mk hs
  clear h hC hc hm hl hk0 hs
  go_enter Try.func35, Try.ntmps35
  go_wp2
  go_region_with (first
    | (go_at_call 16; refine (bits_Len (HP.out.below (by first | exact HB.out | exact HB.out.drew))).mono ?_; rw [← HM.out]; rintro e w' ⟨rfl, rfl⟩)
    | (go_at_call 17; refine (bits_Bytes (HP.out.below (by first | exact HB.out | exact HB.out.drew)) HL.out).mono ?_; rintro e w8 ⟨v8, rfl, hR, hb⟩; obtain ⟨A8, c8, rfl, _, hC8⟩ := Kd.R_reads hR; have hcv := Kd.C_string (P := Try.prog) (c := c8) Try.underlying22 Try.underlying5 Try.underlying9 hC8; rw [← HS.out] at hcv; have HC8 := Aside0.mk hC8; have m2_ := Aside0.mk (below_step (by first | exact HB.out | exact HB.out.drew) hb); clear HB; have HB := m2_; clear m2_ hb hR hC8)
    | (go_at_call 43; (have hcall := loessref6_Bits_Bytes.calls k0 A c L (pack L) _ (by rw [← HM.out]; exact Kd.C_below HC.out (by first | exact HB.out | exact HB.out.drew)) (by rw [← HM.out]; exact HCC.out) HK0.out); rw [← HM.out] at hcall; refine hcall.mono ?_; clear hcall; rintro e w9 ⟨v9, rfl, hR, hb⟩; obtain ⟨A9, c9, rfl, _, hC9⟩ := Kd.R_reads hR; have hcw := Kd.C_string (P := Try.prog) (c := c9) Try.underlying22 Try.underlying5 Try.underlying9 hC9; rw [← HS.out] at hcw; have hcx := Kd.C_string (P := Try.prog) (c := c8) Try.underlying22 Try.underlying5 Try.underlying9 (Kd.C_below HC8.out hb); rw [← HS.out] at hcx; have m2_ := Aside0.mk (below_step (by first | exact HB.out | exact HB.out.drew) hb); clear HB; have HB := m2_; clear m2_ hb hR hC9))
  all_goals (clear hcv hcw hcx)
  all_goals (simp only [Act.put, List.getElem_toArray, List.getElem_cons_succ, List.getElem_cons_zero, List.setIfInBounds_toArray, List.set_cons_zero, List.set_cons_succ])
  all_goals
    go_wp2
    go_loop [5] (fun v5 => ∃ (k : Nat), v5 = .int .i64 ((k : Int) - 1) ∧ k ≤ m + 2) (fun v => m + 2 - (intOf v + 1).toNat)
    case atStart => exact ⟨0, by first | rfl | go_num, Nat.zero_le _⟩
    case round =>
      obtain ⟨k, rfl, hk⟩ := hrel
      have HPW := Aside0.mk (HP.out.below (by first | exact HB.out | exact HB.out.drew))
      by_cases h0 : k = 0
      · subst h0
        have h1 : ((0 : Nat) : Int) - 1 = -1 := rfl
        have hm1 : decide ((-1 : Int) ≤ (m : Int)) = true := decide_eq_true (by omega)
        have hmm : (-1 : Int) ≤ (m : Int) := by omega
        have hat : atB L (-1) = false := rfl
        rw [h1]
        clear h1 hk
        go_wp2_with (first | (go_at_call 21; refine (bits_At _ HPW.out HL12.out).mono ?_; rw [hat]; rintro e w' ⟨rfl, rfl⟩))
        go_round
        case rel => exact ⟨1, by go_num, by omega⟩
        case measure => simp [intOf]
      · obtain ⟨j, rfl⟩ : ∃ j, k = j + 1 := ⟨k - 1, by omega⟩
        have h1 : ((j + 1 : Nat) : Int) - 1 = (j : Int) := by omega
        rw [h1]
        clear h1 h0
        have hjb : (j : Int) < 100000000001 := by omega
        by_cases hjm : j < m
        · have hjz : (j : Int) < (m : Int) := by omega
          have hjz2 : (j : Int) ≤ (m : Int) := by omega
          obtain ⟨ad, e, hx⟩ := Kd.at_bool (Kd.C_below HC.out (by first | exact HB.out | exact HB.out.drew)) (j : Int) (Int.natCast_nonneg _) hjz
          cases e
          have hat : atB L (j : Int) = rdOf false L (j : Int) := by
            unfold atB
            rw [decide_eq_true (by omega), Bool.true_and]
            rfl
          obtain ⟨b, hb⟩ : ∃ b, b = rdOf false L (j : Int) := ⟨_, rfl⟩
          rw [← hb] at hx hat
          simp only [Int.toNat_natCast] at hx
          have HJ := Aside0.mk hjm
          clear hjm hk hb
          cases b <;> go_wp2_with (first | (go_at_call 21; refine (bits_At _ HPW.out HL12.out).mono ?_; rw [hat]; rintro e w' ⟨rfl, rfl⟩))
          all_goals
            go_round
            case rel => have := HJ.out; exact ⟨j + 2, by go_num, by omega⟩
            case measure => have := HJ.out; simp [intOf]; omega
        · by_cases hje : j = m
          · subst hje
            have hat : atB L (j : Int) = false := by
              unfold atB
              rw [decide_eq_true (by omega), Bool.true_and, List.getD_eq_getElem?_getD, List.getElem?_eq_none (by have := HM.out; simp; omega)]
              rfl
            clear hjm hk
            go_wp2_with (first | (go_at_call 21; refine (bits_At _ HPW.out HL12.out).mono ?_; rw [hat]; rintro e w' ⟨rfl, rfl⟩))
            go_round
            case rel => exact ⟨j + 2, by go_num, by omega⟩
            case measure => simp [intOf]; omega
          · have hend : decide ((j : Int) ≤ (m : Int)) = false := decide_eq_false (by omega)
            have hend2 : decide (j ≤ m) = false := decide_eq_false (by omega)
            clear hjm hje hk
            go_wp2
            go_ret
            exact ⟨rfl, by first | exact HB.out | exact HB.out.drew⟩
end Go.Proofs.Ytbaopegmdllbeaa.GL
