/- rank.Ones, Place, Len by hand. -/
import Derived.Test.YtbaopegmdllbeaaGRank
namespace Go.Proofs.Ytbaopegmdllbeaa.GL
open Go.RowKit Go.Proofs.YtbaopegmdllbeaaW.PrintWords Go.Proofs.YtbaopegmdllbeaaW.PrintLast Go.Proofs.YtbaopegmdllbeaaW.PrintMore Go.Proofs.Ytbaopegmdllbeaa.Q Go.Proofs.Ytbaopegmdllbeaa.XBit
attribute [local go_sem] max2_int min2_int max_two min_two
set_option linter.unusedVariables false
set_option linter.unusedSimpArgs false
set_option maxRecDepth 1000000 in
set_option maxHeartbeats 8000000 in
theorem rank_Len {w : World} {p n : Nat} {L : List Bool} (h : RankR w p (counts L n)) (hl : n < 1000000000) :
    Calls Try.prog 27 #[.pointer (some ⟨p, 0, none⟩)] w fun e w' => e = .returned (.int .i64 n) ∧ w' = w := by
  have hu := Try.underlying66
  obtain ⟨A, c, hBK, _, _⟩ := h
  have hc0 : w.cell? ⟨p, 0, none⟩ = some (.slice A (counts L n).length c) := (blk_cell hBK 0).trans rfl
  obtain ⟨m, hm⟩ : ∃ m, m = (counts L n).length := ⟨_, rfl⟩
  rw [← hm] at hc0
  rw [counts_len] at hm
  have hm1 : (m : Int) - 1 = (n : Int) := by omega
  have hmb : (m : Int) < 10000000000 := by omega
  have hm0 : (0 : Int) ≤ (m : Int) := by omega
  by_cases hz : n = 0
  · subst hz
    clear hBK hl hm
    go_enter Try.func27, Try.ntmps27
    go_wp2
    go_ret
    exact ⟨rfl, rfl⟩
  · have hn : (0 : Int) < (n : Int) := by omega
    have hnd := decide_eq_true hn
    clear hBK hl hm hz
    go_enter Try.func27, Try.ntmps27
    go_wp2
    go_ret
    exact ⟨rfl, rfl⟩
set_option maxRecDepth 1000000 in
set_option maxHeartbeats 8000000 in
theorem rank_Len_nil (w : World) : Calls Try.prog 27 #[.pointer none] w fun e w' => e = .returned (.int .i64 0) ∧ w' = w := by
  go_enter Try.func27, Try.ntmps27
  go_wp2
  go_ret
  exact ⟨rfl, rfl⟩
theorem rank_Ones_nil (i : Int) (w : World) : Calls Try.prog 25 #[.pointer none, .int .i64 i] w fun e w' => e = .returned (.int .i64 0) ∧ Drawn0 w w' := by
  go_enter Try.func25, Try.ntmps25
  go_wp2
  go_ret
  exact ⟨rfl, Drawn0.refl _⟩
theorem rank_Place_nil (i : Int) (w : World) : Calls Try.prog 26 #[.pointer none, .int .i64 i] w fun e w' => e = .returned (.int .i64 (-1)) ∧ Drawn0 w w' := by
  go_enter Try.func26, Try.ntmps26
  go_wp2
  go_ret
  exact ⟨rfl, Drawn0.refl _⟩
/-- A place, or the next one that there is. -/
def clampN (i : Int) (n : Nat) : Nat := if i < 0 then 0 else min i.toNat n
set_option maxRecDepth 1000000 in
set_option maxHeartbeats 8000000 in
theorem rank_Ones {w : World} {p n : Nat} {L : List Bool} (i : Int) (h : RankR w p (counts L n)) (hl : n < 1000000000) :
    Calls Try.prog 25 #[.pointer (some ⟨p, 0, none⟩), .int .i64 i] w fun e w' => e = .returned (.int .i64 (cnt L (clampN i n))) ∧ Drawn0 w w' := by
  have hu := Try.underlying66
  have HR := Aside0.mk h
  have HL := Aside0.mk hl
  obtain ⟨A, c, hBK, _, hC⟩ := h
  obtain ⟨j, hj⟩ : ∃ j, j = clampN i n := ⟨_, rfl⟩
  have hjn : j ≤ n := by rw [hj]; unfold clampN; split <;> omega
  obtain ⟨ad, rfl, hx⟩ := Kd.at_int hC (j : Int) (Int.natCast_nonneg _) (by rw [counts_len]; omega)
  have e : rd (counts L n) (j : Int) = (cnt L j : Int) := by exact counts_get L n j hjn
  rw [e] at hx
  replace hx : w.cell? (ad.add j) = some (.int .i64 (cnt L j)) := hx
  have hc0 : w.cell? ⟨p, 0, none⟩ = some (.slice (some ad) (counts L n).length c) := (blk_cell hBK 0).trans rfl
  obtain ⟨m, hm⟩ : ∃ m, m = (counts L n).length := ⟨_, rfl⟩
  rw [← hm] at hc0
  rw [counts_len] at hm
  have hm0 : ((m : Int) == 0) = false := beq_eq_false_iff_ne.mpr (by omega)
  have hm0n : (m == 0) = false := beq_eq_false_iff_ne.mpr (by omega)
  have hmz : ¬ m = 0 := by omega
  have hjl : (j : Int) < (m : Int) := by omega
  have hjl2 : j < m := by omega
  have hj0 : (0 : Int) ≤ (j : Int) := by omega
  have hcase : (i < 0 ∧ j = 0) ∨ (i = (j : Int)) ∨ ((n : Int) < i ∧ j = n) := by rw [hj]; unfold clampN; split <;> omega
  rw [← hj]
  clear hBK hl hC e hj hm
  rcases hcase with ⟨hi, rfl⟩ | rfl | ⟨hi, rfl⟩
  · have h1 := decide_eq_true hi
    have h2 : decide ((n : Int) < 0) = false := decide_eq_false (by omega)
    have h3 : ¬ (n : Int) < 0 := by omega
    have hx0 : w.cell? ad = some (.int .i64 (cnt L 0)) := hx
    have hmp : (0 : Int) < (m : Int) := by omega
    have hmp2 : 0 < m := by omega
    clear hjn hm0n
    go_enter Try.func25, Try.ntmps25
    go_wp2
    go_quiet ((go_at_call 27; exact Calls.quiet_of_same (rank_Len HR.out HL.out)))
    go_wp2
    go_ret
    exact ⟨rfl, ⟨_, rfl⟩⟩
  · have h1 : decide ((j : Int) < 0) = false := decide_eq_false (by omega)
    have h2 : ¬ (n : Int) < (j : Int) := by omega
    have h3 : ¬ (j : Int) < 0 := by omega
    clear hjn hm0n
    go_enter Try.func25, Try.ntmps25
    go_wp2
    go_quiet ((go_at_call 27; exact Calls.quiet_of_same (rank_Len HR.out HL.out)))
    go_wp2
    go_ret
    exact ⟨rfl, ⟨_, rfl⟩⟩
  · have h1 : ¬ i < 0 := by omega
    clear hjn hm0n
    go_enter Try.func25, Try.ntmps25
    go_wp2
    go_quiet ((go_at_call 27; exact Calls.quiet_of_same (rank_Len HR.out HL.out)))
    go_wp2
    go_ret
    exact ⟨rfl, ⟨_, rfl⟩⟩
end Go.Proofs.Ytbaopegmdllbeaa.GL
