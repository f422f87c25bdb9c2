/- bits.At by hand. -/
import Derived.Test.YtobdfehpbgcloaaGBits
namespace Go.Proofs.Ytobdfehpbgcloaa.GL
open Go.RowKit Go.Proofs.YtobdfehpbgcloaaW.PrintWords Go.Proofs.YtobdfehpbgcloaaW.PrintLast Go.Proofs.YtobdfehpbgcloaaW.PrintMore Go.Proofs.Ytobdfehpbgcloaa.Q Go.Proofs.Ytobdfehpbgcloaa.XTri
set_option linter.unusedVariables false
set_option linter.unusedSimpArgs false
/-- A bit of a byte. -/
theorem byteOf_bit : ∀ (l : List Bool) (k j : Nat), k + l.length ≤ 8 → k + j < 8 → byteOf l k / 2 ^ (7 - (k + j)) % 2 = if l.getD j false = true then 1 else 0 := by
  intro l
  induction l with
  | nil => intro k j _ _; simp [byteOf]
  | cons b r ih =>
    intro k j hk hj
    simp only [List.length_cons] at hk
    obtain ⟨h0, h1, _⟩ := byteOf_mod r (k + 1) (by omega)
    have e7 : 8 - (k + 1) = 7 - k := by omega
    rw [e7] at h1
    have q0 : (0 : Int) < 2 ^ (7 - k - r.length) := Int.pow_pos (by decide)
    have q : (0 : Int) < 2 ^ (7 - k) := Int.pow_pos (by decide)
    simp only [byteOf]
    cases j with
    | zero =>
      simp only [Nat.add_zero, List.getD_cons_zero]
      have hy : byteOf r (k + 1) / 2 ^ (7 - k) = 0 := Int.ediv_eq_zero_of_lt h0 (by omega)
      cases b
      · simp [hy]
      · simp only [if_true]
        rw [Int.add_ediv_of_dvd_left (Int.dvd_refl _), hy, Int.ediv_self (by omega)]
        rfl
    | succ j =>
      simp only [List.getD_cons_succ]
      have := ih (k + 1) j (by omega) (by omega)
      rw [show k + 1 + j = k + (j + 1) by omega] at this
      rw [← this]
      cases b
      · simp
      · simp only [if_true]
        have e : (2 : Int) ^ (7 - k) = 2 ^ (7 - (k + (j + 1))) * (2 * 2 ^ j) := by
          rw [← Int.pow_succ', ← Int.pow_add]
          congr 1
          omega
        have q2 : (2 : Int) ^ (7 - (k + (j + 1))) ≠ 0 := Int.ne_of_gt (Int.pow_pos (by decide))
        rw [Int.add_ediv_of_dvd_left (by rw [e]; exact Int.dvd_mul_right _ _), e, Int.mul_ediv_cancel_left _ q2]
        omega
/-- A bit of bits, by the byte that holds it. -/
theorem pack_bit (L : List Bool) (n : Nat) (h : n < L.length) : (pack L).getD (n / 8) 0 / 2 ^ (7 - n % 8) % 2 = if L.getD n false = true then 1 else 0 := by
  have hlt : n / 8 < (L.length + 7) / 8 := by omega
  rw [List.getD_eq_getElem?_getD, pack_get, if_pos hlt, Option.getD_some]
  have hb := byteOf_bit ((L.drop (8 * (n / 8))).take 8) 0 (n % 8) (by rw [List.length_take]; omega) (by omega)
  rw [Nat.zero_add] at hb
  rw [hb]
  have e : ((L.drop (8 * (n / 8))).take 8).getD (n % 8) false = L.getD n false := by
    rw [List.getD_eq_getElem?_getD, List.getD_eq_getElem?_getD, List.getElem?_take, if_pos (by omega), List.getElem?_drop]
    congr 2
    omega
  rw [e]
theorem byteOf_byt : ∀ (l : List Bool) (k : Nat), k + l.length ≤ 8 → 0 ≤ byteOf l k ∧ byteOf l k < 256 := by
  intro l k h
  have := byteOf_mod l k h
  have q0 : (0 : Int) < 2 ^ (8 - k - l.length) := Int.pow_pos (by decide)
  have q1 : (2 : Int) ^ (8 - k) ≤ 2 ^ 8 := by have := Nat.pow_le_pow_right (n := 2) (by decide) (show 8 - k ≤ 8 by omega); exact_mod_cast this
  have e : (2 : Int) ^ 8 = 256 := rfl
  omega
theorem pack_byt (L : List Bool) : Byt (pack L) := by
  intro x hx
  obtain ⟨j, hj⟩ := List.mem_iff_getElem?.1 hx
  rw [pack_get] at hj
  split at hj
  · injection hj with hj
    rw [← hj]
    exact byteOf_byt _ 0 (by rw [List.length_take]; omega)
  · cases hj
theorem byt_getD {l : List Int} (h : Byt l) (n : Nat) : 0 ≤ l.getD n 0 ∧ l.getD n 0 < 256 := by
  rw [List.getD_eq_getElem?_getD]
  cases e : l[n]? with
  | none => simp
  | some x => exact h x (List.mem_of_getElem? e)
theorem and1_u8 {c : Int} {n : Nat} (h0 : 0 ≤ c) (h1 : c < 256) : Go.bits .and .u8 (c / 2 ^ n) 1 = c / 2 ^ n % 2 := by
  have q : (0 : Int) < 2 ^ n := Int.pow_pos (by decide)
  have h2 : 0 ≤ c / 2 ^ n := Int.ediv_nonneg h0 (by omega)
  have h3 : c / 2 ^ n ≤ c := Int.ediv_le_self _ h0
  exact bits_mask .u8 8 (by decide) wraps_u8 1 (by decide) (c / 2 ^ n) h2 (by omega)
/-- bits.At. -/
def atB (L : List Bool) (i : Int) : Bool := decide (0 ≤ i) && L.getD i.toNat false
set_option maxRecDepth 1000000 in
set_option maxHeartbeats 4000000 in
theorem bits_At_in {w : World} {P : Option Addr} {L : List Bool} (n : Nat) (h : BitsP w P L) (hn : n < L.length) (hl : L.length < 1000000000000) :
    Calls Try.prog 28 #[.pointer P, .int .i64 n] w fun e w' => e = .returned (.bool (L.getD n false)) ∧ w = w' := by
  have hu := Try.underlying47
  rcases h with ⟨rfl, rfl⟩ | ⟨p, rfl, A, c, hBK, hlc, hC⟩
  · cases hn
  · have hq : n / 8 < (pack L).length := by rw [pack_len]; omega
    obtain ⟨ad, rfl, hx⟩ := Kd.at_int hC ((n / 8 : Nat) : Int) (Int.natCast_nonneg _) (Int.ofNat_lt.2 hq)
    have HL := Aside0.mk (show BitsP w (some ⟨p, 0, none⟩) L from .inr ⟨p, rfl, _, c, hBK, hlc, hC⟩)
    have hc0 : w.cell? ⟨p, 0, none⟩ = some (.slice (some ad) (pack L).length c) := (blk_cell hBK 0).trans rfl
    have hx2 : w.cell? (ad.add (n / 8)) = some (.int .u8 ((pack L).getD (n / 8) 0)) := hx
    obtain ⟨b, hb⟩ : ∃ b, b = (pack L).getD (n / 8) 0 := ⟨_, rfl⟩
    obtain ⟨q, hq0⟩ : ∃ q, q = n / 8 := ⟨_, rfl⟩
    obtain ⟨r, hr0⟩ : ∃ r, r = n % 8 := ⟨_, rfl⟩
    have h1 : (n : Int) / 8 = (q : Int) := by omega
    have h2 : (n : Int) % 8 = (r : Int) := by omega
    have h5 : (q : Int) < ((pack L).length : Int) := by omega
    have h8 : q < 1000000000000 := by omega
    have h9 : r < 8 := by omega
    have h6 : decide (n < L.length) = true := decide_eq_true hn
    have h3 := w64_seven h9
    have h4 := w64_nat h8
    rw [← hb, ← hq0] at hx2
    have HB := Aside0.mk hb
    have HQ := Aside0.mk hq0
    have HR := Aside0.mk hr0
    have HN := Aside0.mk hn
    clear hBK hlc hC hx hb hq0 hr0 hq hn hl h8 h9
    go_enter Try.func28, Try.ntmps28
    go_wp2_with (first | (go_at_call 15; refine (bits_Len HL.out).mono ?_; rintro e w' ⟨rfl, rfl⟩))
    go_ret
    refine ⟨?_, rfl⟩
    have hbit := pack_bit L n HN.out
    rw [← HQ.out, ← HR.out] at hbit
    have hbb := byt_getD (pack_byt L) q
    rw [HQ.out, ← HB.out] at hbb
    rw [HQ.out, ← HB.out] at hbit
    show Ending.returned (.bool (Go.bits .and .u8 (b / 2 ^ (7 - r)) 1 == 1)) = _
    rw [and1_u8 hbb.1 hbb.2, hbit]
    cases L.getD n false <;> rfl
set_option maxRecDepth 1000000 in
set_option maxHeartbeats 4000000 in
theorem bits_At_out {w : World} {P : Option Addr} {L : List Bool} (i : Int) (h : BitsP w P L) (hi : i < 0 ∨ (L.length : Int) ≤ i) :
    Calls Try.prog 28 #[.pointer P, .int .i64 i] w fun e w' => e = .returned (.bool false) ∧ w = w' := by
  have HL := Aside0.mk h
  by_cases h0 : i < 0
  · have h7 : ¬ (0 : Int) ≤ i := by omega
    have h8 := decide_eq_false h7
    clear h hi
    go_enter Try.func28, Try.ntmps28
    go_wp2
    go_ret
    exact ⟨rfl, rfl⟩
  · have h7 : 0 ≤ i := by omega
    have h8 : decide (i < (L.length : Int)) = false := decide_eq_false (by omega)
    clear h hi h0
    go_enter Try.func28, Try.ntmps28
    go_wp2_with (first | (go_at_call 15; refine (bits_Len HL.out).mono ?_; rintro e w' ⟨rfl, rfl⟩))
    go_ret
    exact ⟨rfl, rfl⟩
theorem bits_At {w : World} {P : Option Addr} {L : List Bool} (i : Int) (h : BitsP w P L) (hl : L.length < 1000000000000) :
    Calls Try.prog 28 #[.pointer P, .int .i64 i] w fun e w' => e = .returned (.bool (atB L i)) ∧ w = w' := by
  by_cases hi : i < 0 ∨ (L.length : Int) ≤ i
  · have e : atB L i = false := by
      unfold atB
      rcases hi with hi | hi
      · rw [decide_eq_false (by omega), Bool.false_and]
      · rw [List.getD_eq_getElem?_getD, List.getElem?_eq_none (by omega)]
        simp
    rw [e]
    exact bits_At_out i h hi
  · obtain ⟨n, rfl⟩ := Int.eq_ofNat_of_zero_le (show 0 ≤ i by omega)
    have e : atB L (n : Int) = L.getD n false := by
      unfold atB
      rw [decide_eq_true (by omega), Bool.true_and]
      rfl
    rw [e]
    exact bits_At_in n h (by omega) hl
end Go.Proofs.Ytobdfehpbgcloaa.GL
