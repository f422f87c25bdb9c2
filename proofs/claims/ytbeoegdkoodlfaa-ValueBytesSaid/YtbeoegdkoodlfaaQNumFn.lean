/- The printed functions of package num and of its reference tell what QNum says. -/
import Derived.Test.YtbeoegdkoodlfaaQNum
import Derived.Test.YtbeoegdkoodlfaaXVabx12
import Derived.Test.YtbeoegdkoodlfaaXVabx9
import Derived.Test.YtbeoegdkoodlfaaXVabx10
set_option linter.unusedVariables false
set_option linter.unusedSimpArgs false
namespace Go.Proofs.Ytbeoegdkoodlfaa.Q
open Go.RowKit Go.Proofs.YtbeoegdkoodlfaaW.PrintWords Go.Proofs.YtbeoegdkoodlfaaW.PrintMore Go.Proofs.Ytbeoegdkoodlfaa.XVab
theorem zig_bits {n : Int} (h : I64 n) : (if n < 0 then Go.bits .xor .u64 18446744073709551615 (IntKind.u64.wrap (IntKind.u64.wrap n * 2)) else IntKind.u64.wrap (IntKind.u64.wrap n * 2)) = (zig n : Int) := by
  unfold I64 at h
  unfold zig
  split
  · rw [u64_mod, u64_mod, not_u64 (by omega) (by omega)]
    omega
  · rw [u64_mod, u64_mod]
    omega
theorem num_Put_l (u : Nat) : ∀ l : List Int, l.length + (putU u).length ≤ 140737488355328 → Ev (fun k => num_Put.l0 k l (u : Int)) (l ++ putU u) := by
  induction u using Nat.strongRecOn with
  | _ u ih =>
    intro l hl
    by_cases h : u < 128
    · rw [putU_lt h] at hl ⊢
      refine Ev.step (f := fun _ => some (l ++ [(u : Int)])) (fun k => ?_) (Ev.now _)
      simp only [num_Put.l0]
      simp only [List.length_cons, List.length_nil] at hl
      rw [if_neg (by omega), if_pos (by omega), show (u : Int) % 256 = u by omega]
    · rw [putU_ge h] at hl ⊢
      simp only [List.length_cons] at hl
      refine Ev.step (f := fun k => num_Put.l0 k (l ++ [((u % 128 + 128 : Nat) : Int)]) ((u / 128 : Nat) : Int)) (fun k => ?_) ?_
      · simp only [num_Put.l0]
        rw [if_pos (by omega), if_pos (by omega), or128 (by omega) (by omega)]
        rw [show ((u : Int) % 256) % 128 + 128 = ((u % 128 + 128 : Nat) : Int) by omega, show (u : Int) / 128 = ((u / 128 : Nat) : Int) by omega]
      · refine evEq (ih (u / 128) (by omega) (l ++ [((u % 128 + 128 : Nat) : Int)]) (by simp only [List.length_append, List.length_cons, List.length_nil]; omega)) ?_
        rw [List.append_assoc]
        rfl
theorem num_Put_ev {n : Int} (h : I64 n) (l : List Int) (hl : l.length + 10 ≤ 140737488355328) : Ev (fun k => num_Put.f k l n) (l ++ putN n) := by
  have hz := zig_bits h
  have := putN_len h
  have h1 : Ev (fun k => num_Put.j0 k l (zig n : Int)) (l ++ putN n) := Ev.step (fun k => by simp only [num_Put.j0]) (num_Put_l (zig n) l (by unfold putN at this; omega))
  refine Ev.congr (fun k => ?_) h1
  unfold num_Put.f
  split
  · rename_i hn; rw [if_pos hn] at hz; rw [hz]
  · rename_i hn; rw [if_neg hn] at hz; rw [hz]
theorem num_PutText_ev {s : ByteArray} (h : s.size ≤ 70368744177664) (l : List Int) (hl : l.length ≤ 35184372088832) : Ev (fun k => num_PutText.f k l s) (l ++ putT s) := by
  have hi : I64 (s.size : Int) := by unfold I64; omega
  have := putN_len hi
  have h2 : Ev (fun _ => if (l ++ putN (s.size : Int)).length + s.size < 140737488355328 then some ((l ++ putN (s.size : Int)) ++ bytesOf s) else none) ((l ++ putN (s.size : Int)) ++ bytesOf s) :=
    evC (if_pos (by simp only [List.length_append]; omega))
  refine evEq (Ev.bind (num_Put_ev hi l (by omega)) h2) ?_
  unfold putT
  rw [List.append_assoc]
theorem num_Get_l : ∀ (r pre : List Int) (u : Int), Byt (pre ++ r) → (pre ++ r).length < 9223372036854775800 → pre.length ≤ 9 → 0 ≤ u → u < 128 ^ pre.length →
    Ev (fun k => num_Get.l0 k u (pre ++ r) ((pre ++ r).length : Int) (pre.length : Int)) (ug r pre.length u) := by
  intro r
  induction r with
  | nil =>
    intro pre u hb hl hi h0 h1
    refine Ev.step (f := fun _ => some (0, 0, 2)) (fun k => ?_) (Ev.now _)
    simp only [num_Get.l0]
    rw [if_neg (by simp)]
  | cons c r ih =>
    intro pre u hb hl hi h0 h1
    have hc := hb.right.head
    have hll : (pre ++ c :: r).length = pre.length + r.length + 1 := by simp; omega
    have hlt : (pre.length : Int) < ((pre ++ c :: r).length : Int) := by omega
    have hpp := p128 pre.length
    have e7 : wrap64 (7 * (pre.length : Int)) = 7 * pre.length := w64 (by omega) (by omega)
    have ep : (2 : Int) ^ (7 * (pre.length : Int)).toNat = 128 ^ pre.length := by
      rw [show (7 * (pre.length : Int)).toNat = 7 * pre.length by omega, Int.pow_mul]
      rfl
    have hcm : c % 128 * 128 ^ pre.length < 2 ^ 64 ∨ (pre.length = 9 ∧ c > 1) := by
      by_cases h9 : pre.length = 9
      · by_cases hc1 : c > 1
        · exact .inr ⟨h9, hc1⟩
        · rw [h9]
          have : c % 128 ≤ 1 := by omega
          left; omega
      · have h8 := pow128_mono (i := pre.length) (j := 8) (by omega)
        have h2 : c % 128 * 128 ^ pre.length ≤ 127 * 128 ^ pre.length := Int.mul_le_mul_of_nonneg_right (by omega) (Int.le_of_lt hpp)
        have e8 : (128 : Int) ^ 8 = 72057594037927936 := rfl
        left; omega
    -- the state behind this byte
    have hbits : ¬ (pre.length = 9 ∧ c > 1) → Go.bits .or .u64 u (shl .u64 (IntKind.u64.wrap (Go.bits .and .u8 c 127)) (wrap64 (7 * (pre.length : Int)))) = u + c % 128 * 128 ^ pre.length := by
      intro hn
      have hcm' : c % 128 * 128 ^ pre.length < 2 ^ 64 := by
        rcases hcm with h | h
        · exact h
        · exact absurd h hn
      rw [e7, and127 hc.1 hc.2, u64 (by omega) (by omega), shl_u64 (by omega) (by omega) (by omega) (by rw [ep]; exact hcm'), ep]
      have e2 : (128 : Int) ^ pre.length = 2 ^ (7 * pre.length) := by rw [Int.pow_mul]; rfl
      refine or_join (7 * pre.length) (by omega) h0 (by rw [← e2]; exact h1) (Int.mul_nonneg (by omega) (Int.le_of_lt hpp)) (by rw [e2]; exact Int.mul_emod_left _ _) hcm'
    -- the head of the loop
    have hstep : ∀ k, num_Get.l0 (k + 1) u (pre ++ c :: r) ((pre ++ c :: r).length : Int) (pre.length : Int) = num_Get.j1 k u (pre.length : Int) c (pre ++ c :: r) ((pre ++ c :: r).length : Int) (pre.length : Int) (decide (pre.length = 9 ∧ c > 1)) := by
      intro k
      simp only [num_Get.l0]
      rw [if_pos hlt, if_pos (by omega), if_pos hlt, rd_append]
      by_cases h9 : pre.length = 9
      · rw [if_pos (by omega)]
        congr 1
        simp [h9]
      · rw [if_neg (by omega)]
        congr 1
        simp [h9]
    refine Ev.step hstep ?_
    by_cases hx : pre.length = 9 ∧ c > 1
    · refine Ev.step (f := fun _ => some (0, 0, 1)) (fun k => ?_) (evEq (Ev.now _) ?_)
      · simp only [num_Get.j1]
        rw [if_pos (by simp [hx])]
      · unfold ug; rw [if_pos hx]
    · have hbt := hbits hx
      have hd : decide (pre.length = 9 ∧ c > 1) = false := by simpa using fun h h2 => hx ⟨h, h2⟩
      rw [hd]
      by_cases hc1 : c > 127
      · have hi9 : pre.length ≠ 9 := fun h => hx ⟨h, by omega⟩
        have hrec := ih (pre ++ [c]) (u + (c - 128) * 128 ^ pre.length) (by rw [List.append_assoc]; exact hb) (by rw [List.append_assoc]; exact hl) (by simp; omega) (Int.add_nonneg h0 (Int.mul_nonneg (by omega) (Int.le_of_lt hpp))) (by
          simp only [List.length_append, List.length_cons, List.length_nil]
          have : (c - 128) * 128 ^ pre.length ≤ 127 * 128 ^ pre.length := Int.mul_le_mul_of_nonneg_right (by omega) (Int.le_of_lt hpp)
          rw [Int.pow_succ]
          omega)
        simp only [List.append_assoc, List.cons_append, List.nil_append, List.length_append, List.length_cons, List.length_nil] at hrec
        refine Ev.step (fun k => ?_) (evEq hrec ?_)
        · simp only [num_Get.j1]
          rw [if_neg (by simp), if_pos (by omega), if_pos hc1, hbt, w64 (by omega) (by omega)]
          rw [show c % 128 = c - 128 by omega]
          simp only [Nat.zero_add, Int.natCast_add, Int.natCast_one, List.length_append, List.length_cons]
        · conv => rhs; unfold ug
          rw [if_neg hx, if_pos hc1]
      · have e1 : c % 128 = c := by omega
        rw [e1] at hbt
        have hv : 0 ≤ u + c * 128 ^ pre.length ∧ u + c * 128 ^ pre.length < 18446744073709551616 := by
          refine ⟨Int.add_nonneg h0 (Int.mul_nonneg hc.1 (Int.le_of_lt hpp)), ?_⟩
          by_cases hi9 : pre.length = 9
          · have : c ≤ 1 := by
              rcases Int.lt_or_le 1 c with h | h
              · exact absurd ⟨hi9, h⟩ hx
              · exact h
            rw [hi9] at h1 ⊢
            omega
          · have h8 := pow128_mono (i := pre.length) (j := 8) (by omega)
            have h2 : c * 128 ^ pre.length ≤ 127 * 128 ^ pre.length := Int.mul_le_mul_of_nonneg_right (by omega) (Int.le_of_lt hpp)
            have e8 : (128 : Int) ^ 8 = 72057594037927936 := rfl
            omega
        by_cases hz : pre.length > 0 ∧ c = 0
        · refine Ev.step (f := fun k => num_Get.j2 k (u + c * 128 ^ pre.length) (pre.length : Int) true) (fun k => ?_) ?_
          · simp only [num_Get.j1]
            rw [if_neg (by simp), if_pos (by omega), if_neg hc1, hbt, if_pos (by omega)]
            congr 1
            simp [hz.2]
          · refine Ev.step (f := fun _ => some (0, 0, 1)) (fun k => ?_) (evEq (Ev.now _) ?_)
            · simp only [num_Get.j2]; rw [if_pos trivial]
            · unfold ug; rw [if_neg hx, if_neg hc1, if_pos hz]
        · refine Ev.step (f := fun k => num_Get.j2 k (u + c * 128 ^ pre.length) (pre.length : Int) false) (fun k => ?_) ?_
          · simp only [num_Get.j1]
            rw [if_neg (by simp), if_pos (by omega), if_neg hc1, hbt]
            by_cases hp : (pre.length : Int) > 0
            · rw [if_pos hp]
              congr 1
              simp only [beq_eq_false_iff_ne]
              exact fun h => hz ⟨by omega, h⟩
            · rw [if_neg hp]
          · refine Ev.step (f := fun _ => some (unzig (u + c * 128 ^ pre.length), (pre.length : Int) + 1, 0)) (fun k => ?_) (evEq (Ev.now _) ?_)
            · simp only [num_Get.j2]
              rw [if_neg (by simp), w64 (x := (pre.length : Int) + 1) (by omega) (by omega), w64 (x := (u + c * 128 ^ pre.length) / 2) (by omega) (by omega)]
              have ha : Go.bits .and .u64 (u + c * 128 ^ pre.length) 1 = (u + c * 128 ^ pre.length) % 2 := bits_mask .u64 64 (by decide) wraps_u64 1 (by decide) _ hv.1 (by omega)
              rw [ha, not_i64 (by omega) (by omega)]
              unfold unzig
              split <;> rfl
            · unfold ug; rw [if_neg hx, if_neg hc1, if_neg hz]
theorem num_Get_ev {l : List Int} (h : Byt l) (hl : l.length < 9223372036854775800) : Ev (fun k => num_Get.f k l) (getN l) := num_Get_l l [] 0 (by simpa using h) (by simpa using hl) (by simp) (by decide) (by simp)
theorem num_GetText_ev {l : List Int} (h : Byt l) (hl : l.length < 9223372036854775800) : Ev (fun k => num_GetText.f k l) (getT l) := by
  have hb := getN_bound l
  have hi := getN_i64 h
  unfold I64 at hi
  unfold num_GetText.f
  refine Ev.bind (num_Get_ev h hl) ?_
  unfold getT
  by_cases h0 : (getN l).2.2 = 0
  · simp only [h0, ne_eq, not_true_eq_false, if_false, if_true]
    by_cases h1 : (getN l).1 < 0 ∨ (getN l).1 > 65536
    · rw [if_pos h1]
      have e : ∀ k, (if (getN l).1 < 0 then num_GetText.j0 k l (getN l).1 (getN l).2.1 true else num_GetText.j0 k l (getN l).1 (getN l).2.1 (decide ((getN l).1 > 65536))) = num_GetText.j0 k l (getN l).1 (getN l).2.1 true := by
        intro k
        split
        · rfl
        · rw [decide_eq_true (by omega)]
      refine Ev.congr e (Ev.step (f := fun _ => some (⟨#[]⟩, 0, 1)) (fun k => ?_) (Ev.now _))
      simp only [num_GetText.j0]
      rw [if_pos trivial]
    · rw [if_neg h1]
      have e : ∀ k, (if (getN l).1 < 0 then num_GetText.j0 k l (getN l).1 (getN l).2.1 true else num_GetText.j0 k l (getN l).1 (getN l).2.1 (decide ((getN l).1 > 65536))) = num_GetText.j0 k l (getN l).1 (getN l).2.1 false := by
        intro k
        rw [if_neg (by omega), decide_eq_false (by omega)]
      refine Ev.congr e (Ev.step (f := fun _ => if (getN l).1 > (l.length : Int) - (getN l).2.1 then some (⟨#[]⟩, 0, 2) else some (strOfNums ((l.take ((getN l).2.1 + (getN l).1).toNat).drop (getN l).2.1.toNat), (getN l).2.1 + (getN l).1, 0)) (fun k => ?_) ?_)
      · simp only [num_GetText.j0]
        rw [if_neg (by simp), w64 (x := (l.length : Int) - (getN l).2.1) (by omega) (by omega)]
        split
        · rfl
        · rw [w64 (x := (getN l).2.1 + (getN l).1) (by omega) (by omega), if_pos (by omega), if_pos (by omega), if_pos (by omega)]
      · split <;> exact Ev.now _
  · have h0' : ¬ ((getN l).2.2 = 0) := h0
    simp only [ne_eq, h0, not_false_eq_true, if_true, if_false]
    exact Ev.now _
end Go.Proofs.Ytbeoegdkoodlfaa.Q
