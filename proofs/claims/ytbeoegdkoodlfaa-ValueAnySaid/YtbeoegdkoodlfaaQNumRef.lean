/- The printed functions of the reference of package num tell what QNum says. -/
import Derived.Test.YtbeoegdkoodlfaaQNum
import Derived.Test.YtbeoegdkoodlfaaXValx20
import Derived.Test.YtbeoegdkoodlfaaXValx14
import Derived.Test.YtbeoegdkoodlfaaXValx15
set_option linter.unusedVariables false
set_option linter.unusedSimpArgs false
namespace Go.Proofs.Ytbeoegdkoodlfaa.Q
open Go.RowKit Go.Proofs.YtbeoegdkoodlfaaW.PrintWords Go.Proofs.YtbeoegdkoodlfaaW.PrintMore Go.Proofs.Ytbeoegdkoodlfaa.XVal
theorem zig_bitsR {n : Int} (h : I64 n) : (if n < 0 then Go.bits .xor .u64 18446744073709551615 (IntKind.u64.wrap (IntKind.u64.wrap n * 2)) else IntKind.u64.wrap (IntKind.u64.wrap n * 2)) = (zig n : Int) := by
  unfold I64 at h
  unfold zig
  split
  · rw [u64_mod, u64_mod, not_u64 (by omega) (by omega)]
    omega
  · rw [u64_mod, u64_mod]
    omega
theorem ref_Put_l (u : Nat) : ∀ l : List Int, l.length + (putU u).length ≤ 140737488355328 → u < 18446744073709551616 → Ev (fun k => loessref1_Put.l0 k (u : Int) l) (l ++ putU u) := by
  induction u using Nat.strongRecOn with
  | _ u ih =>
    intro l hl hu
    by_cases h : u < 128
    · rw [putU_lt h] at hl ⊢
      refine Ev.step (f := fun _ => some (l ++ [(u : Int)])) (fun k => ?_) (Ev.now _)
      simp only [loessref1_Put.l0]
      simp only [List.length_cons, List.length_nil] at hl
      rw [if_neg (by omega), if_pos (by omega), show (u : Int) % 256 = u by omega]
    · rw [putU_ge h] at hl ⊢
      simp only [List.length_cons] at hl
      refine Ev.step (f := fun k => loessref1_Put.l0 k ((u / 128 : Nat) : Int) (l ++ [((u % 128 + 128 : Nat) : Int)])) (fun k => ?_) ?_
      · simp only [loessref1_Put.l0]
        rw [if_pos (by omega), if_pos (by omega), Int.tdiv_eq_ediv_of_nonneg (by omega), Int.tmod_eq_emod_of_nonneg (by omega), u64 (x := (u : Int) / 128) (by omega) (by omega), u64 (x := (u : Int) % 128 + 128) (by omega) (by omega)]
        rw [show ((u : Int) % 128 + 128) % 256 = ((u % 128 + 128 : Nat) : Int) by omega, show (u : Int) / 128 = ((u / 128 : Nat) : Int) by omega]
      · refine evEq (ih (u / 128) (by omega) (l ++ [((u % 128 + 128 : Nat) : Int)]) (by simp only [List.length_append, List.length_cons, List.length_nil]; omega) (by omega)) ?_
        rw [List.append_assoc]
        rfl
theorem ref_Put_ev {n : Int} (h : I64 n) : Ev (fun k => loessref1_Put.f k n) (putN n) := by
  have hz := zig_bitsR h
  have := putN_len h
  have h1 : Ev (fun k => loessref1_Put.j0 k (zig n : Int)) (putN n) := Ev.step (fun k => by simp only [loessref1_Put.j0]) (ref_Put_l (zig n) [] (by unfold putN at this; simp only [List.length_nil]; omega) (zig_lt h))
  refine Ev.congr (fun k => ?_) h1
  unfold loessref1_Put.f
  split
  · rename_i hn; rw [if_pos hn] at hz; rw [hz]
  · rename_i hn; rw [if_neg hn] at hz; rw [hz]
theorem ref_PutText_ev {s : ByteArray} (h : s.size ≤ 70368744177664) : Ev (fun k => loessref1_PutText.f k s) (putT s) := by
  have hi : I64 (s.size : Int) := by unfold I64; omega
  have := putN_len hi
  have h2 : Ev (fun _ => if (putN (s.size : Int)).length + s.size < 140737488355328 then some (putN (s.size : Int) ++ bytesOf s) else none) (putN (s.size : Int) ++ bytesOf s) :=
    evC (if_pos (by omega))
  exact Ev.bind (ref_Put_ev hi) h2
theorem ref_Get_l : ∀ (r pre : List Int) (u w : Int), Byt (pre ++ r) → (pre ++ r).length < 9223372036854775800 → pre.length ≤ 9 → 0 ≤ u → u < 128 ^ pre.length → w = 128 ^ pre.length →
    Ev (fun k => loessref1_Get.l0 k (pre ++ r) u w (pre.length : Int)) (ug r pre.length u) := by
  intro r
  induction r with
  | nil =>
    intro pre u w hb hl hi h0 h1 hw
    refine Ev.step (f := fun _ => some (0, 0, 2)) (fun k => ?_) (Ev.now _)
    simp only [loessref1_Get.l0]
    rw [if_neg (by simp)]
  | cons c r ih =>
    intro pre u w hb hl hi h0 h1 hw
    have hc := hb.right.head
    have hll : (pre ++ c :: r).length = pre.length + r.length + 1 := by simp; omega
    have hlt : (pre.length : Int) < ((pre ++ c :: r).length : Int) := by omega
    have hpp := p128 pre.length
    have hstep : ∀ k, loessref1_Get.l0 (k + 1) (pre ++ c :: r) u w (pre.length : Int) = loessref1_Get.j1 k (pre ++ c :: r) u w (pre.length : Int) (decide (pre.length = 9 ∧ c > 1) || decide (pre.length > 0 ∧ c = 0)) := by
      intro k
      simp only [loessref1_Get.l0]
      rw [if_pos hlt]
      by_cases h9 : pre.length = 9
      · rw [if_pos (by omega), if_pos (by omega), rd_append]
        by_cases hc1 : c > 1
        · rw [if_pos hc1]
          congr 1
          simp [h9, hc1]
        · rw [if_neg hc1, if_pos (by omega)]
          congr 1
          rw [Bool.eq_iff_iff]
          simp [h9]
          omega
      · rw [if_neg (by omega)]
        by_cases hp : (pre.length : Int) > 0
        · rw [if_pos hp, if_pos (by omega), rd_append]
          congr 1
          rw [Bool.eq_iff_iff]
          simp [h9]
          omega
        · rw [if_neg hp]
          congr 1
          simp [h9]
          omega
    refine Ev.step hstep ?_
    by_cases hx : pre.length = 9 ∧ c > 1
    · refine Ev.step (f := fun _ => some (0, 0, 1)) (fun k => ?_) (evEq (Ev.now _) ?_)
      · simp only [loessref1_Get.j1]
        rw [if_pos (by simp [hx])]
      · unfold ug; rw [if_pos hx]
    · by_cases hz : pre.length > 0 ∧ c = 0
      · refine Ev.step (f := fun _ => some (0, 0, 1)) (fun k => ?_) (evEq (Ev.now _) ?_)
        · simp only [loessref1_Get.j1]
          rw [if_pos (by simp [hz])]
        · unfold ug; rw [if_neg hx, if_neg (by omega), if_pos hz]
      · have hd : (decide (pre.length = 9 ∧ c > 1) || decide (pre.length > 0 ∧ c = 0)) = false := by rw [decide_eq_false hx, decide_eq_false hz]; rfl
        rw [hd]
        have hcb : c % 128 * 128 ^ pre.length + u < 18446744073709551616 := by
          by_cases hi9 : pre.length = 9
          · have : c ≤ 1 := by
              rcases Int.lt_or_le 1 c with h | h
              · exact absurd ⟨hi9, h⟩ hx
              · exact h
            rw [hi9] at h1 ⊢
            have : c % 128 ≤ 1 := by omega
            omega
          · have h8 := pow128_mono (i := pre.length) (j := 8) (by omega)
            have h2 : c % 128 * 128 ^ pre.length ≤ 127 * 128 ^ pre.length := Int.mul_le_mul_of_nonneg_right (by omega) (Int.le_of_lt hpp)
            have e8 : (128 : Int) ^ 8 = 72057594037927936 := rfl
            omega
        have hcn : 0 ≤ c % 128 * 128 ^ pre.length := Int.mul_nonneg (by omega) (Int.le_of_lt hpp)
        have hu : IntKind.u64.wrap (u + IntKind.u64.wrap (IntKind.u64.wrap (Int.tmod (rd (pre ++ c :: r) (pre.length : Int)) 128) * w)) = u + c % 128 * 128 ^ pre.length := by
          rw [rd_append, Int.tmod_eq_emod_of_nonneg hc.1, u64 (x := c % 128) (by omega) (by omega), hw, u64 (x := c % 128 * 128 ^ pre.length) hcn (by omega), u64 (by omega) (by omega)]
        by_cases hc1 : c > 127
        · have hi9 : pre.length ≠ 9 := fun h => hx ⟨h, by omega⟩
          have hrec := ih (pre ++ [c]) (u + (c - 128) * 128 ^ pre.length) (128 ^ (pre.length + 1)) (by rw [List.append_assoc]; exact hb) (by rw [List.append_assoc]; exact hl) (by simp; omega) (Int.add_nonneg h0 (Int.mul_nonneg (by omega) (Int.le_of_lt hpp))) (by
            simp only [List.length_append, List.length_cons, List.length_nil]
            have : (c - 128) * 128 ^ pre.length ≤ 127 * 128 ^ pre.length := Int.mul_le_mul_of_nonneg_right (by omega) (Int.le_of_lt hpp)
            rw [Int.pow_succ]
            omega) (by simp)
          simp only [List.append_assoc, List.cons_append, List.nil_append, List.length_append, List.length_cons, List.length_nil] at hrec
          have h8 := pow128_mono (i := pre.length) (j := 8) (by omega)
          have e8 : (128 : Int) ^ 8 = 72057594037927936 := rfl
          refine Ev.step (fun k => ?_) (evEq hrec ?_)
          · simp only [loessref1_Get.j1]
            rw [if_neg (by simp), if_pos (by omega), if_pos hlt, hu, rd_append, if_neg (by omega), w64 (by omega) (by omega)]
            rw [show c % 128 = c - 128 by omega, hw, Int.pow_succ, u64 (x := 128 ^ pre.length * 128) (by omega) (by omega)]
            simp only [Nat.zero_add, Int.natCast_add, Int.natCast_one]
          · conv => rhs; unfold ug
            rw [if_neg hx, if_pos hc1]
        · have e1 : c % 128 = c := by omega
          rw [e1] at hu hcb hcn
          refine Ev.step (f := fun _ => some (unzig (u + c * 128 ^ pre.length), (pre.length : Int) + 1, 0)) (fun k => ?_) (evEq (Ev.now _) ?_)
          · simp only [loessref1_Get.j1]
            rw [if_neg (by simp), if_pos (by omega), if_pos hlt, hu, rd_append, if_pos (by omega), w64 (x := (pre.length : Int) + 1) (by omega) (by omega)]
            rw [Int.tmod_eq_emod_of_nonneg (by omega), Int.tdiv_eq_ediv_of_nonneg (by omega), u64 (x := (u + c * 128 ^ pre.length) / 2) (by omega) (by omega), w64 (x := (u + c * 128 ^ pre.length) / 2) (by omega) (by omega)]
            rw [w64 (x := -((u + c * 128 ^ pre.length) / 2)) (by omega) (by omega), w64 (x := -((u + c * 128 ^ pre.length) / 2) - 1) (by omega) (by omega)]
            unfold unzig
            split <;> rfl
          · unfold ug; rw [if_neg hx, if_neg hc1, if_neg hz]
theorem ref_Get_ev {l : List Int} (h : Byt l) (hl : l.length < 9223372036854775800) : Ev (fun k => loessref1_Get.f k l) (getN l) := ref_Get_l l [] 0 1 (by simpa using h) (by simpa using hl) (by simp) (by decide) (by simp) (by simp)
theorem ref_GetText_ev {l : List Int} (h : Byt l) (hl : l.length < 9223372036854775800) : Ev (fun k => loessref1_GetText.f k l) (getT l) := by
  have hb := getN_bound l
  have hi := getN_i64 h
  unfold I64 at hi
  unfold loessref1_GetText.f
  refine Ev.bind (ref_Get_ev h hl) ?_
  unfold getT
  by_cases h0 : (getN l).2.2 = 0
  · simp only [h0, ne_eq, not_true_eq_false, if_false, if_true]
    by_cases h1 : (getN l).1 < 0 ∨ (getN l).1 > 65536
    · rw [if_pos h1]
      have e : ∀ k, (if (getN l).1 < 0 then loessref1_GetText.j0 k l (getN l).1 (getN l).2.1 true else loessref1_GetText.j0 k l (getN l).1 (getN l).2.1 (decide ((getN l).1 > 65536))) = loessref1_GetText.j0 k l (getN l).1 (getN l).2.1 true := by
        intro k
        split
        · rfl
        · rw [decide_eq_true (by omega)]
      refine Ev.congr e (Ev.step (f := fun _ => some (⟨#[]⟩, 0, 1)) (fun k => ?_) (Ev.now _))
      simp only [loessref1_GetText.j0]
      rw [if_pos trivial]
    · rw [if_neg h1]
      have e : ∀ k, (if (getN l).1 < 0 then loessref1_GetText.j0 k l (getN l).1 (getN l).2.1 true else loessref1_GetText.j0 k l (getN l).1 (getN l).2.1 (decide ((getN l).1 > 65536))) = loessref1_GetText.j0 k l (getN l).1 (getN l).2.1 false := by
        intro k
        rw [if_neg (by omega), decide_eq_false (by omega)]
      refine Ev.congr e (Ev.step (f := fun _ => if (getN l).1 > (l.length : Int) - (getN l).2.1 then some (⟨#[]⟩, 0, 2) else some (strOfNums ((l.take ((getN l).2.1 + (getN l).1).toNat).drop (getN l).2.1.toNat), (getN l).2.1 + (getN l).1, 0)) (fun k => ?_) ?_)
      · simp only [loessref1_GetText.j0]
        rw [if_neg (by simp), w64 (x := (l.length : Int) - (getN l).2.1) (by omega) (by omega)]
        by_cases h3 : (getN l).1 > (l.length : Int) - (getN l).2.1
        · rw [if_pos (by omega), if_pos h3]
        · rw [if_neg (by omega), if_neg h3, w64 (x := (getN l).2.1 + (getN l).1) (by omega) (by omega), if_pos (by omega), if_pos (by omega), if_pos (by omega)]
      · split <;> exact Ev.now _
  · have h0' : ¬ ((getN l).2.2 = 0) := h0
    simp only [ne_eq, h0, not_false_eq_true, if_true, if_false]
    exact Ev.now _
end Go.Proofs.Ytbeoegdkoodlfaa.Q
