/- The law GammaGrows, walked by hand. -/
import Derived.Test.YtbaopegmdllbeaaGGammaLaw
namespace Go.Proofs.Ytbaopegmdllbeaa.GL
open Go.RowKit Go.Proofs.YtbaopegmdllbeaaW.PrintWords Go.Proofs.YtbaopegmdllbeaaW.PrintLast Go.Proofs.YtbaopegmdllbeaaW.PrintMore Go.Proofs.Ytbaopegmdllbeaa.Q Go.Proofs.Ytbaopegmdllbeaa.XBit Go.Proofs.Ytbaopegmdllbeaa.G
set_option linter.unusedVariables false
set_option linter.unusedSimpArgs false
theorem bitLen_eq {x m : Nat} (hx : x < 2 ^ 64) (h0 : 2 ^ m ≤ x) (h1 : x < 2 ^ (m + 1)) : Lib.bitLen x = m + 1 := by
  rw [Lib.bitLen_shift m x h0 hx]
  have e : x / 2 ^ m = 1 := by
    have hp := Nat.two_pow_pos m
    apply Nat.le_antisymm
    · have := (Nat.div_lt_iff_lt_mul hp (x := x) (y := 2)).2 (by rw [Nat.pow_succ] at h1; omega)
      omega
    · exact (Nat.le_div_iff_mul_le hp).2 (by omega)
  rw [e]
  rfl
theorem bitLen_mono {x y : Nat} (hy : y < 2 ^ 64) (h : x ≤ y) : Lib.bitLen x ≤ Lib.bitLen y := by
  by_cases h0 : y = 0
  · have : x = 0 := by omega
    subst this
    subst h0
    exact Nat.le_refl _
  · have h1 := Nat.log2_self_le h0
    have h2 := Nat.lt_log2_self (n := y)
    have h3 : y.log2 < 64 := (Nat.log2_lt h0).2 hy
    rw [bitLen_eq hy h1 h2]
    exact Lib.bitLen_le x (y.log2 + 1) (by omega) (by omega)
theorem lenG_mono {x y : Int} (h0 : 0 < x) (h : x ≤ y) (hy : y < 18446744073709551616) : lenG x ≤ lenG y := by
  unfold lenG
  rw [if_neg (by omega), if_neg (by omega)]
  have := bitLen_mono (x := x.toNat) (y := y.toNat) (by omega) (by omega)
  omega
theorem lenG_pow {k : Nat} (hk : k ≤ 63) {x : Int} (h0 : 2 ^ k ≤ x) (h1 : x < 2 ^ (k + 1)) : lenG x = 2 * (k : Int) + 1 := by
  have hp : (0 : Int) < 2 ^ k := Int.pow_pos (by decide)
  obtain ⟨x, rfl⟩ := Int.eq_ofNat_of_zero_le (show 0 ≤ x by omega)
  have e0 : 2 ^ k ≤ x := by exact_mod_cast h0
  have e1 : x < 2 ^ (k + 1) := by exact_mod_cast h1
  have hle : 2 ^ (k + 1) ≤ 2 ^ 64 := Nat.pow_le_pow_right (by decide) (by omega)
  unfold lenG
  rw [if_neg (by omega), Int.toNat_natCast, bitLen_eq (by omega) e0 e1]
  omega
set_option maxRecDepth 1000000 in
set_option maxHeartbeats 8000000 in
theorem GammaGrows.walk (P : True) (x y k : Int) (w : World) (w0 : (Lit.int .u64 x).wf = true) (w1 : (Lit.int .u64 y).wf = true) (w2 : (Lit.int .i64 k).wf = true) : Calls Try.prog 10 #[.int .u64 x, .int .u64 y, .int .i64 k] w fun e w' => e = .returned (.bool true) ∧ Below w.heap.size w w' := by
  have HB := Aside0.mk (Below.refl w.heap.size w)
  have hx := wfU64 w0
  have hy := wfU64 w1
  clear w0 w1 w2
  by_cases h1 : x < 1
  · have d1 := decide_eq_true h1
    clear hx hy
    go_enter Try.func10, Try.ntmps10
    go_wp2_with (first
      | (go_at_call 28; refine (law7_begun _).mono ?_; rintro e w11 ⟨rfl, hb⟩; have m2_ := Aside0.mk (below_step HB.out hb); clear HB; have HB := m2_; clear m2_ hb))
    go_ret
    exact ⟨rfl, HB.out⟩
  · have d1 := decide_eq_false h1
    by_cases h2 : y < x
    · have d2 := decide_eq_true h2
      clear hx hy h1
      go_enter Try.func10, Try.ntmps10
      go_wp2_with (first
        | (go_at_call 28; refine (law7_begun _).mono ?_; rintro e w11 ⟨rfl, hb⟩; have m2_ := Aside0.mk (below_step HB.out hb); clear HB; have HB := m2_; clear m2_ hb))
      go_ret
      exact ⟨rfl, HB.out⟩
    · have d2 := decide_eq_false h2
      have GX := Aside0.mk (gamma_Len_f hx.1 hx.2)
      have GY := Aside0.mk (gamma_Len_f hy.1 hy.2)
      have d3 : decide (lenG y < lenG x) = false := decide_eq_false (by have := lenG_mono (x := x) (y := y) (by omega) (by omega) hy.2; omega)
      clear hx hy h1 h2
      by_cases h3 : k < 0 ∨ 63 < k
      · by_cases h4 : k < 0
        · have d4 := decide_eq_true h4
          clear h3
          go_enter Try.func10, Try.ntmps10
          go_wp2_with (first
            | (go_at_call 28; refine (law7_begun _).mono ?_; rintro e w11 ⟨rfl, hb⟩; have m2_ := Aside0.mk (below_step HB.out hb); clear HB; have HB := m2_; clear m2_ hb)
            | (go_at_call 32; (first
                | (with_reducible refine (gamma_Len.calls _ _ _ GX.out).mono ?_)
                | (with_reducible refine (gamma_Len.calls _ _ _ GY.out).mono ?_)); rintro e w9 ⟨rfl, hb⟩; have m2_ := Aside0.mk (below_step HB.out hb); clear HB; have HB := m2_; clear m2_ hb))
          go_ret
          exact ⟨rfl, HB.out⟩
        · have d4 := decide_eq_false h4
          have d5 : decide (63 < k) = true := decide_eq_true (by omega)
          clear h3
          go_enter Try.func10, Try.ntmps10
          go_wp2_with (first
            | (go_at_call 28; refine (law7_begun _).mono ?_; rintro e w11 ⟨rfl, hb⟩; have m2_ := Aside0.mk (below_step HB.out hb); clear HB; have HB := m2_; clear m2_ hb)
            | (go_at_call 32; (first
                | (with_reducible refine (gamma_Len.calls _ _ _ GX.out).mono ?_)
                | (with_reducible refine (gamma_Len.calls _ _ _ GY.out).mono ?_)); rintro e w9 ⟨rfl, hb⟩; have m2_ := Aside0.mk (below_step HB.out hb); clear HB; have HB := m2_; clear m2_ hb))
          go_ret
          exact ⟨rfl, HB.out⟩
      · obtain ⟨k, rfl⟩ := Int.eq_ofNat_of_zero_le (show 0 ≤ k by omega)
        have d4 : decide ((k : Int) < 0) = false := decide_eq_false (by omega)
        have d5 : decide ((63 : Int) < (k : Int)) = false := decide_eq_false (by omega)
        have hk63 : (k : Int) ≤ 63 := by omega
        have hkn : k ≤ 63 := by omega
        obtain ⟨q, hq⟩ : ∃ q : Int, q = 2 ^ k := ⟨_, rfl⟩
        have hq0 : 1 ≤ q := by rw [hq]; have : (0 : Int) < 2 ^ k := Int.pow_pos (by decide); omega
        have hq1 : q ≤ 9223372036854775808 := by
          rw [hq]
          have h1 : (2 : Int) ^ k ≤ 2 ^ 63 := by have := Nat.pow_le_pow_right (n := 2) (by decide) hkn; exact_mod_cast this
          exact h1
        have hsh : IntKind.u64.wrap (2 ^ k) = q := by rw [← hq]; exact u64 (by omega) (by omega)
        obtain ⟨z, hz⟩ : ∃ z : Int, z = q + (q - 1) := ⟨_, rfl⟩
        have hor : Go.bits .or .u64 q (q - 1) = z := by
          rw [hz, hq]
          exact bits_join .u64 64 (by decide) wraps_u64 k (2 ^ k) (2 ^ k - 1) (by rw [← hq]; omega) (Int.emod_self) (by rw [← hq]; omega) (by rw [← hq]; omega) (by omega) (by omega)
        have h2k : (2 : Int) ^ (k + 1) = 2 * q := by rw [Int.pow_succ, ← hq]; omega
        have GQ := Aside0.mk (show gamma_Len.f q = some (2 * (k : Int) + 1) by rw [gamma_Len_f (by omega) (by omega), lenG_pow hkn (by rw [← hq]; exact Int.le_refl _) (by rw [h2k]; omega)])
        have GZ := Aside0.mk (show gamma_Len.f z = some (2 * (k : Int) + 1) by rw [gamma_Len_f (by omega) (by omega), lenG_pow hkn (by rw [← hq, hz]; omega) (by rw [h2k, hz]; omega)])
        clear h3 hq hz h2k hkn
        go_enter Try.func10, Try.ntmps10
        go_wp2_with (first
          | (go_at_call 28; refine (law7_begun _).mono ?_; rintro e w11 ⟨rfl, hb⟩; have m2_ := Aside0.mk (below_step HB.out hb); clear HB; have HB := m2_; clear m2_ hb)
          | (go_at_call 32; (first
              | (with_reducible refine (gamma_Len.calls _ _ _ GX.out).mono ?_)
              | (with_reducible refine (gamma_Len.calls _ _ _ GY.out).mono ?_)
              | (with_reducible refine (gamma_Len.calls _ _ _ GQ.out).mono ?_)
              | (with_reducible refine (gamma_Len.calls _ _ _ GZ.out).mono ?_)); rintro e w9 ⟨rfl, hb⟩; have m2_ := Aside0.mk (below_step HB.out hb); clear HB; have HB := m2_; clear m2_ hb))
        go_ret
        exact ⟨rfl, HB.out⟩
end Go.Proofs.Ytbaopegmdllbeaa.GL
