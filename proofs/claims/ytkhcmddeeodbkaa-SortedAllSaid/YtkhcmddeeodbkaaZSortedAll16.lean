import Derived.Test.YtkhcmddeeodbkaaZSortedAll12
import Derived.Test.YtkhcmddeeodbkaaZSortedAll15
-- Own texts and, of the words that the kit's print program wrote for this claim, those that are needed here: put together by wip/prune.py.
set_option linter.unusedSimpArgs false
set_option linter.unusedVariables false
namespace Go.Proofs.Ytkhcmddeeodbkaa.XSor
open Go.RowKit Go.Proofs.Ytkhcmddeeodbkaa.G Go.Proofs.YtkhcmddeeodbkaaW.PrintWords Go.Proofs.YtkhcmddeeodbkaaW.PrintLast Go.Proofs.YtkhcmddeeodbkaaW.PrintMore
attribute [local go_sem] max2_int min2_int max_two min_two max_three min_three max_four min_four
def loessref6_Gamma.f (k : Nat) (a0 : Int) : Option (List Bool) := if a0 = 0 then (some ([] : List Bool)) else ((loessref6_digits.f k a0).bind fun t406 => (if 0 ≤ (wrap64 (t406 - 1)) then (if (wrap64 (t406 - 1) : Int).toNat ≤ 281474976710656 then ((loessref6_Bits_PutNum.f k (List.replicate (wrap64 (t406 - 1) : Int).toNat false) a0 t406).bind fun t410 => (some t410)) else (none)) else (none)))
theorem loessref6_Gamma.mono : ∀ a0 k, LeO (loessref6_Gamma.f k a0) (loessref6_Gamma.f (k + 1) a0) := by
 intro a0 k
 unfold loessref6_Gamma.f
 repeat' first
     | (with_reducible exact loessref6_Bits_PutNum.mono _ _ _ _)
     | (with_reducible exact loessref6_digits.mono _ _)
     | (with_reducible exact LeO.refl _)
     | (with_reducible exact LeO.none _)
     | (with_reducible refine LeO.ite ?_ ?_)
     | (with_reducible refine LeO.bind ?_ (fun _ => ?_))
     | exact loessref6_Bits_PutNum.mono _ _ _ _
     | exact loessref6_digits.mono _ _
     | exact LeO.none _
     | refine LeO.ite ?_ ?_
     | refine LeO.bind ?_ (fun _ => ?_)
set_option maxHeartbeats 8000000 in
set_option maxRecDepth 100000 in
theorem loessref6_Gamma.calls (k : Nat) (a0 : Int) (r : List Bool) (w : World) (h : loessref6_Gamma.f k a0 = some r) :
    Calls Try.prog 82 #[.int .u64 a0] w fun e w' => ∃ v0_ : Value, e = .returned (v0_) ∧ Kd.R Kd.bool 4 w' w.heap.size (fun _ => True) v0_ r ∧ Below w.heap.size w w' := by
 have HB := Aside0.mk (Below.refl w.heap.size w)
 have H : (if a0 = 0 then (some ([] : List Bool)) else ((loessref6_digits.f k a0).bind fun t406 => (if 0 ≤ (wrap64 (t406 - 1)) then (if (wrap64 (t406 - 1) : Int).toNat ≤ 281474976710656 then ((loessref6_Bits_PutNum.f k (List.replicate (wrap64 (t406 - 1) : Int).toNat false) a0 t406).bind fun t410 => (some t410)) else (none)) else (none)))) = some r := h
 clear h
 by_cases c2 : a0 = 0
 · rw [if_pos c2] at H
   have c2b0 : (a0 == 0) = true := beq_iff_eq.mpr c2
   have c2b1 : (a0 != 0) = false := bne_eq_false_iff_eq.mpr c2
   clear c2
   obtain rfl := Option.some.inj H
   go_enter Try.func82, Try.ntmps82
   go_wp2
   go_ret
   exact ⟨_, by first | rfl | (simp [errW_none, errW_some] <;> rfl) | (simp [*, errW_none, errW_some] <;> rfl), by first | exact Kd.R_nil _ _ _ _ _ | exact Kd.N_nil _ _ _ _ _ | exact Kd.V_nil _ _ _ _ _ | exact Kd.Q_nil _ _ _ _ _ | exact Kd.S_nil _ _ _ _ _, by repeat (first | (with_reducible first | exact HB.out | apply below_alloc | apply pw_below_drewN | apply below_drew1) | exact HB.out)⟩
 · rw [if_neg c2] at H
   have c2b0 : (a0 == 0) = false := beq_eq_false_iff_ne.mpr c2
   have c2b1 : (a0 != 0) = true := bne_iff_ne.mpr c2
   replace H := Option.bind_eq_some_iff.mp H
   obtain ⟨t406, A30, H⟩ := H
   replace H : (if 0 ≤ (wrap64 (t406 - 1)) then (if (wrap64 (t406 - 1) : Int).toNat ≤ 281474976710656 then ((loessref6_Bits_PutNum.f k (List.replicate (wrap64 (t406 - 1) : Int).toNat false) a0 t406).bind fun t410 => (some t410)) else (none)) else (none)) = some r := H
   have A3 := Aside0.mk A30
   clear A30
   obtain ⟨ji4, hji4⟩ : ∃ j_ : Int, (wrap64 (t406 - 1)) = j_ := ⟨_, rfl⟩
   replace H : (if 0 ≤ (ji4) then (if (ji4 : Int).toNat ≤ 281474976710656 then ((loessref6_Bits_PutNum.f k (List.replicate (ji4 : Int).toNat false) a0 t406).bind fun t410 => (some t410)) else (none)) else (none)) = some r := by first | (rw [hji4] at H; exact H) | (simp only [hji4] at H ⊢; exact H)
   (try rw [hji4] at A3)
   have hji4w : (IntKind.i64.wrap (t406 - 1)) = ji4 := (i64_w _).trans hji4
   by_cases c5 : 0 ≤ (ji4)
   · rw [if_pos c5] at H
     have c5b0 := eq_true c5
     have c5b1 : decide (0 ≤ (ji4)) = true := decide_eq_true c5
     clear c5
     by_cases c6 : (ji4 : Int).toNat ≤ 281474976710656
     · rw [if_pos c6] at H
       have c6b0 := eq_true c6
       have c6b1 : decide ((ji4 : Int).toNat ≤ 281474976710656) = true := decide_eq_true c6
       clear c6
       obtain ⟨y407, hy407⟩ : ∃ y_ : List Bool, y_ = (List.replicate (ji4 : Int).toNat false) := ⟨_, rfl⟩
       replace H : ((loessref6_Bits_PutNum.f k y407 a0 t406).bind fun t410 => (some t410)) = some r := by first | (rw [hy407]; with_reducible exact H) | (have H2_ := (Option.bind_some _ _).symm.trans H; rw [hy407]; with_reducible exact H2_) | (have H2_ := (Option.bind_some _ _).symm.trans H; with_reducible exact H2_) | with_reducible exact H | (rw [hy407]; exact H) | exact H
       have Ny407 := Aside0.mk hy407
       clear hy407
       replace H := Option.bind_eq_some_iff.mp H
       obtain ⟨t410, A70, H⟩ := H
       replace H : (some t410) = some r := H
       have A7 := Aside0.mk A70
       clear A70
       obtain rfl := Option.some.inj H
       go_enter Try.func82, Try.ntmps82
       go_wp2_with (first | ((with_reducible refine gate_callee (f := 87) rfl ?_); refine goesL_ (some 7) rfl rfl Try.func87 (by kernel_rfl) rfl #[.int .u64 a0] rfl (by (try simp only [List.map_toArray, List.map_cons, List.map_nil]); first | done | rfl | (simp only [List.length_drop, List.length_take]; rfl)) ?_; (with_reducible refine (loessref6_digits.calls k a0 t406 _ A3.out).mono ?_); rintro e w' ⟨rfl, ⟨nd, rfl⟩⟩; refine ⟨_, rfl, ?_⟩) | ((with_reducible refine gate_dst (N := 10) rfl ?_); refine Kd.R_make Kd.bool _ 4 rfl (N := 10) rfl 113 _ _ rfl ji4 rfl rfl Try.underlying113 (.bool false) 1 info4 rfl (by decide) (by omega) false (ok := fun _ => True) (okp := fun _ => True) rfl (fun _ hk => hk) trivial (of_decide_eq_true (by first | (with_reducible assumption) | assumption)) (Nat.le_trans (Nat.mul_le_mul_right _ (of_decide_eq_true (by first | (with_reducible assumption) | assumption) : ji4.toNat ≤ 281474976710656)) (by omega)) (Below.refl _ _) (Nat.le_refl _) ?_; intro v408 w8 ho9 hb hg_ hnew_; clear hg_ hnew_; (first | rw [← Ny407.out] at ho9 | (simp only [Int.reduceToNat] at ho9; rw [← Ny407.out] at ho9)); have n0_ := Aside0.mk (Kd.R_lower ho9 (below_size (by repeat (first | (with_reducible first | exact HB.out | apply below_alloc | apply pw_below_drewN | apply below_drew1) | exact HB.out)))); have n1_ := Aside0.mk (below_step (by repeat (first | (with_reducible first | exact HB.out | apply below_alloc | apply pw_below_drewN | apply below_drew1) | exact HB.out)) hb); clear HB; have HO409 := n0_; have HB := n1_; clear n0_ n1_; clear hb ho9; obtain ⟨Ao10, co10, eo10⟩ := Kd.R_slice HO409.out; subst eo10) | ((with_reducible refine gate_callee (f := 88) rfl ?_); refine goesL_ (some 13) rfl rfl Try.func88 (by kernel_rfl) rfl #[.slice Ao10 y407.length co10, .int .u64 a0, .int .i64 t406] rfl (by (try simp only [List.map_toArray, List.map_cons, List.map_nil]); first | done | rfl | (simp only [List.length_drop, List.length_take]; rfl)) ?_; (with_reducible refine (loessref6_Bits_PutNum.calls k _ _ y407 a0 t406 t410 _ ?side1 ?side2 A7.out).mono ?_); (case side1 => repeat (first | exact (Kd.R_reads' HO409.out).2.2 | (with_reducible refine Kd.C_alloc ?_ _) | (with_reducible refine Kd.C_drewN ?_ _) | (with_reducible refine Kd.C_drew ?_))); (case side2 => exact (Kd.R_reads' HO409.out).2.1); rintro e w11 ⟨v411, rfl, ho0, hb⟩; refine ⟨_, rfl, ?_⟩; have n0_ := Aside0.mk (Kd.R_elder' (by (with_reducible repeat (first | apply Kd.R_alloc | apply Kd.R_drewN | apply Kd.R_drew)); exact HO409.out) (Kd.R_base ho0) hb); have n1_ := Aside0.mk (Kd.R_lower (Kd.R_new' ho0 (Kd.R_lt (by (with_reducible repeat (first | apply Kd.R_alloc | apply Kd.R_drewN | apply Kd.R_drew)); exact HO409.out))) (below_size (by repeat (first | (with_reducible first | exact HB.out | apply below_alloc | apply pw_below_drewN | apply below_drew1) | exact HB.out)))); have n2_ := Aside0.mk (below_step (by repeat (first | (with_reducible first | exact HB.out | apply below_alloc | apply pw_below_drewN | apply below_drew1) | exact HB.out)) hb); clear HO409; clear HB; have HO409 := n0_; have HO412 := n1_; have HB := n2_; clear n0_ n1_ n2_; (try clear hb); (try clear hb2); (try clear hk); (try clear hi); (try clear ho0)))
       go_ret
       exact ⟨_, by first | rfl | (simp [errW_none, errW_some] <;> rfl) | (simp only [← hji4]; first | rfl | (simp [errW_none, errW_some] <;> rfl)) | (simp [*, errW_none, errW_some] <;> rfl), by (with_reducible repeat (first | apply Kd.R_alloc | apply Kd.R_drewN | apply Kd.R_drew)); exact Kd.R_mono HO412.out (fun _ hk => trivial), by repeat (first | (with_reducible first | exact HB.out | apply below_alloc | apply pw_below_drewN | apply below_drew1) | exact HB.out)⟩
     · rw [if_neg c6] at H
       exact absurd H (by simp)
   · rw [if_neg c5] at H
     exact absurd H (by simp)
end Go.Proofs.Ytkhcmddeeodbkaa.XSor
namespace Go.Proofs.Ytkhcmddeeodbkaa.GL
open Go.RowKit Go.Proofs.YtkhcmddeeodbkaaW.PrintWords Go.Proofs.YtkhcmddeeodbkaaW.PrintMore Go.Proofs.Ytkhcmddeeodbkaa.Q Go.Proofs.Ytkhcmddeeodbkaa.XSor Go.Proofs.Ytkhcmddeeodbkaa.G
theorem mod_pow_succ (x : Int) (n : Nat) : x % 2 ^ (n + 1) = (x / 2 ^ n % 2) * 2 ^ n + x % 2 ^ n := by
 have hp : (0 : Int) < 2 ^ n := Int.pow_pos (by decide)
 have h1 := Int.mul_ediv_add_emod x (2 ^ n)
 have h2 := Int.mul_ediv_add_emod (x / 2 ^ n) 2
 have h0 := Int.emod_nonneg x (show (2 : Int) ^ n ≠ 0 by omega)
 have h3 := Int.emod_lt_of_pos x hp
 have e : x = (x / 2 ^ n / 2) * 2 ^ (n + 1) + ((x / 2 ^ n % 2) * 2 ^ n + x % 2 ^ n) := by
  rw [Int.pow_succ]
  generalize hA : x / 2 ^ n = A at *
  generalize hB : (2 : Int) ^ n = B at *
  generalize hC : A / 2 = C at *
  generalize hD : A % 2 = D at *
  have : C * (B * 2) + (D * B + x % B) = B * (2 * C + D) + x % B := by
   rw [Int.mul_add, ← Int.mul_assoc B 2 C, Int.mul_comm (B * 2) C, Int.mul_comm B D]
   omega
  rw [this, h2]
  exact h1.symm
 have hb : 0 ≤ (x / 2 ^ n % 2) * 2 ^ n + x % 2 ^ n ∧ (x / 2 ^ n % 2) * 2 ^ n + x % 2 ^ n < 2 ^ (n + 1) := by
  rw [Int.pow_succ]
  rcases (show x / 2 ^ n % 2 = 0 ∨ x / 2 ^ n % 2 = 1 by omega) with h | h <;> rw [h] <;> omega
 have : x % 2 ^ (n + 1) = ((x / 2 ^ n / 2) * 2 ^ (n + 1) + ((x / 2 ^ n % 2) * 2 ^ n + x % 2 ^ n)) % 2 ^ (n + 1) := by rw [← e]
 rw [this, Int.add_comm, Int.add_mul_emod_self_right, Int.emod_eq_of_lt hb.1 hb.2]
theorem fold_numBits (x : Int) : ∀ (n : Nat) (a : Int), (numBits x n).foldl (fun a b => 2 * a + if b = true then 1 else 0) a = a * 2 ^ n + x % 2 ^ n := by
 intro n
 induction n with
 | zero => intro a; simp [numBits]
 | succ n ih =>
   intro a
   rw [numBits, List.foldl_cons, ih, mod_pow_succ, Int.pow_succ]
   rcases (show x / 2 ^ n % 2 = 0 ∨ x / 2 ^ n % 2 = 1 by omega) with h | h
   · rw [h]
     simp only [beq_iff_eq, show ¬ ((0 : Int) = 1) by decide, if_false]
     rw [Int.add_zero, Int.zero_mul, Int.zero_add, Int.mul_comm 2 a, Int.mul_assoc, Int.mul_comm 2 (2 ^ n)]
   · rw [h]
     simp only [beq_self_eq_true, if_true]
     rw [Int.add_mul, Int.one_mul, Int.mul_comm 2 a, Int.mul_assoc, Int.mul_comm 2 (2 ^ n)]
     omega
theorem numOf_numBits (x : Int) (n : Nat) : numOf (numBits x n) = x % 2 ^ n := by
 unfold numOf
 rw [fold_numBits]
 omega
theorem numAt_mid (A B : List Bool) (x : Int) (n : Nat) (hn : n ≤ 64) : numAt (A ++ numBits x n ++ B) (A.length : Int) (n : Int) = some (x % 2 ^ n) := by
 unfold numAt
 rw [if_pos ⟨by omega, by omega, by omega, by rw [List.length_append, List.length_append, numBits_len]; omega⟩, Int.toNat_natCast, Int.toNat_natCast, List.append_assoc, List.drop_left,
  List.take_append_of_le_length (by rw [numBits_len]; omega), List.take_of_length_le (by rw [numBits_len]; omega), numOf_numBits]
theorem numBits_zero : ∀ n, numBits 0 n = List.replicate n false
 | 0 => rfl
 | n + 1 => by rw [numBits, numBits_zero n, List.replicate_succ]; simp
theorem zeros_rep (B : List Bool) : ∀ (k m : Nat), k < m → zeros (List.replicate k false ++ true :: B) m = k
 | 0, m + 1, _ => by simp [zeros]
 | k + 1, m + 1, h => by rw [List.replicate_succ, List.cons_append, zeros]; simp [zeros_rep B k m (by omega)]
theorem bitLen_pow {x : Nat} (h0 : x ≠ 0) (hx : x < 2 ^ 64) : 2 ^ (Lib.bitLen x - 1) ≤ x ∧ x < 2 ^ Lib.bitLen x := by
 have h1 := Nat.log2_self_le h0
 have h2 := Nat.lt_log2_self (n := x)
 have e : Lib.bitLen x = x.log2 + 1 := by
  rw [Lib.bitLen_shift x.log2 x h1 hx]
  have e : x / 2 ^ x.log2 = 1 := by
   have hp := Nat.two_pow_pos x.log2
   apply Nat.le_antisymm
   · have := (Nat.div_lt_iff_lt_mul hp (x := x) (y := 2)).2 (by rw [Nat.pow_succ] at h2; omega)
     omega
   · exact (Nat.le_div_iff_mul_le hp).2 (by omega)
  rw [e]
  rfl
 rw [e]
 exact ⟨h1, h2⟩
theorem getG_mid (A B : List Bool) (x : Int) (h0 : 0 < x) (h1 : x < 18446744073709551616) : getG (A ++ gammaBits x ++ B) (A.length : Int) = some (x, (A.length : Int) + ((gammaBits x).length : Int)) := by
 obtain ⟨k, hk⟩ : ∃ k, k = Lib.bitLen x.toNat := ⟨_, rfl⟩
 have hkp : 0 < k := by rw [hk]; exact bitLen_pos (by omega)
 have hk64 : k ≤ 64 := by rw [hk]; exact Lib.bitLen_le x.toNat 64 (Nat.le_refl _) (by omega)
 have hpw := bitLen_pow (x := x.toNat) (by omega) (by omega)
 rw [← hk] at hpw
 have hp0 : (2 : Int) ^ (k - 1) ≤ x := by
  have h2 : ((2 ^ (k - 1) : Nat) : Int) ≤ (x.toNat : Int) := by have := hpw.1; omega
  rw [Int.toNat_of_nonneg (by omega)] at h2
  exact_mod_cast h2
 have hp1 : x < (2 : Int) ^ k := by
  have h2 : (x.toNat : Int) < ((2 ^ k : Nat) : Int) := by have := hpw.2; omega
  rw [Int.toNat_of_nonneg (by omega)] at h2
  exact_mod_cast h2
 have hg : gammaBits x = List.replicate (k - 1) false ++ numBits x k := by rw [gammaBits, if_neg (by omega), ← hk, numBits_zero]
 have htop : ∃ R, numBits x k = true :: R := by
  obtain ⟨m, rfl⟩ : ∃ m, k = m + 1 := ⟨k - 1, by omega⟩
  refine ⟨numBits x m, ?_⟩
  rw [numBits]
  have hq : (0 : Int) < 2 ^ m := Int.pow_pos (by decide)
  have e : x / 2 ^ m = 1 := by
   rw [Nat.add_sub_cancel] at hp0
   apply Int.le_antisymm
   · have := Int.ediv_lt_of_lt_mul hq (show x < 2 * 2 ^ m by rw [Int.pow_succ] at hp1; omega)
     omega
   · exact Int.le_ediv_of_mul_le hq (by omega)
  rw [e]
  rfl
 obtain ⟨R, hR⟩ := htop
 have hz : zeros ((A ++ gammaBits x ++ B).drop A.length) 64 = k - 1 := by
  rw [List.append_assoc, List.drop_left, hg, hR, List.append_assoc, List.cons_append]
  exact zeros_rep _ _ _ (by omega)
 unfold getG
 rw [if_neg (by omega), Int.toNat_natCast, hz, if_neg (by omega)]
 have ha : (A.length : Int) + ((k - 1 : Nat) : Int) = ((A ++ List.replicate (k - 1) false).length : Int) := by rw [List.length_append, List.length_replicate]; omega
 have hn : (((k - 1 : Nat) : Int) + 1) = (k : Int) := by omega
 rw [ha, hn, hg, ← List.append_assoc, numAt_mid _ B x k hk64, Int.emod_eq_of_lt (by omega) hp1]
 simp only [Option.map_some, List.length_append, List.length_replicate, numBits_len]
 congr 2
 omega
theorem digits_l0 : ∀ (d : Nat) (x : Nat) (n : Nat), x < 2 ^ d → d ≤ 64 → n + d < 1000 → Ev (fun r => loessref6_digits.l0 r (x : Int) (n : Int)) (((n + Lib.bitLen x : Nat)) : Int) := by
 intro d
 induction d with
 | zero =>
   intro x n hx _ _
   obtain rfl : x = 0 := by omega
   refine Ev.step (f := fun _ => some ((n : Int))) (fun r => ?_) (evEq (Ev.now _) rfl)
   simp only [loessref6_digits.l0]
   rw [if_neg (by omega)]
 | succ d ih =>
   intro x n hx hd hn
   by_cases h0 : x = 0
   · subst h0
     refine Ev.step (f := fun _ => some ((n : Int))) (fun r => ?_) (evEq (Ev.now _) rfl)
     simp only [loessref6_digits.l0]
     rw [if_neg (by omega)]
   · have h64 : x < 2 ^ 64 := Nat.lt_of_lt_of_le hx (Nat.pow_le_pow_right (by decide) hd)
     have hb := Lib.bitLen_half x h0 h64
     have hq : (x : Int) / 2 = ((x / 2 : Nat) : Int) := by omega
     have hpos : (x : Int) > 0 := by omega
     have h1 := ih (x / 2) (n + 1) (by rw [Nat.pow_succ] at hx; omega) (by omega) (by omega)
     have hw : wrap64 ((n : Int) + 1) = ((n + 1 : Nat) : Int) := by rw [w64 (by omega) (by omega)]; rfl
     refine evEq (Ev.step (f := fun r => loessref6_digits.l0 r ((x / 2 : Nat) : Int) ((n + 1 : Nat) : Int)) (fun r => ?_) h1) ?_
     · simp only [loessref6_digits.l0]
       rw [if_pos hpos, hq, hw]
     · rw [hb]
       congr 1
       omega
theorem digits_ev {x : Int} (h0 : 0 ≤ x) (h1 : x < 18446744073709551616) : Ev (fun r => loessref6_digits.f r x) (Lib.bitLen x.toNat : Int) := by
 obtain ⟨x, rfl⟩ := Int.eq_ofNat_of_zero_le h0
 unfold loessref6_digits.f
 have := digits_l0 64 x 0 (by omega) (Nat.le_refl _) (by omega)
 rw [Nat.zero_add] at this
 exact this
theorem put_l0 (x : Int) (h0 : 0 ≤ x) (h1 : x < 18446744073709551616) : ∀ (n : Nat) (L : List Bool), n ≤ 64 → L.length + n < 100000000000 → Ev (fun r => loessref6_Bits_PutNum.l0 r x L ((n : Int) - 1)) (L ++ numBits x n) := by
 intro n
 induction n with
 | zero =>
   intro L _ _
   refine Ev.step (f := fun _ => some L) (fun r => ?_) (evEq (Ev.now _) (by simp [numBits]))
   simp only [loessref6_Bits_PutNum.l0]
   rw [if_neg (by omega)]
 | succ n ih =>
   intro L hn hL
   have e : ((n + 1 : Nat) : Int) - 1 = (n : Int) := by omega
   have h3 := ih (L ++ [x / 2 ^ n % 2 == 1]) (by omega) (by rw [List.length_append, List.length_singleton]; omega)
   rw [List.append_assoc] at h3
   have hge : (n : Int) ≥ 0 := by omega
   have hlt : L.length < 140737488355328 := by omega
   have hmin : min (n : Int).toNat 64 = n := by omega
   have hu : IntKind.u64.wrap (n : Int) = (n : Int) := u64 (by omega) (by omega)
   have hw : wrap64 ((n : Int) - 1) = (n : Int) - 1 := w64 (by omega) (by omega)
   have hs : shr .u64 x (n : Int) = x / 2 ^ n := by
    unfold shr
    rw [show IntKind.u64.bits = 64 from rfl, hmin]
   rw [e]
   refine Ev.step (f := fun r => loessref6_Bits_PutNum.l0 r x (L ++ [x / 2 ^ n % 2 == 1]) ((n : Int) - 1)) (fun r => ?_) h3
   simp only [loessref6_Bits_PutNum.l0]
   rw [if_pos hge, hu, if_pos hge, if_pos hlt, hs, and1_shr n h0 h1, hw]
theorem putNum_ev (L : List Bool) (x : Int) (n : Nat) (h0 : 0 ≤ x) (h1 : x < 18446744073709551616) (hn : n ≤ 64) (hL : L.length < 10000000000) : Ev (fun r => loessref6_Bits_PutNum.f r L x (n : Int)) (L ++ numBits x n) := by
 have h3 := put_l0 x h0 h1 n L hn (by omega)
 have e0 : ([] : List Bool).length + L.length < 140737488355328 := by simp; omega
 have e1 : ¬ (n : Int) < 0 := by omega
 have e2 : decide ((n : Int) > 64) = false := decide_eq_false (by omega)
 have hw : wrap64 ((n : Int) - 1) = (n : Int) - 1 := w64 (by omega) (by omega)
 unfold loessref6_Bits_PutNum.f
 simp only [if_pos e0, Option.bind_some, List.nil_append, if_neg e1, e2]
 refine Ev.step (f := fun r => loessref6_Bits_PutNum.l0 r x L ((n : Int) - 1)) (fun r => ?_) h3
 simp only [loessref6_Bits_PutNum.j0]
 rw [if_neg (by simp), hw]
theorem gamma_ev {x : Int} (h0 : 0 ≤ x) (h1 : x < 18446744073709551616) : Ev (fun r => loessref6_Gamma.f r x) (gammaBits x) := by
 unfold loessref6_Gamma.f gammaBits
 by_cases hx : x = 0
 · simp only [if_pos hx]
   exact Ev.now _
 · simp only [if_neg hx]
   have hb := Lib.bitLen_le x.toNat 64 (Nat.le_refl _) (by omega)
   have hp := bitLen_pos (n := x.toNat) (by omega)
   obtain ⟨k, hk⟩ : ∃ k, k = Lib.bitLen x.toNat := ⟨_, rfl⟩
   have hd := digits_ev h0 h1
   rw [← hk] at hb hp hd ⊢
   have hw : wrap64 ((k : Int) - 1) = ((k - 1 : Nat) : Int) := by rw [w64 (by omega) (by omega)]; omega
   have e1 : (0 : Int) ≤ ((k - 1 : Nat) : Int) := by omega
   have e2 : ((k - 1 : Nat) : Int).toNat ≤ 281474976710656 := by omega
   refine Ev.bind hd ?_
   have h3 := putNum_ev (List.replicate (k - 1) false) x k h0 h1 hb (by rw [List.length_replicate]; omega)
   rw [numBits_zero]
   refine Ev.congr (f := fun r => (loessref6_Bits_PutNum.f r (List.replicate (k - 1) false) x (k : Int)).bind fun t => some t) (fun r => ?_) (Ev.bind h3 (Ev.now _))
   rw [hw, if_pos e1, if_pos e2]
   rfl
end Go.Proofs.Ytkhcmddeeodbkaa.GL
namespace Go.Proofs.Ytkhcmddeeodbkaa.GL
open Go.RowKit Go.Proofs.YtkhcmddeeodbkaaW.PrintWords Go.Proofs.YtkhcmddeeodbkaaW.PrintMore Go.Proofs.Ytkhcmddeeodbkaa.Q Go.Proofs.Ytkhcmddeeodbkaa.XSor
theorem treeG_s {k : Nat} {ls : List Int} (h : ¬ ls.length < 2) : treeG (k + 1) ls = gammaBits ((lead k ls : Int) + 1) ++ treeG k (ls.take (lead k ls)) ++ treeG k (ls.drop (lead k ls)) := if_neg h
theorem skipT_sh {L : List Bool} (k : Nat) {at_ n : Int} (h : n < 2) : skipT L k at_ n = some at_ := by cases k <;> exact if_pos h
theorem skipT_l {L : List Bool} {k : Nat} {at_ n : Int} (h : ¬ n < 2) : skipT L (k + 1) at_ n = match readT L at_ n with
    | none => none
    | some (l, e) => match skipT L k e l with
      | none => none
      | some t => skipT L k t (n - l) := if_neg h
theorem read_tree (A B : List Bool) (m : Nat) (n : Int) (hm : (m : Int) ≤ n) (hn : n ≤ 4096) : readT (A ++ gammaBits ((m : Int) + 1) ++ B) (A.length : Int) n = some ((m : Int), ((A ++ gammaBits ((m : Int) + 1)).length : Int)) := by
 unfold readT
 rw [getG_mid A B ((m : Int) + 1) (by omega) (by omega)]
 show (if n < (m : Int) + 1 - 1 then none else some ((m : Int) + 1 - 1, (A.length : Int) + ((gammaBits ((m : Int) + 1)).length : Int))) = _
 rw [if_neg (by omega), List.length_append, Int.add_sub_cancel]
 rfl
theorem skip_tree : ∀ (k : Nat) (ls : List Int) (A B : List Bool), ls.length ≤ 4096 → OkT k ls → skipT (A ++ treeG k ls ++ B) k (A.length : Int) (ls.length : Int) = some ((A.length : Int) + ((treeG k ls).length : Int)) := by
 intro k
 induction k with
 | zero =>
   intro ls A B _ hok
   have h := hok.zero
   rw [skipT_sh 0 (by omega), treeG_short 0 h]
   simp
 | succ k ih =>
   intro ls A B hl hok
   by_cases h : ls.length < 2
   · rw [skipT_sh _ (by omega), treeG_short _ h]
     simp
   · have hs := (lead_spec k ls).1
     have e : A ++ treeG (k + 1) ls ++ B = A ++ gammaBits ((lead k ls : Int) + 1) ++ (treeG k (ls.take (lead k ls)) ++ treeG k (ls.drop (lead k ls)) ++ B) := by rw [treeG_s h]; simp [List.append_assoc]
     have h1 := ih (ls.take (lead k ls)) (A ++ gammaBits ((lead k ls : Int) + 1)) (treeG k (ls.drop (lead k ls)) ++ B) (by rw [List.length_take]; omega) hok.take
     have h2 := ih (ls.drop (lead k ls)) (A ++ gammaBits ((lead k ls : Int) + 1) ++ treeG k (ls.take (lead k ls))) B (by rw [List.length_drop]; omega) hok.drop
     rw [List.length_take, Nat.min_eq_left hs] at h1
     rw [List.length_drop] at h2
     have e1 : A ++ gammaBits ((lead k ls : Int) + 1) ++ treeG k (ls.take (lead k ls)) ++ (treeG k (ls.drop (lead k ls)) ++ B) = A ++ gammaBits ((lead k ls : Int) + 1) ++ (treeG k (ls.take (lead k ls)) ++ treeG k (ls.drop (lead k ls)) ++ B) := by simp [List.append_assoc]
     have e2 : A ++ gammaBits ((lead k ls : Int) + 1) ++ treeG k (ls.take (lead k ls)) ++ treeG k (ls.drop (lead k ls)) ++ B = A ++ gammaBits ((lead k ls : Int) + 1) ++ (treeG k (ls.take (lead k ls)) ++ treeG k (ls.drop (lead k ls)) ++ B) := by simp [List.append_assoc]
     rw [e1] at h1
     rw [e2] at h2
     rw [e, skipT_l (by omega), read_tree _ _ _ _ (by omega) (by omega)]
     simp only [h1]
     have e3 : ((A ++ gammaBits ((lead k ls : Int) + 1)).length : Int) + ((treeG k (ls.take (lead k ls))).length : Int) = ((A ++ gammaBits ((lead k ls : Int) + 1) ++ treeG k (ls.take (lead k ls))).length : Int) := by rw [List.length_append (bs := treeG k (ls.take (lead k ls)))]; rfl
     have e4 : (ls.length : Int) - (lead k ls : Int) = ((ls.length - lead k ls : Nat) : Int) := by omega
     rw [e3, e4, h2, treeG_s h]
     simp only [List.length_append, Option.some.injEq]
     omega
theorem ok_bit {k : Nat} {ls : List Int} (h : OkT (k + 1) ls) {i : Nat} (hi : i < ls.length) (hl : lead k ls ≤ i) : bitT ls[i] k = true := by
 obtain ⟨hp, c, hc⟩ := h
 obtain ⟨h1, h2, h3⟩ := lead_spec k ls
 have hb := h3 (by omega)
 rw [List.getD_eq_getElem?_getD, List.getElem?_eq_getElem (by omega), Option.getD_some] at hb
 have h4 := bitT_true hb
 rw [hc _ (List.getElem_mem _)] at h4
 have h5 := hc ls[i] (List.getElem_mem _)
 have h6 : ls[lead k ls]'(by omega) ≤ ls[i] := by
  rcases Nat.eq_or_lt_of_le hl with he | hlt
  · subst he; exact Int.le_refl _
  · exact Int.le_of_lt (List.pairwise_iff_getElem.1 hp _ _ (by omega) (by omega) hlt)
 have h7 := mono_div k h6
 rw [half] at h5
 unfold bitT
 have : ls[i] / 2 ^ k % 2 = 1 := by omega
 rw [this]
 rfl
theorem rank_tree : ∀ (k : Nat) (ls : List Int) (A B : List Bool) (i : Nat) (a h : Int), ls[i]? = some h → ls.length ≤ 4096 → OkT k ls → rankT (A ++ treeG k ls ++ B) h k (A.length : Int) (ls.length : Int) a = some (a + (i : Int)) := by
 intro k
 induction k with
 | zero =>
   intro ls A B i a h hih _ hok
   obtain ⟨hi, _⟩ := List.getElem?_eq_some_iff.1 hih
   have h := hok.zero
   have e1 : ls.length = 1 := by omega
   obtain rfl : i = 0 := by omega
   have e2 : (ls.length : Int) = 1 := by omega
   rw [e2, rankT_1]
   simp
 | succ k ih =>
   intro ls A B i a y hih hl hok
   obtain ⟨hi, hy⟩ := List.getElem?_eq_some_iff.1 hih
   by_cases h : ls.length < 2
   · obtain rfl : i = 0 := by omega
     have e2 : (ls.length : Int) = 1 := by omega
     rw [e2, rankT_1]
     simp
   · have hs := (lead_spec k ls).1
     have hb := (lead_spec k ls).2.1
     have e : A ++ treeG (k + 1) ls ++ B = A ++ gammaBits ((lead k ls : Int) + 1) ++ (treeG k (ls.take (lead k ls)) ++ treeG k (ls.drop (lead k ls)) ++ B) := by rw [treeG_s h]; simp [List.append_assoc]
     have e1 : A ++ gammaBits ((lead k ls : Int) + 1) ++ treeG k (ls.take (lead k ls)) ++ (treeG k (ls.drop (lead k ls)) ++ B) = A ++ gammaBits ((lead k ls : Int) + 1) ++ (treeG k (ls.take (lead k ls)) ++ treeG k (ls.drop (lead k ls)) ++ B) := by simp [List.append_assoc]
     have e2 : A ++ gammaBits ((lead k ls : Int) + 1) ++ treeG k (ls.take (lead k ls)) ++ treeG k (ls.drop (lead k ls)) ++ B = A ++ gammaBits ((lead k ls : Int) + 1) ++ (treeG k (ls.take (lead k ls)) ++ treeG k (ls.drop (lead k ls)) ++ B) := by simp [List.append_assoc]
     rw [e, rankT_s (by omega), read_tree _ _ _ _ (by omega) (by omega)]
     by_cases hlt : i < lead k ls
     · have hbf := hb i hlt
       rw [List.getD_eq_getElem?_getD, hih, Option.getD_some] at hbf
       have h1 := ih (ls.take (lead k ls)) (A ++ gammaBits ((lead k ls : Int) + 1)) (treeG k (ls.drop (lead k ls)) ++ B) i a y (by rw [List.getElem?_take_of_lt hlt]; exact hih) (by rw [List.length_take]; omega) hok.take
       rw [List.length_take, Nat.min_eq_left hs, e1] at h1
       simp only [hbf]
       exact h1
     · have hbt := ok_bit hok hi (by omega)
       rw [hy] at hbt
       have h0 := skip_tree k (ls.take (lead k ls)) (A ++ gammaBits ((lead k ls : Int) + 1)) (treeG k (ls.drop (lead k ls)) ++ B) (by rw [List.length_take]; omega) hok.take
       rw [List.length_take, Nat.min_eq_left hs, e1] at h0
       have h2 := ih (ls.drop (lead k ls)) (A ++ gammaBits ((lead k ls : Int) + 1) ++ treeG k (ls.take (lead k ls))) B (i - lead k ls) (a + (lead k ls : Int)) y (by rw [List.getElem?_drop, show lead k ls + (i - lead k ls) = i by omega]; exact hih) (by rw [List.length_drop]; omega) hok.drop
       have e3 : ((A ++ gammaBits ((lead k ls : Int) + 1)).length : Int) + ((treeG k (ls.take (lead k ls))).length : Int) = ((A ++ gammaBits ((lead k ls : Int) + 1) ++ treeG k (ls.take (lead k ls))).length : Int) := by rw [List.length_append (bs := treeG k (ls.take (lead k ls)))]; rfl
       have e4 : (ls.length : Int) - (lead k ls : Int) = ((ls.length - lead k ls : Nat) : Int) := by omega
       rw [List.length_drop, e2] at h2
       simp only [hbt, h0, e3, e4, h2]
       rw [if_pos trivial]
       congr 1
       omega
theorem rank_found {ls : List Int} {i : Nat} (hi : i < ls.length) (hl : ls.length ≤ 4096) (hp : ls.Pairwise (· < ·)) (hu : U64s ls) : rankI (treeG 64 ls) ls[i] (ls.length : Int) = some (i : Int) := by
 unfold rankI
 rw [if_neg (by omega)]
 have := rank_tree 64 ls [] [] i 0 ls[i] (List.getElem?_eq_getElem hi) hl (OkT.all hp hu)
 simpa using this
theorem rank_rng {L : List Bool} {h : Int} : ∀ (k : Nat) (at_ n a r : Int), 0 ≤ n → rankT L h k at_ n a = some r → a ≤ r ∧ r < a + n := by
 intro k
 induction k with
 | zero =>
   intro at_ n a r hn h
   rw [rankT] at h
   split at h
   · cases h
   · split at h
     · injection h with h; omega
     · cases h
 | succ k ih =>
   intro at_ n a r hn hr
   by_cases hz : n = 0
   · subst hz; rw [rankT_0] at hr; cases hr
   · by_cases ho : n = 1
     · subst ho; rw [rankT_1] at hr; injection hr with hr; omega
     · rw [rankT_s (by omega)] at hr
       cases hrd : readT L at_ n with
       | none => rw [hrd] at hr; cases hr
       | some le =>
         obtain ⟨l, e⟩ := le
         rw [hrd] at hr
         have hsp := readT_spec hrd
         by_cases hb : bitT h k = true
         · simp only [if_pos hb] at hr
           cases hs : skipT L k e l with
           | none => simp only [hs] at hr; cases hr
           | some t =>
             simp only [hs] at hr
             have := ih t (n - l) (a + l) r (by omega) hr
             omega
         · simp only [if_neg hb] at hr
           have := ih e l a r (by omega) hr
           omega
end Go.Proofs.Ytkhcmddeeodbkaa.GL
namespace Go.Proofs.Ytkhcmddeeodbkaa.GL
open Go.RowKit Go.Proofs.YtkhcmddeeodbkaaW.PrintWords Go.Proofs.YtkhcmddeeodbkaaW.PrintMore Go.Proofs.Ytkhcmddeeodbkaa.Q Go.Proofs.Ytkhcmddeeodbkaa.XSor
def treeOf (L : List Pr) : List Bool := treeG 64 (hsL L)
def likeL (L : List Pr) (k : ByteArray) : List Pr := match rankI (treeOf L) (H k) ((hsL L).length : Int) with
 | none => []
 | some q => ofH L ((hsL L).getD q.toNat 0)
theorem rankI_bd {L : List Pr} {h q : Int} (e : rankI (treeOf L) h ((hsL L).length : Int) = some q) : 0 ≤ q ∧ q.toNat < (hsL L).length := by
 unfold rankI at e
 split at e
 · cases e
 · have := rank_rng 64 0 _ 0 q (by omega) e
   omega
theorem tree_build {L : List Pr} (hs : SortH L) (hl : L.length ≤ 1000) : buildT (hsL L) = some (treeOf L) := if_pos ⟨by have := hsL_len_le L; omega, (hsL_inv L hs).1⟩
theorem tree_len {L : List Pr} (hl : L.length ≤ 1000) : (treeOf L).length < 100000000000 := by
 have := hsL_len_le L
 have h2 := treeG_le 64 (hsL L) (by omega)
 unfold treeOf
 omega
theorem hs_u64 {L : List Pr} (hs : SortH L) : U64s (hsL L) := hsL_u hs
theorem like_of {L : List Pr} (hs : SortH L) (hl : L.length ≤ 1000) {k : ByteArray} (h : H k ∈ hsL L) : likeL L k = ofH L (H k) := by
 obtain ⟨i, hi, e⟩ := List.getElem_of_mem h
 have := rank_found hi (by have := hsL_len_le L; omega) (hsL_inv L hs).1 (hs_u64 hs)
 rw [e] at this
 unfold likeL treeOf
 rw [this]
 show ofH L ((hsL L).getD (i : Int).toNat 0) = _
 rw [Int.toNat_natCast, List.getD_eq_getElem?_getD, List.getElem?_eq_getElem hi, Option.getD_some, e]
theorem like_sub (L : List Pr) (k : ByteArray) : ∀ p ∈ likeL L k, p ∈ L := by
 intro p hp
 unfold likeL at hp
 split at hp
 · cases hp
 · exact (List.mem_filter.1 hp).1
theorem like_find {L : List Pr} (hs : SortH L) (hl : L.length ≤ 1000) (k : ByteArray) : findP (likeL L k) k = findP L k := by
 unfold findP
 by_cases h : H k ∈ hsL L
 · rw [like_of hs hl h]
   unfold ofH
   rw [List.find?_filter]
   congr 1
   funext p
   by_cases e : p.f0 = k
   · simp [e]
   · simp [e]
 · have hno : ∀ p ∈ L, ¬ (decide (p.f0 = k) = true) := fun p hp e => h (by
     have e := of_decide_eq_true e
     rw [← e]
     exact (hsL_inv L hs).2.1 p hp)
   rw [List.find?_eq_none.2 hno, List.find?_eq_none.2 (fun p hp => hno p (like_sub L k p hp))]
end Go.Proofs.Ytkhcmddeeodbkaa.GL
namespace Go.Proofs.Ytkhcmddeeodbkaa.GL
open Go.RowKit Go.Proofs.YtkhcmddeeodbkaaW.PrintWords Go.Proofs.YtkhcmddeeodbkaaW.PrintLast Go.Proofs.YtkhcmddeeodbkaaW.PrintMore Go.Proofs.Ytkhcmddeeodbkaa.Q Go.Proofs.Ytkhcmddeeodbkaa.XSor Go.Proofs.Ytkhcmddeeodbkaa.G
structure SOc (w : World) (g : Nat) (L : List Pr) (Al : Option Addr) (cl : Nat) (Ah : Option Addr) (ch : Nat) (Aa : Option Addr) (ca : Nat) (P : Option Addr) : Prop where
 blk : w.heap[g]? = some (.cells #[.slice Al L.length cl, .slice Ah (hsL L).length ch, .slice Aa (hsL L).length ca, .pointer P] 64 (0, 0))
 lcap : L.length ≤ cl
 lrow : Kd.C k30 w Al L.length L
 hcap : (hsL L).length ≤ ch
 hrow : Kd.C (Kd.int .u64) w Ah (hsL L).length (hsL L)
 acap : (hsL L).length ≤ ca
 arow : Kd.C (Kd.int .i64) w Aa (hsL L).length (atL L)
 tree : BitsP w P (treeOf L)
 sort : SortH L
 most : L.length ≤ 1000
def SO (w : World) (g : Nat) (L : List Pr) : Prop := ∃ Al cl Ah ch Aa ca P, SOc w g L Al cl Ah ch Aa ca P
theorem SO.below {w w' : World} {g : Nat} {L : List Pr} (h : SO w g L) (hb : Below w.heap.size w w') : SO w' g L := by
 obtain ⟨Al, cl, Ah, ch, Aa, ca, P, h⟩ := h
 exact ⟨Al, cl, Ah, ch, Aa, ca, P, blk_below h.blk hb, h.lcap, Kd.C_below h.lrow hb, h.hcap, Kd.C_below h.hrow hb, h.acap, Kd.C_below h.arow hb, h.tree.below hb, h.sort, h.most⟩
theorem SO.drew {w : World} {g : Nat} {L : List Pr} (h : SO w g L) : SO w.drew g L := h.below (Below.drew (Below.refl _ _))
theorem SO.srt {w : World} {g : Nat} {L : List Pr} (h : SO w g L) : SortH L := by obtain ⟨_, _, _, _, _, _, _, h⟩ := h; exact h.sort
theorem SO.len {w : World} {g : Nat} {L : List Pr} (h : SO w g L) : L.length ≤ 1000 := by obtain ⟨_, _, _, _, _, _, _, h⟩ := h; exact h.most
set_option maxRecDepth 1000000 in
theorem st_Len {w : World} {g : Nat} {L : List Pr} (h : SO w g L) :
    Calls Try.prog 18 #[.pointer (some ⟨g, 0, none⟩)] w fun e w' => e = .returned (.int .i64 L.length) ∧ w = w' := by
 obtain ⟨Al, cl, Ah, ch, Aa, ca, P, h⟩ := h
 obtain ⟨n, hn⟩ : ∃ n, n = L.length := ⟨_, rfl⟩
 have hb := h.blk
 rw [← hn] at hb ⊢
 have hc0 : w.cell? ⟨g, 0, none⟩ = some (.slice Al n cl) := (blk_cell hb 0).trans rfl
 clear hb h hn
 go_enter Try.func18, Try.ntmps18
 go_wp2
 go_ret
 exact ⟨rfl, rfl⟩
def LikePost (w : World) (R : List Pr) (e : Ending) (w' : World) : Prop := ∃ A c, e = .returned (.slice A R.length c) ∧ Kd.C k30 w' A R.length R ∧ R.length ≤ c ∧ Below w.heap.size w w'
set_option maxRecDepth 1000000 in
set_option maxHeartbeats 8000000 in
theorem st_like {w : World} {g : Nat} {L : List Pr} {k : ByteArray} (h : SO w g L) (hk : k.size < 17592186044416) :
    Calls Try.prog 43 #[.pointer (some ⟨g, 0, none⟩), .string k] w (LikePost w (likeL L k)) := by
 obtain ⟨Al, cl, Ah, ch, Aa, ca, P, h⟩ := h
 obtain ⟨n, hn⟩ : ∃ n, n = L.length := ⟨_, rfl⟩
 obtain ⟨m, hm⟩ : ∃ m, m = (hsL L).length := ⟨_, rfl⟩
 have hblk := h.blk
 rw [← hn, ← hm] at hblk
 have BK := Aside0.mk hblk
 have HH := Aside0.mk h
 have HN := Aside0.mk hn
 have HM := Aside0.mk hm
 have HB := Aside0.mk (Below.refl w.heap.size w)
 have HT := Aside0.mk (tree_len h.most)
 have HR := Aside0.mk (H_range k)
 obtain ⟨k0, hk0⟩ := (hash_ev hk).rounds
 have HK := Aside0.mk hk0
 obtain ⟨X, hX⟩ : ∃ X, X = H k := ⟨_, rfl⟩
 have HX := Aside0.mk hX
 rw [← hX] at HK HR
 obtain ⟨o, ho⟩ : ∃ o, o = rankI (treeOf L) X (m : Int) := ⟨_, rfl⟩
 have HO := Aside0.mk ho
 obtain ⟨R, hR⟩ : ∃ R, R = likeL L k := ⟨_, rfl⟩
 have HRR := Aside0.mk hR
 rw [← hR]
 have hlen : (n : Int) ≤ 1000 := by have := h.most; omega
 have hmlen : (m : Int) ≤ 1000 := by have := h.most; have := hsL_len_le L; omega
 have HML := Aside0.mk (show m ≤ 1000 by omega)
 clear hblk h hn hm hk0 hX ho hR hk
 have hc0 : w.cell? ⟨g, 0, none⟩ = some (.slice Al n cl) := (blk_cell BK.out 0).trans rfl; have hc1 : w.cell? ⟨g, 1, none⟩ = some (.slice Ah m ch) := (blk_cell BK.out 1).trans rfl; have hc2 : w.cell? ⟨g, 2, none⟩ = some (.slice Aa m ca) := (blk_cell BK.out 2).trans rfl; have hc3 : w.cell? ⟨g, 3, none⟩ = some (.pointer P) := (blk_cell BK.out 3).trans rfl
 go_enter Try.func43, Try.ntmps43
 go_wp2
 clear hc0 hc1 hc2 hc3
 rcases o with _ | q
 · go_region_held3 (fun w' => w'.cell? ⟨g, 1, none⟩ = some (.slice Ah m ch) ∧ w'.cell? ⟨g, 3, none⟩ = some (.pointer P))
 (first | exact ⟨(blk_cell (blk_below BK.out HB.out) 1).trans rfl, (blk_cell (blk_below BK.out HB.out) 3).trans rfl⟩ | exact ⟨(blk_cell (blk_below BK.out HB.out.drew) 1).trans rfl, (blk_cell (blk_below BK.out HB.out.drew) 3).trans rfl⟩)
 (first
   | (go_at_call 32; (with_reducible refine (hash_Of.calls k0 k X _ HK.out).mono ?_); rintro e w1 ⟨rfl, hb⟩; have n1_ := Aside0.mk (below_step HB.out.drew hb); clear HB hb; have HB := n1_; clear n1_)
   | (go_at_call 64; (with_reducible refine (trie_Rank (h := X) (m : Int) (HH.out.tree.below HB.out) HT.out HR.out.1 HR.out.2).mono ?_); rw [← HO.out]; rintro e w2 ⟨rfl, rfl⟩; simp only [skipR]))
   have HR0 := Aside0.mk (show R = [] by rw [HRR.out]; unfold likeL; rw [← HX.out, ← HM.out, ← HO.out])
   go_wp2
   go_ret
   rw [HR0.out]
   exact ⟨none, 0, rfl, Kd.C_nil _ _, Nat.le_refl _, HB.out⟩
 · obtain ⟨hq0, hqm⟩ := rankI_bd (L := L) (h := X) (q := q) (by rw [← HM.out]; exact HO.out.symm)
   obtain ⟨Q, rfl⟩ := Int.eq_ofNat_of_zero_le hq0
   rw [Int.toNat_natCast, ← HM.out] at hqm
   have HQ := Aside0.mk hqm
   have hQz : (Q : Int) < (m : Int) := by omega
   clear hq0 hqm
   go_region_held3 (fun w' => w'.cell? ⟨g, 1, none⟩ = some (.slice Ah m ch) ∧ w'.cell? ⟨g, 3, none⟩ = some (.pointer P))
    (first | exact ⟨(blk_cell (blk_below BK.out HB.out) 1).trans rfl, (blk_cell (blk_below BK.out HB.out) 3).trans rfl⟩ | exact ⟨(blk_cell (blk_below BK.out HB.out.drew) 1).trans rfl, (blk_cell (blk_below BK.out HB.out.drew) 3).trans rfl⟩)
    (first
      | (go_at_call 32; (with_reducible refine (hash_Of.calls k0 k X _ HK.out).mono ?_); rintro e w1 ⟨rfl, hb⟩; have n1_ := Aside0.mk (below_step HB.out.drew hb); clear HB hb; have HB := n1_; clear n1_)
      | (go_at_call 64; (with_reducible refine (trie_Rank (h := X) (m : Int) (HH.out.tree.below HB.out) HT.out HR.out.1 HR.out.2).mono ?_); rw [← HO.out]; rintro e w2 ⟨rfl, rfl⟩; simp only [skipR]))
   obtain ⟨y, hy⟩ : ∃ y, y = (hsL L)[Q]'(by rw [← HM.out]; exact HQ.out) := ⟨_, rfl⟩
   have HR0 := Aside0.mk (show R = ofH L y by
    rw [HRR.out]
    unfold likeL
    rw [← HX.out, ← HM.out, ← HO.out]
    show ofH L ((hsL L).getD (Q : Int).toNat 0) = _
    rw [Int.toNat_natCast, List.getD_eq_getElem?_getD, List.getElem?_eq_getElem (by rw [← HM.out]; exact HQ.out), Option.getD_some, hy])
   obtain ⟨lo, hlo⟩ : ∃ a, a = lowP L y := ⟨_, rfl⟩
   obtain ⟨r, hr⟩ : ∃ a, a = R.length := ⟨_, rfl⟩
   obtain ⟨hi, hhi⟩ : ∃ a, a = lo + r := ⟨_, rfl⟩
   have HCUT := Aside0.mk (show (L.take hi).drop lo = R by rw [hhi, hlo, hr, HR0.out]; exact cut_h HH.out.sort y)
   have HAQ := Aside0.mk (show (atL L).getD Q 0 = (lo : Int) by
    unfold atL
    rw [List.getD_eq_getElem?_getD, List.getElem?_map, List.getElem?_eq_getElem (by rw [← HM.out]; exact HQ.out), Option.map_some, Option.getD_some, ← hy, hlo])
   have hlr : lo ≤ hi := by omega
   have HHR := Aside0.mk hhi
   have HRL := Aside0.mk hr
   obtain ⟨Q1, hQ1⟩ : ∃ a, a = Q + 1 := ⟨_, rfl⟩
   have HQ1 := Aside0.mk hQ1
   have hQ1z : (Q1 : Int) ≤ 1000 := by have := HML.out; have := HQ.out; omega
   have hend : (Q1 < m ∧ (atL L).getD Q1 0 = (hi : Int) ∧ hi ≤ n) ∨ (¬ Q1 < m ∧ hi = n) := by
    by_cases c : Q + 1 < (hsL L).length
    · left
      have hnx := next_h HH.out.sort c
      rw [← hy, ← hlo, show (ofH L y).length = r by rw [hr, HR0.out], ← hhi] at hnx
      refine ⟨by rw [HM.out]; omega, ?_, ?_⟩
      · unfold atL
        rw [hQ1, List.getD_eq_getElem?_getD, List.getElem?_map, List.getElem?_eq_getElem c, Option.map_some, Option.getD_some, hnx]
      · rw [HN.out, ← hnx]
        exact List.length_filter_le _ _
    · right
      have hnx := last_h HH.out.sort (q := Q) (by have := HQ.out; have := HM.out; omega)
      rw [← hy, ← hlo, show (ofH L y).length = r by rw [hr, HR0.out], ← hhi, ← HN.out] at hnx
      exact ⟨by have := HM.out; omega, hnx.symm⟩
   obtain ⟨i0, hi0, _, hsz0, _⟩ := info_parts info30
   have hwr : IntKind.i64.wrap ((Q : Int) + 1) = (Q1 : Int) := by rw [i64_w, w64 (by omega) (by omega), hQ1]; rfl
   have HW := Aside0.mk hwr
   have hhn : hi ≤ n := by rcases hend with h | h <;> omega
   have hrun := cut_mid (P := Try.prog) 22 30 .i64 .i64 Try.underlying22 hi0 4 hsz0 Al n cl (lo : Int) (hi : Int) (by omega) (by omega) (by omega) (by rw [HN.out]; exact HH.out.lcap)
   rw [Int.toNat_natCast, Int.toNat_natCast, show hi - lo = r by omega] at hrun
   have hcm := Kd.C_mid (c := cl) (lo := lo) (hi := hi) (Kd.C_below HH.out.lrow HB.out) hlr (by rw [← HN.out]; exact hhn) HH.out.lcap
   rw [HCUT.out, ← hr] at hcm
   obtain ⟨Ad, hAd⟩ : ∃ A, A = (if cl = lo then Al else Al.map (·.add (lo * 4))) := ⟨_, rfl⟩
   rw [← hAd] at hrun
   replace hcm : Kd.C k30 w1 Ad r R := by rw [hAd]; exact hcm
   have HCM := Aside0.mk hcm
   have HCC := Aside0.mk (show r ≤ cl - lo by have := HH.out.lcap; have := HN.out; omega)
   obtain ⟨ad, e, hx⟩ := Kd.at_int (Kd.C_below HH.out.arow HB.out) (Q : Int) (Int.natCast_nonneg _) (by rw [← HM.out]; exact hQz)
   cases e
   have hx0 : w1.cell? (ad.add Q) = some (.int .i64 lo) := by
    rw [← HAQ.out]
    exact hx
   have hB1 := blk_below BK.out HB.out
   have hc0 : w1.cell? ⟨g, 0, none⟩ = some (.slice Al n cl) := (blk_cell hB1 0).trans rfl
   have hc2 : w1.cell? ⟨g, 2, none⟩ = some (.slice (some ad) m ca) := (blk_cell hB1 2).trans rfl
   have hlo0 : (0 : Int) ≤ (lo : Int) := by omega
   have hQ0 : (0 : Int) ≤ (Q : Int) := by omega
   have hloi : (lo : Int) ≤ (hi : Int) := by omega
   have hQ10 : (0 : Int) ≤ (Q1 : Int) := by omega
   rcases hend with ⟨h1, h2, h3⟩ | ⟨h1, h2⟩
   · obtain ⟨ad', e', hx1⟩ := Kd.at_int (Kd.C_below HH.out.arow HB.out) (Q1 : Int) (Int.natCast_nonneg _) (by rw [← HM.out]; omega)
     obtain rfl : ad = ad' := Option.some.inj e'
     have hx1' : w1.cell? (ad.add Q1) = some (.int .i64 hi) := by
      rw [← h2]
      exact hx1
     have hd1 : decide ((Q1 : Int) < (m : Int)) = true := decide_eq_true (by omega)
     have hd1n : decide (Q1 < m) = true := decide_eq_true h1
     have hQ1m : (Q1 : Int) < (m : Int) := by omega
     have hhiz : (hi : Int) ≤ (n : Int) := by omega
     clear hx hx1 e' h1 h2 h3 hy hlo hr hhi hcm hAd hB1 hi0 hsz0 hlr hQ1 hhn hwr
     have hwr := HW.out
     go_wp2
     go_quiet (fail)
     go_wp2
     go_ret
     rw [HRL.out]
     exact ⟨Ad, cl - lo, rfl, by rw [← HRL.out]; exact Kd.C_drewN HCM.out _, by rw [← HRL.out]; exact HCC.out, pw_below_drewN HB.out _⟩
   · subst h2
     have hd1 : decide ((Q1 : Int) < (m : Int)) = false := decide_eq_false (by omega)
     have hd1n : decide (Q1 < m) = false := decide_eq_false h1
     clear hx h1 hy hlo hr hhi hcm hAd hB1 hi0 hsz0 hlr hQ1 hhn hwr
     have hwr := HW.out
     go_wp2
     go_quiet (fail)
     go_wp2
     go_ret
     rw [HRL.out]
     exact ⟨Ad, cl - lo, rfl, by rw [← HRL.out]; exact Kd.C_drewN HCM.out _, by rw [← HRL.out]; exact HCC.out, pw_below_drewN HB.out _⟩
set_option maxRecDepth 1000000 in
theorem st_Reads {w : World} {g : Nat} {L : List Pr} {k : ByteArray} (h : SO w g L) (hk : k.size < 17592186044416) :
    Calls Try.prog 20 #[.pointer (some ⟨g, 0, none⟩), .string k] w fun e w' => e = .returned (.int .i64 (likeL L k).length) ∧ Below w.heap.size w w' := by
 obtain ⟨R, hR⟩ : ∃ R, R = likeL L k := ⟨_, rfl⟩
 have HL := Aside0.mk (st_like h hk)
 rw [← hR] at HL ⊢
 clear h hk hR
 go_enter Try.func20, Try.ntmps20
 go_wp2_with (first
  | (go_at_call 43; refine HL.out.mono ?_; rintro e w1 ⟨A, c, rfl, hC, hc, hb⟩; have HB := Aside0.mk hb; clear hC hc hb))
 go_ret
 exact ⟨rfl, HB.out⟩
abbrev Rw := S25
def valP (R : List Pr) (k : ByteArray) : Rw × Bool := match findP R k with
 | some p => (p.f1, true)
 | none => (⟨0, 0, ⟨#[]⟩⟩, false)
theorem valP_step {R : List Pr} {i : Nat} (h : i < R.length) (k : ByteArray) : valP (R.drop i) k = if (rd_T30 R (i : Int)).f0 = k then ((rd_T30 R (i : Int)).f1, true) else valP (R.drop (i + 1)) k := by
 rw [List.drop_eq_getElem_cons h]
 have e : rd_T30 R (i : Int) = R[i] := by simp [rd_T30, h]
 rw [e]
 unfold valP findP
 by_cases c : R[i].f0 = k
 · rw [if_pos c, List.find?_cons_of_pos (by simpa using c)]
 · rw [if_neg c, List.find?_cons_of_neg (by simpa using c)]
def pr4 (x : Pr) : Array Value := #[.string x.f0, .int .i64 x.f1.f0, .int .i64 x.f1.f1, .string x.f1.f2]
theorem put4 {W : World} {g : Nat} {x y : Pr} (h : W.heap[g]? = some (.cells (pr4 x) 30 (0, 0))) : ((((W.setCell ⟨g, 0, none⟩ (.string y.f0)).setCell ⟨g, 1, none⟩ (.int .i64 y.f1.f0)).setCell ⟨g, 2, none⟩ (.int .i64 y.f1.f1)).setCell ⟨g, 3, none⟩ (.string y.f1.f2)).heap[g]? = some (.cells (pr4 y) 30 (0, 0)) :=
 blk_put (blk_put (blk_put (blk_put h 0 _ rfl) 1 _ rfl) 2 _ rfl) 3 _ rfl
theorem far4 {W : World} {g k : Nat} {t : TypeId} {cs : Array Value} {a b c d : Value} (h : W.heap[g]? = some (.cells cs t (0, 0))) (hne : g ≠ k) : ((((W.setCell ⟨k, 0, none⟩ a).setCell ⟨k, 1, none⟩ b).setCell ⟨k, 2, none⟩ c).setCell ⟨k, 3, none⟩ d).heap[g]? = some (.cells cs t (0, 0)) := blk_far (blk_far (blk_far (blk_far h hne _) hne _) hne _) hne _
theorem bel4 {w W : World} {k : Nat} {a b c d : Value} (h : Below w.heap.size w W) (hk : w.heap.size ≤ k) : Below w.heap.size w ((((W.setCell ⟨k, 0, none⟩ a).setCell ⟨k, 1, none⟩ b).setCell ⟨k, 2, none⟩ c).setCell ⟨k, 3, none⟩ d) := below_set (below_set (below_set (below_set h hk) hk) hk) hk
set_option maxRecDepth 1000000 in
set_option maxHeartbeats 8000000 in
theorem st_Get {w : World} {g : Nat} {L : List Pr} {k : ByteArray} (h : SO w g L) (hk : k.size < 17592186044416) :
    Calls Try.prog 19 #[.pointer (some ⟨g, 0, none⟩), .string k] w fun e w' => e = .returned (.tuple #[.agg #[.int .i64 (valP L k).1.f0, .int .i64 (valP L k).1.f1, .string (valP L k).1.f2], .bool (valP L k).2]) ∧ Below w.heap.size w w' := by
 have hu := Try.underlying25
 have hgl : valP (likeL L k) k = valP L k := by unfold valP; rw [like_find h.srt h.len]
 rw [← hgl]
 obtain ⟨R, hR⟩ : ∃ R, R = likeL L k := ⟨_, rfl⟩
 have HS := Aside0.mk h
 have HK := Aside0.mk hk
 have HRR := Aside0.mk hR
 obtain ⟨v, hv⟩ : ∃ v, v = valP (likeL L k) k := ⟨_, rfl⟩
 have HV := Aside0.mk (show v = valP R k by rw [hv, hR])
 rw [← hv]
 have HRL := Aside0.mk (show R.length ≤ 1000 by
  rw [hR]
  unfold likeL
  split
  · exact Nat.zero_le _
  · exact Nat.le_trans (List.length_filter_le _ _) h.len)
 have HB := Aside0.mk (Below.refl w.heap.size w)
 clear h hk hgl hR hv
 go_enter Try.func19, Try.ntmps19
 go_wp2_with (first
  | ((with_reducible refine gate_dst (N := 4) rfl ?_); refine box_event ?hg (N := 4) ?hd (cs := #[.int .i64 0, .int .i64 0, .string (⟨#[]⟩ : ByteArray)]) (t := 25) ?hr ?_; (case hd => rfl); (case hg => rfl); (case hr => first | (go_simp; done) | (go_simp; rfl)); intro g4 hg w1 hbox hb; have BK := Aside0.mk hbox; have GE := Aside0.mk (show w.heap.size ≤ g4 by omega); have n1_ := Aside0.mk (show Below w.heap.size w w1 from hb); clear HB; have HB := n1_; clear n1_ hbox hg hb)
  | (go_at_call 43; refine (st_like (HS.out.below HB.out) HK.out).mono ?_; rw [← HRR.out]; rintro e w2 ⟨A, c, rfl, hC, hc, hb⟩; have n1_ := Aside0.mk (below_step HB.out hb); have n2_ := Aside0.mk (blk_below BK.out hb); have HC := Aside0.mk hC; clear HB BK hC hc hb; have HB := n1_; have BK := n2_; clear n1_ n2_))
 obtain ⟨r, hr⟩ : ∃ r, r = R.length := ⟨_, rfl⟩
 rw [← hr]
 have HR := Aside0.mk hr
 have hrz : (r : Int) ≤ 1000 := by have := HRL.out; omega
 clear hr
 go_loopw [12] (fun v12 wr => ∃ (i : Nat), v12 = .int .i64 i ∧ i ≤ r ∧ Aside0 (v = valP (R.drop i) k) ∧ Aside0 (Below w2.heap.size w2 wr)) (fun v _ => r - (intOf v).toNat)
 case atStart => exact ⟨0, by first | rfl | go_num, Nat.zero_le _, ⟨by rw [List.drop_zero]; exact HV.out⟩, ⟨Below.refl _ _⟩⟩
 case round =>
  obtain ⟨i, rfl, hi, HI, HW⟩ := hrel
  have HBK := Aside0.mk (blk_below BK.out HW.out)
  by_cases hlt : i < r
  · have hltz : (i : Int) < (R.length : Int) := by rw [← HR.out]; omega
    have hl1 : decide ((i : Int) < (r : Int)) = true := decide_eq_true (by omega)
    have hl2 := decide_eq_true hlt
    obtain ⟨ad, e, h0, h1, h2, h3⟩ := at_T30 HC.out (i : Int) (Int.natCast_nonneg _) hltz
    cases e
    simp only [Int.toNat_natCast] at h0 h1 h2 h3
    replace h0 := (HW.out.cell (World.block_lt_of_cell? w2 _ h0)).trans h0
    replace h1 := (HW.out.cell (World.block_lt_of_cell? w2 _ h1)).trans h1
    replace h2 := (HW.out.cell (World.block_lt_of_cell? w2 _ h2)).trans h2
    replace h3 := (HW.out.cell (World.block_lt_of_cell? w2 _ h3)).trans h3
    have hst := valP_step (R := R) (i := i) (by rw [← HR.out]; exact hlt) k
    obtain ⟨x, hx⟩ : ∃ x, x = rd_T30 R (i : Int) := ⟨_, rfl⟩
    rw [← hx] at h0 h1 h2 h3 hst
    have hltz2 : (i : Int) < (r : Int) := by omega
    have HLT := Aside0.mk hlt
    by_cases hk : x.f0 = k
    · rw [if_pos hk] at hst
      have hkb : (x.f0.toList == k.toList) = true := beq_iff_eq.mpr (by rw [hk])
      have HVX := Aside0.mk (HI.out.trans hst)
      clear hst hk hx hlt hltz hi
      go_wp2_with (first
       | ((with_reducible refine gate_dst (N := 7) rfl ?_); refine box_event ?hg (N := 7) ?hd (cs := pr4 ⟨⟨#[]⟩, ⟨0, 0, ⟨#[]⟩⟩⟩) (t := 30) ?hr ?_; (case hd => rfl); (case hg => rfl); (case hr => first | (go_simp; done) | (go_simp; rfl)); intro g7 hg w7 hbox hb; have G7 := Aside0.mk (show w2.heap.size ≤ g7 by rw [hg]; exact HW.out.size); have NE := Aside0.mk (show g4 ≠ g7 by have := blk_lt HBK.out; omega); have B7 := Aside0.mk hbox; have n1_ := Aside0.mk (below_step HW.out hb); have n2_ := Aside0.mk (blk_below HBK.out hb); clear HW HBK h0 h1 h2 h3 hbox hg hb; have HW := n1_; have HBK := n2_; clear n1_ n2_; have hs0 : w7.cell? ⟨g7, 0, none⟩ = some (.string ⟨#[]⟩) := (blk_cell B7.out 0).trans rfl; have hs1 : w7.cell? ⟨g7, 1, none⟩ = some (.int .i64 0) := (blk_cell B7.out 1).trans rfl; have hs2 : w7.cell? ⟨g7, 2, none⟩ = some (.int .i64 0) := (blk_cell B7.out 2).trans rfl; have hs3 : w7.cell? ⟨g7, 3, none⟩ = some (.string ⟨#[]⟩) := (blk_cell B7.out 3).trans rfl; have hf0 := blk_frozen B7.out 0; have hf1 := blk_frozen B7.out 1; have hf2 := blk_frozen B7.out 2; have hf3 := blk_frozen B7.out 3)
       | ((with_reducible refine gate_store (t := 30) (p := 7) rfl ?_); refine store_event (t := 30) (p := 7) (v := ?vo1) (w1 := ((((w7.setCell ⟨g7, 0, none⟩ (.string x.f0)).setCell ⟨g7, 1, none⟩ (.int .i64 x.f1.f0)).setCell ⟨g7, 2, none⟩ (.int .i64 x.f1.f1)).setCell ⟨g7, 3, none⟩ (.string x.f1.f2))) ?hg ?ho ?hn ?hr ?_; (case ho => rfl); (case hg => rfl); (case hn => rfl); (case hr => first | (go_simp; done) | (go_simp; rfl)); intro w8 hw; have n1_ : Aside0 (Below w2.heap.size w2 w8) := ⟨by rw [hw]; exact bel4 HW.out G7.out⟩; have n2_ : Aside0 (w8.heap[g4]? = some (.cells #[.int .i64 0, .int .i64 0, .string (⟨#[]⟩ : ByteArray)] 25 (0, 0))) := ⟨by rw [hw]; exact far4 HBK.out NE.out⟩; have n3_ : Aside0 (w8.heap[g7]? = some (.cells (pr4 x) 30 (0, 0))) := ⟨by rw [hw]; exact put4 B7.out⟩; clear HW HBK B7 hs0 hs1 hs2 hs3 hf0 hf1 hf2 hf3 hw; have HW := n1_; have HBK := n2_; have B7 := n3_; clear n1_ n2_ n3_; have hs0 : w8.cell? ⟨g7, 0, none⟩ = some (.string x.f0) := (blk_cell B7.out 0).trans rfl; have hs1 : w8.cell? ⟨g7, 1, none⟩ = some (.int .i64 x.f1.f0) := (blk_cell B7.out 1).trans rfl; have hs2 : w8.cell? ⟨g7, 2, none⟩ = some (.int .i64 x.f1.f1) := (blk_cell B7.out 2).trans rfl; have hs3 : w8.cell? ⟨g7, 3, none⟩ = some (.string x.f1.f2) := (blk_cell B7.out 3).trans rfl; have hz0 : w8.cell? ⟨g4, 0, none⟩ = some (.int .i64 0) := (blk_cell HBK.out 0).trans rfl; have hz1 : w8.cell? ⟨g4, 1, none⟩ = some (.int .i64 0) := (blk_cell HBK.out 1).trans rfl; have hz2 : w8.cell? ⟨g4, 2, none⟩ = some (.string ⟨#[]⟩) := (blk_cell HBK.out 2).trans rfl; have hf0 := blk_frozen HBK.out 0; have hf1 := blk_frozen HBK.out 1; have hf2 := blk_frozen HBK.out 2))
      refine bodyPost_ret (results_ct rfl _ _ g4 25 #[.int .i64 x.f1.f0, .int .i64 x.f1.f1, .string x.f1.f2] (0, 0) _ rfl (blk_put (blk_put (blk_put HBK.out 0 _ rfl) 1 _ rfl) 2 _ rfl) Try.underlying25 rfl (by kernel_rfl)) rfl ?_
      rw [HVX.out]
      exact ⟨rfl, below_set (below_set (below_set (below_step HB.out HW.out) GE.out) GE.out) GE.out⟩
    · rw [if_neg hk] at hst
      have hkb : (x.f0.toList == k.toList) = false := beq_eq_false_iff_ne.mpr (fun e => hk (toList_inj e))
      have HVX := Aside0.mk (HI.out.trans hst)
      clear hst hk hx hlt hltz hi
      go_wp2
      refine ⟨⟨i + 1, by first | rfl | go_num, by have := HLT.out; omega, HVX, ⟨by repeat (first | exact HW.out | apply below_alloc | refine below_set ?_ HW.out.size)⟩⟩, ?_⟩
      have := HLT.out
      simp [intOf]
      omega
  · obtain rfl : i = r := by omega
    have hl1 : decide ((i : Int) < (i : Int)) = false := decide_eq_false (by omega)
    have hl2 : decide (i < i) = false := decide_eq_false (by omega)
    have HVX := Aside0.mk (show v = (⟨0, 0, ⟨#[]⟩⟩, false) by rw [HI.out, List.drop_of_length_le (by rw [← HR.out]; exact Nat.le_refl _)]; rfl)
    have hz0 : wr.cell? ⟨g4, 0, none⟩ = some (.int .i64 0) := (blk_cell HBK.out 0).trans rfl
    have hz1 : wr.cell? ⟨g4, 1, none⟩ = some (.int .i64 0) := (blk_cell HBK.out 1).trans rfl
    have hz2 : wr.cell? ⟨g4, 2, none⟩ = some (.string ⟨#[]⟩) := (blk_cell HBK.out 2).trans rfl
    have hf0 := blk_frozen HBK.out 0
    have hf1 := blk_frozen HBK.out 1
    have hf2 := blk_frozen HBK.out 2
    clear hlt hi
    go_wp2
    refine bodyPost_ret (results_ct rfl _ _ g4 25 #[.int .i64 0, .int .i64 0, .string ⟨#[]⟩] (0, 0) _ rfl (blk_put (blk_put (blk_put HBK.out 0 _ rfl) 1 _ rfl) 2 _ rfl) Try.underlying25 rfl (by kernel_rfl)) rfl ?_
    rw [HVX.out]
    exact ⟨rfl, below_set (below_set (below_set (below_step HB.out HW.out) GE.out) GE.out) GE.out⟩
end Go.Proofs.Ytkhcmddeeodbkaa.GL
