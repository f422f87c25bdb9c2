/- Numbers as bits, put one behind the other and told again: plain laws; the references' digits, PutNum, Gamma. -/
import Derived.Test.YtobdfehpbgcloaaGGammaLaw
import Derived.Test.YtobdfehpbgcloaaXTrix26
import Derived.Test.YtobdfehpbgcloaaXTrix27
import Derived.Test.YtobdfehpbgcloaaXTrix28
set_option linter.unusedVariables false
set_option linter.unusedSimpArgs false
namespace Go.Proofs.Ytobdfehpbgcloaa.GL
open Go.RowKit Go.Proofs.YtobdfehpbgcloaaW.PrintWords Go.Proofs.YtobdfehpbgcloaaW.PrintMore Go.Proofs.Ytobdfehpbgcloaa.Q Go.Proofs.Ytobdfehpbgcloaa.XTri Go.Proofs.Ytobdfehpbgcloaa.G
theorem mod_pow_succ (x : Int) (n : Nat) : x % 2 ^ (n + 1) = (x / 2 ^ n % 2) * 2 ^ n + x % 2 ^ n := by
  have hp : (0 : Int) < 2 ^ n := Int.pow_pos (by decide)
  have h1 := Int.mul_ediv_add_emod x (2 ^ n)
  have h2 := Int.mul_ediv_add_emod (x / 2 ^ n) 2
  have h0 := Int.emod_nonneg x (show (2 : Int) ^ n ≠ 0 by omega)
  have h3 := Int.emod_lt_of_pos x hp
  have e : x = (x / 2 ^ n / 2) * 2 ^ (n + 1) + ((x / 2 ^ n % 2) * 2 ^ n + x % 2 ^ n) := by
    rw [Int.pow_succ]
    generalize hA : x / 2 ^ n = A at *
    generalize hB : (2 : Int) ^ n = B at *
    generalize hC : A / 2 = C at *
    generalize hD : A % 2 = D at *
    have : C * (B * 2) + (D * B + x % B) = B * (2 * C + D) + x % B := by
      rw [Int.mul_add, ← Int.mul_assoc B 2 C, Int.mul_comm (B * 2) C, Int.mul_comm B D]
      omega
    rw [this, h2]
    exact h1.symm
  have hb : 0 ≤ (x / 2 ^ n % 2) * 2 ^ n + x % 2 ^ n ∧ (x / 2 ^ n % 2) * 2 ^ n + x % 2 ^ n < 2 ^ (n + 1) := by
    rw [Int.pow_succ]
    rcases (show x / 2 ^ n % 2 = 0 ∨ x / 2 ^ n % 2 = 1 by omega) with h | h <;> rw [h] <;> omega
  have : x % 2 ^ (n + 1) = ((x / 2 ^ n / 2) * 2 ^ (n + 1) + ((x / 2 ^ n % 2) * 2 ^ n + x % 2 ^ n)) % 2 ^ (n + 1) := by rw [← e]
  rw [this, Int.add_comm, Int.add_mul_emod_self_right, Int.emod_eq_of_lt hb.1 hb.2]
theorem fold_numBits (x : Int) : ∀ (n : Nat) (a : Int), (numBits x n).foldl (fun a b => 2 * a + if b = true then 1 else 0) a = a * 2 ^ n + x % 2 ^ n := by
  intro n
  induction n with
  | zero => intro a; simp [numBits]
  | succ n ih =>
    intro a
    rw [numBits, List.foldl_cons, ih, mod_pow_succ, Int.pow_succ]
    rcases (show x / 2 ^ n % 2 = 0 ∨ x / 2 ^ n % 2 = 1 by omega) with h | h
    · rw [h]
      simp only [beq_iff_eq, show ¬ ((0 : Int) = 1) by decide, if_false]
      rw [Int.add_zero, Int.zero_mul, Int.zero_add, Int.mul_comm 2 a, Int.mul_assoc, Int.mul_comm 2 (2 ^ n)]
    · rw [h]
      simp only [beq_self_eq_true, if_true]
      rw [Int.add_mul, Int.one_mul, Int.mul_comm 2 a, Int.mul_assoc, Int.mul_comm 2 (2 ^ n)]
      omega
theorem numOf_numBits (x : Int) (n : Nat) : numOf (numBits x n) = x % 2 ^ n := by
  unfold numOf
  rw [fold_numBits]
  omega
/-- Numbers that stand somewhere are told. -/
theorem numAt_mid (A B : List Bool) (x : Int) (n : Nat) (hn : n ≤ 64) : numAt (A ++ numBits x n ++ B) (A.length : Int) (n : Int) = some (x % 2 ^ n) := by
  unfold numAt
  rw [if_pos ⟨by omega, by omega, by omega, by rw [List.length_append, List.length_append, numBits_len]; omega⟩, Int.toNat_natCast, Int.toNat_natCast, List.append_assoc, List.drop_left,
    List.take_append_of_le_length (by rw [numBits_len]; omega), List.take_of_length_le (by rw [numBits_len]; omega), numOf_numBits]
theorem numBits_zero : ∀ n, numBits 0 n = List.replicate n false
  | 0 => rfl
  | n + 1 => by rw [numBits, numBits_zero n, List.replicate_succ]; simp
theorem zeros_rep (B : List Bool) : ∀ (k m : Nat), k < m → zeros (List.replicate k false ++ true :: B) m = k
  | 0, m + 1, _ => by simp [zeros]
  | k + 1, m + 1, h => by rw [List.replicate_succ, List.cons_append, zeros]; simp [zeros_rep B k m (by omega)]
theorem bitLen_pow {x : Nat} (h0 : x ≠ 0) (hx : x < 2 ^ 64) : 2 ^ (Lib.bitLen x - 1) ≤ x ∧ x < 2 ^ Lib.bitLen x := by
  have h1 := Nat.log2_self_le h0
  have h2 := Nat.lt_log2_self (n := x)
  have e : Lib.bitLen x = x.log2 + 1 := by
    rw [Lib.bitLen_shift x.log2 x h1 hx]
    have e : x / 2 ^ x.log2 = 1 := by
      have hp := Nat.two_pow_pos x.log2
      apply Nat.le_antisymm
      · have := (Nat.div_lt_iff_lt_mul hp (x := x) (y := 2)).2 (by rw [Nat.pow_succ] at h2; omega)
        omega
      · exact (Nat.le_div_iff_mul_le hp).2 (by omega)
    rw [e]
    rfl
  rw [e]
  exact ⟨h1, h2⟩
theorem gammaBits_len {x : Int} (h0 : 0 ≤ x) (h1 : x < 18446744073709551616) : ((gammaBits x).length : Int) = lenG x := by
  unfold gammaBits lenG
  by_cases hx : x = 0
  · rw [if_pos hx, if_pos hx]; rfl
  · rw [if_neg hx, if_neg hx, List.length_append, numBits_len, numBits_len]
    have := bitLen_pos (n := x.toNat) (by omega)
    omega
theorem gammaBits_le {x : Int} (h0 : 0 ≤ x) (h1 : x < 18446744073709551616) : (gammaBits x).length ≤ 127 := by
  have := gammaBits_len h0 h1
  have hb := Lib.bitLen_le x.toNat 64 (Nat.le_refl _) (by omega)
  unfold lenG at this
  split at this <;> omega
/-- A number that stands somewhere is told. -/
theorem getG_mid (A B : List Bool) (x : Int) (h0 : 0 < x) (h1 : x < 18446744073709551616) : getG (A ++ gammaBits x ++ B) (A.length : Int) = some (x, (A.length : Int) + ((gammaBits x).length : Int)) := by
  obtain ⟨k, hk⟩ : ∃ k, k = Lib.bitLen x.toNat := ⟨_, rfl⟩
  have hkp : 0 < k := by rw [hk]; exact bitLen_pos (by omega)
  have hk64 : k ≤ 64 := by rw [hk]; exact Lib.bitLen_le x.toNat 64 (Nat.le_refl _) (by omega)
  have hpw := bitLen_pow (x := x.toNat) (by omega) (by omega)
  rw [← hk] at hpw
  have hp0 : (2 : Int) ^ (k - 1) ≤ x := by
    have h2 : ((2 ^ (k - 1) : Nat) : Int) ≤ (x.toNat : Int) := by have := hpw.1; omega
    rw [Int.toNat_of_nonneg (by omega)] at h2
    exact_mod_cast h2
  have hp1 : x < (2 : Int) ^ k := by
    have h2 : (x.toNat : Int) < ((2 ^ k : Nat) : Int) := by have := hpw.2; omega
    rw [Int.toNat_of_nonneg (by omega)] at h2
    exact_mod_cast h2
  have hg : gammaBits x = List.replicate (k - 1) false ++ numBits x k := by rw [gammaBits, if_neg (by omega), ← hk, numBits_zero]
  have htop : ∃ R, numBits x k = true :: R := by
    obtain ⟨m, rfl⟩ : ∃ m, k = m + 1 := ⟨k - 1, by omega⟩
    refine ⟨numBits x m, ?_⟩
    rw [numBits]
    have hq : (0 : Int) < 2 ^ m := Int.pow_pos (by decide)
    have e : x / 2 ^ m = 1 := by
      rw [Nat.add_sub_cancel] at hp0
      apply Int.le_antisymm
      · have := Int.ediv_lt_of_lt_mul hq (show x < 2 * 2 ^ m by rw [Int.pow_succ] at hp1; omega)
        omega
      · exact Int.le_ediv_of_mul_le hq (by omega)
    rw [e]
    rfl
  obtain ⟨R, hR⟩ := htop
  have hz : zeros ((A ++ gammaBits x ++ B).drop A.length) 64 = k - 1 := by
    rw [List.append_assoc, List.drop_left, hg, hR, List.append_assoc, List.cons_append]
    exact zeros_rep _ _ _ (by omega)
  unfold getG
  rw [if_neg (by omega), Int.toNat_natCast, hz, if_neg (by omega)]
  have ha : (A.length : Int) + ((k - 1 : Nat) : Int) = ((A ++ List.replicate (k - 1) false).length : Int) := by rw [List.length_append, List.length_replicate]; omega
  have hn : (((k - 1 : Nat) : Int) + 1) = (k : Int) := by omega
  rw [ha, hn, hg, ← List.append_assoc, numAt_mid _ B x k hk64, Int.emod_eq_of_lt (by omega) hp1]
  simp only [Option.map_some, List.length_append, List.length_replicate, numBits_len]
  congr 2
  omega
/-- Numbers one behind the other. -/
def catG (xs : List Int) : List Bool := xs.flatMap gammaBits
theorem allG_cat (ys : List Int) : ∀ (A : List Bool), (∀ x ∈ ys, 0 ≤ x ∧ x < 18446744073709551616) → allG (A ++ catG ys) (A.length : Int) (ys.filter (fun x => decide (0 < x))).length = some (ys.filter (fun x => decide (0 < x)), ((A ++ catG ys).length : Int)) := by
  induction ys with
  | nil => intro A _; simp [catG, allG]
  | cons y r ih =>
    intro A h
    have hy := h y List.mem_cons_self
    have hr := fun x hx => h x (List.mem_cons_of_mem _ hx)
    have hc : catG (y :: r) = gammaBits y ++ catG r := by simp [catG]
    by_cases h0 : 0 < y
    · rw [List.filter_cons_of_pos (by simpa using h0), List.length_cons, allG, hc, ← List.append_assoc, getG_mid A (catG r) y h0 hy.2]
      have := ih (A ++ gammaBits y) hr
      rw [show (A ++ gammaBits y).length = A.length + (gammaBits y).length from List.length_append] at this
      simp only []
      rw [show (A.length : Int) + ((gammaBits y).length : Int) = ((A.length + (gammaBits y).length : Nat) : Int) from rfl, this]
      rfl
    · have e : y = 0 := by omega
      have hg : gammaBits y = [] := if_pos e
      rw [List.filter_cons_of_neg (by simpa using h0), hc, hg, List.nil_append]
      exact ih A hr
theorem getG_end (L : List Bool) : getG L (L.length : Int) = none := by
  unfold getG
  rw [if_neg (by omega), Int.toNat_natCast, List.drop_length]
  have e : zeros ([] : List Bool) 64 = 0 := rfl
  rw [e, if_neg (by decide), numAt_none (by omega)]
  rfl
theorem allG_over (L : List Bool) : ∀ (n : Nat) (t e : Int) (l : List Int), allG L t n = some (l, e) → getG L e = none → allG L t (n + 1) = none := by
  intro n
  induction n with
  | zero => intro t e l h hg; simp only [allG, Option.some.injEq, Prod.mk.injEq] at h; rw [allG, h.2, hg]
  | succ n ih =>
    intro t e l h hg
    rw [allG] at h ⊢
    cases hgt : getG L t with
    | none => rfl
    | some q =>
      obtain ⟨x, t2⟩ := q
      rw [hgt] at h
      simp only [] at h
      cases hq : allG L t2 n with
      | none => rw [hq] at h; cases h
      | some q =>
        obtain ⟨l2, e2⟩ := q
        rw [hq] at h
        simp only [Option.map_some, Option.some.injEq, Prod.mk.injEq] at h
        have := ih t2 e2 l2 hq (by rw [h.2]; exact hg)
        simp only []
        rw [this]
        rfl
theorem digits_l0 : ∀ (d : Nat) (x : Nat) (n : Nat), x < 2 ^ d → d ≤ 64 → n + d < 1000 → Ev (fun r => loessref6_digits.l0 r (x : Int) (n : Int)) (((n + Lib.bitLen x : Nat)) : Int) := by
  intro d
  induction d with
  | zero =>
    intro x n hx _ _
    obtain rfl : x = 0 := by omega
    refine Ev.step (f := fun _ => some ((n : Int))) (fun r => ?_) (evEq (Ev.now _) rfl)
    simp only [loessref6_digits.l0]
    rw [if_neg (by omega)]
  | succ d ih =>
    intro x n hx hd hn
    by_cases h0 : x = 0
    · subst h0
      refine Ev.step (f := fun _ => some ((n : Int))) (fun r => ?_) (evEq (Ev.now _) rfl)
      simp only [loessref6_digits.l0]
      rw [if_neg (by omega)]
    · have h64 : x < 2 ^ 64 := Nat.lt_of_lt_of_le hx (Nat.pow_le_pow_right (by decide) hd)
      have hb := Lib.bitLen_half x h0 h64
      have hq : (x : Int) / 2 = ((x / 2 : Nat) : Int) := by omega
      have hpos : (x : Int) > 0 := by omega
      have h1 := ih (x / 2) (n + 1) (by rw [Nat.pow_succ] at hx; omega) (by omega) (by omega)
      have hw : wrap64 ((n : Int) + 1) = ((n + 1 : Nat) : Int) := by rw [w64 (by omega) (by omega)]; rfl
      refine evEq (Ev.step (f := fun r => loessref6_digits.l0 r ((x / 2 : Nat) : Int) ((n + 1 : Nat) : Int)) (fun r => ?_) h1) ?_
      · simp only [loessref6_digits.l0]
        rw [if_pos hpos, hq, hw]
      · rw [hb]
        congr 1
        omega
theorem digits_ev {x : Int} (h0 : 0 ≤ x) (h1 : x < 18446744073709551616) : Ev (fun r => loessref6_digits.f r x) (Lib.bitLen x.toNat : Int) := by
  obtain ⟨x, rfl⟩ := Int.eq_ofNat_of_zero_le h0
  unfold loessref6_digits.f
  have := digits_l0 64 x 0 (by omega) (Nat.le_refl _) (by omega)
  rw [Nat.zero_add] at this
  exact this
theorem put_l0 (x : Int) (h0 : 0 ≤ x) (h1 : x < 18446744073709551616) : ∀ (n : Nat) (L : List Bool), n ≤ 64 → L.length + n < 100000000000 → Ev (fun r => loessref6_Bits_PutNum.l0 r x L ((n : Int) - 1)) (L ++ numBits x n) := by
  intro n
  induction n with
  | zero =>
    intro L _ _
    refine Ev.step (f := fun _ => some L) (fun r => ?_) (evEq (Ev.now _) (by simp [numBits]))
    simp only [loessref6_Bits_PutNum.l0]
    rw [if_neg (by omega)]
  | succ n ih =>
    intro L hn hL
    have e : ((n + 1 : Nat) : Int) - 1 = (n : Int) := by omega
    have h3 := ih (L ++ [x / 2 ^ n % 2 == 1]) (by omega) (by rw [List.length_append, List.length_singleton]; omega)
    rw [List.append_assoc] at h3
    have hge : (n : Int) ≥ 0 := by omega
    have hlt : L.length < 140737488355328 := by omega
    have hmin : min (n : Int).toNat 64 = n := by omega
    have hu : IntKind.u64.wrap (n : Int) = (n : Int) := u64 (by omega) (by omega)
    have hw : wrap64 ((n : Int) - 1) = (n : Int) - 1 := w64 (by omega) (by omega)
    have hs : shr .u64 x (n : Int) = x / 2 ^ n := by
      unfold shr
      rw [show IntKind.u64.bits = 64 from rfl, hmin]
    rw [e]
    refine Ev.step (f := fun r => loessref6_Bits_PutNum.l0 r x (L ++ [x / 2 ^ n % 2 == 1]) ((n : Int) - 1)) (fun r => ?_) h3
    simp only [loessref6_Bits_PutNum.l0]
    rw [if_pos hge, hu, if_pos hge, if_pos hlt, hs, and1_shr n h0 h1, hw]
theorem putNum_ev (L : List Bool) (x : Int) (n : Nat) (h0 : 0 ≤ x) (h1 : x < 18446744073709551616) (hn : n ≤ 64) (hL : L.length < 10000000000) : Ev (fun r => loessref6_Bits_PutNum.f r L x (n : Int)) (L ++ numBits x n) := by
  have h3 := put_l0 x h0 h1 n L hn (by omega)
  have e0 : ([] : List Bool).length + L.length < 140737488355328 := by simp; omega
  have e1 : ¬ (n : Int) < 0 := by omega
  have e2 : decide ((n : Int) > 64) = false := decide_eq_false (by omega)
  have hw : wrap64 ((n : Int) - 1) = (n : Int) - 1 := w64 (by omega) (by omega)
  unfold loessref6_Bits_PutNum.f
  simp only [if_pos e0, Option.bind_some, List.nil_append, if_neg e1, e2]
  refine Ev.step (f := fun r => loessref6_Bits_PutNum.l0 r x L ((n : Int) - 1)) (fun r => ?_) h3
  simp only [loessref6_Bits_PutNum.j0]
  rw [if_neg (by simp), hw]
theorem gamma_ev {x : Int} (h0 : 0 ≤ x) (h1 : x < 18446744073709551616) : Ev (fun r => loessref6_Gamma.f r x) (gammaBits x) := by
  unfold loessref6_Gamma.f gammaBits
  by_cases hx : x = 0
  · simp only [if_pos hx]
    exact Ev.now _
  · simp only [if_neg hx]
    have hb := Lib.bitLen_le x.toNat 64 (Nat.le_refl _) (by omega)
    have hp := bitLen_pos (n := x.toNat) (by omega)
    obtain ⟨k, hk⟩ : ∃ k, k = Lib.bitLen x.toNat := ⟨_, rfl⟩
    have hd := digits_ev h0 h1
    rw [← hk] at hb hp hd ⊢
    have hw : wrap64 ((k : Int) - 1) = ((k - 1 : Nat) : Int) := by rw [w64 (by omega) (by omega)]; omega
    have e1 : (0 : Int) ≤ ((k - 1 : Nat) : Int) := by omega
    have e2 : ((k - 1 : Nat) : Int).toNat ≤ 281474976710656 := by omega
    refine Ev.bind hd ?_
    have h3 := putNum_ev (List.replicate (k - 1) false) x k h0 h1 hb (by rw [List.length_replicate]; omega)
    rw [numBits_zero]
    refine Ev.congr (f := fun r => (loessref6_Bits_PutNum.f r (List.replicate (k - 1) false) x (k : Int)).bind fun t => some t) (fun r => ?_) (Ev.bind h3 (Ev.now _))
    rw [hw, if_pos e1, if_pos e2]
    rfl
end Go.Proofs.Ytobdfehpbgcloaa.GL
