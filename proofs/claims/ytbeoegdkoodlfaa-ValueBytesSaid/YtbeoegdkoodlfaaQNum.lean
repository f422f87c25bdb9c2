/- Numbers as bytes, in plain Lean: what is written of a number, what is read of bytes, and that the one undoes the other. -/
import Derived.Test.YtbeoegdkoodlfaaQBase
set_option linter.unusedVariables false
set_option linter.unusedSimpArgs false
namespace Go.Proofs.Ytbeoegdkoodlfaa.Q
open Go.RowKit Go.Proofs.YtbeoegdkoodlfaaW.PrintWords Go.Proofs.YtbeoegdkoodlfaaW.PrintMore
def putU (u : Nat) : List Int := if u < 128 then [(u : Int)] else ((u % 128 + 128 : Nat) : Int) :: putU (u / 128)
termination_by u
decreasing_by omega
theorem putU_lt {u : Nat} (h : u < 128) : putU u = [(u : Int)] := by rw [putU, if_pos h]
theorem putU_ge {u : Nat} (h : ¬ u < 128) : putU u = ((u % 128 + 128 : Nat) : Int) :: putU (u / 128) := by rw [putU, if_neg h]
def zig (n : Int) : Nat := if n < 0 then (-2 * n - 1).toNat else (2 * n).toNat
def unzig (x : Int) : Int := if x % 2 = 1 then -(x / 2) - 1 else x / 2
theorem unzig_zig (n : Int) : unzig (zig n) = n := by unfold unzig zig; split <;> split <;> omega
def I64 (n : Int) : Prop := -9223372036854775808 ≤ n ∧ n < 9223372036854775808
theorem zig_lt {n : Int} (h : I64 n) : zig n < 18446744073709551616 := by unfold zig; unfold I64 at h; split <;> omega
def putN (n : Int) : List Int := putU (zig n)
def putT (s : ByteArray) : List Int := putN s.size ++ bytesOf s
theorem putU_byt (u : Nat) : Byt (putU u) := by
  induction u using Nat.strongRecOn with
  | _ u ih =>
    by_cases h : u < 128
    · rw [putU_lt h]; exact Byt.cons (by omega) (by omega) Byt.nil
    · rw [putU_ge h]; exact Byt.cons (by omega) (by omega) (ih _ (by omega))
theorem putN_byt (n : Int) : Byt (putN n) := putU_byt _
theorem putT_byt (s : ByteArray) : Byt (putT s) := (putN_byt _).append (byt_bytesOf s)
theorem putU_pos (u : Nat) : 0 < (putU u).length := by rw [putU]; split <;> simp
theorem putN_pos (n : Int) : 0 < (putN n).length := putU_pos _
/-- u below 128^d takes d bytes at most. -/
theorem putU_len (d : Nat) : ∀ u : Nat, u < 128 ^ (d + 1) → (putU u).length ≤ d + 1 := by
  induction d with
  | zero => intro u h; rw [putU_lt (by simpa using h)]; simp
  | succ d ih =>
    intro u h
    by_cases h1 : u < 128
    · rw [putU_lt h1]; simp
    · rw [putU_ge h1]
      have : u / 128 < 128 ^ (d + 1) := by
        rw [Nat.div_lt_iff_lt_mul (by decide)]
        rw [Nat.pow_succ] at h
        exact h
      have := ih _ this
      simp only [List.length_cons]
      omega
theorem putN_len {n : Int} (h : I64 n) : (putN n).length ≤ 10 := putU_len 9 _ (Nat.lt_of_lt_of_le (zig_lt h) (by decide))
theorem putN_small {n : Int} (h0 : 0 ≤ n) (h1 : n < 64) : putN n = [2 * n] := by
  unfold putN zig
  rw [if_neg (by omega), putU_lt (by omega)]
  simp only [List.cons.injEq, and_true]
  omega
/-- What is read of bytes: the number, how many bytes, the error's number (0: none). -/
def ug : List Int → Nat → Int → Int × Int × Int
  | [], _, _ => (0, 0, 2)
  | c :: r, i, u =>
    if i = 9 ∧ c > 1 then (0, 0, 1)
    else if c > 127 then ug r (i + 1) (u + (c - 128) * 128 ^ i)
    else if i > 0 ∧ c = 0 then (0, 0, 1)
    else (unzig (u + c * 128 ^ i), i + 1, 0)
def getN (l : List Int) : Int × Int × Int := ug l 0 0
def getT (l : List Int) : ByteArray × Int × Int :=
  if (getN l).2.2 ≠ 0 then (⟨#[]⟩, 0, (getN l).2.2)
  else if (getN l).1 < 0 ∨ (getN l).1 > 65536 then (⟨#[]⟩, 0, 1)
  else if (getN l).1 > (l.length : Int) - (getN l).2.1 then (⟨#[]⟩, 0, 2)
  else (strOfNums ((l.take ((getN l).2.1 + (getN l).1).toNat).drop (getN l).2.1.toNat), (getN l).2.1 + (getN l).1, 0)
theorem p128 (i : Nat) : (0 : Int) < 128 ^ i := by
  have := Nat.pow_pos (n := i) (show 0 < 128 by decide)
  exact_mod_cast this
theorem pow128_mono {i j : Nat} (h : i ≤ j) : (128 : Int) ^ i ≤ 128 ^ j := by
  have := Nat.pow_le_pow_right (n := 128) (by decide) h
  exact_mod_cast this
theorem ug_put (u : Nat) : ∀ (rest : List Int) (i : Nat) (acc : Int), (u : Int) * 128 ^ i + acc < 18446744073709551616 → (i > 0 → 0 < u) → 0 ≤ acc →
    ug (putU u ++ rest) i acc = (unzig (acc + u * 128 ^ i), (i : Int) + ((putU u).length : Int), 0) := by
  induction u using Nat.strongRecOn with
  | _ u ih =>
    intro rest i acc hb hp ha
    have h9 : ∀ v : Nat, i = 9 → v ≤ u → (v : Int) ≤ 1 := by
      intro v hi hv
      subst hi
      have : ((u : Int)) * 128 ^ 9 < 18446744073709551616 := by omega
      omega
    by_cases h : u < 128
    · rw [putU_lt h]
      simp only [List.cons_append, List.nil_append, ug, List.length_cons, List.length_nil]
      rw [if_neg (fun hh => by have := h9 u hh.1 (Nat.le_refl _); omega), if_neg (by omega), if_neg (fun hh => by have := hp hh.1; omega)]
      simp
    · rw [putU_ge h]
      have hi9 : i ≠ 9 := fun hi => by have := h9 u hi (Nat.le_refl _); omega
      simp only [List.cons_append, ug, List.length_cons]
      rw [if_neg (fun hh => hi9 hh.1), if_pos (by omega)]
      have hm : ((u % 128 + 128 : Nat) : Int) - 128 = (u : Int) % 128 := by omega
      have he : acc + (u : Int) % 128 * 128 ^ i + ((u / 128 : Nat) : Int) * 128 ^ (i + 1) = acc + u * 128 ^ i := by
        have h2 : (u : Int) = u % 128 + ((u / 128 : Nat) : Int) * 128 := by omega
        have h3 : (u : Int) * 128 ^ i = (u : Int) % 128 * 128 ^ i + ((u / 128 : Nat) : Int) * (128 * 128 ^ i) := by
          conv => lhs; rw [h2]
          rw [Int.add_mul, Int.mul_assoc]
        rw [Int.pow_succ, h3, Int.mul_comm (128 ^ i) 128]
        omega
      rw [hm, ih (u / 128) (by omega) rest (i + 1) _ (by rw [Int.add_comm, he]; omega) (fun _ => by omega) (Int.add_nonneg ha (Int.mul_nonneg (by omega) (Int.le_of_lt (p128 i))))]
      rw [he]
      simp only [Prod.mk.injEq, true_and, and_true]
      omega
theorem getN_put {n : Int} (h : I64 n) (rest : List Int) : getN (putN n ++ rest) = (n, ((putN n).length : Int), 0) := by
  have := zig_lt h
  unfold getN putN
  rw [ug_put (zig n) rest 0 0 (by simp; omega) (fun h => absurd h (by decide)) (by decide)]
  simp [unzig_zig]
theorem ug_cut (u : Nat) : ∀ (m i : Nat) (acc : Int), (u : Int) * 128 ^ i + acc < 18446744073709551616 → 0 ≤ acc → m < (putU u).length → ug ((putU u).take m) i acc = (0, 0, 2) := by
  induction u using Nat.strongRecOn with
  | _ u ih =>
    intro m i acc hb ha hm
    cases m with
    | zero => simp [ug]
    | succ m =>
      by_cases h : u < 128
      · rw [putU_lt h] at hm; simp at hm
      · rw [putU_ge h] at hm ⊢
        have hi9 : i ≠ 9 := fun hi => by
          subst hi
          have : ((u : Int)) * 128 ^ 9 < 18446744073709551616 := by omega
          omega
        simp only [List.take_succ_cons, ug]
        rw [if_neg (fun hh => hi9 hh.1), if_pos (by omega)]
        have hm' : ((u % 128 + 128 : Nat) : Int) - 128 = (u : Int) % 128 := by omega
        have he : acc + (u : Int) % 128 * 128 ^ i + ((u / 128 : Nat) : Int) * 128 ^ (i + 1) = acc + u * 128 ^ i := by
          have h2 : (u : Int) = u % 128 + ((u / 128 : Nat) : Int) * 128 := by omega
          have h3 : (u : Int) * 128 ^ i = (u : Int) % 128 * 128 ^ i + ((u / 128 : Nat) : Int) * (128 * 128 ^ i) := by
            conv => lhs; rw [h2]
            rw [Int.add_mul, Int.mul_assoc]
          rw [Int.pow_succ, h3, Int.mul_comm (128 ^ i) 128]
          omega
        rw [hm']
        refine ih (u / 128) (by omega) m (i + 1) _ (by rw [Int.add_comm, he]; omega) (Int.add_nonneg ha (Int.mul_nonneg (by omega) (Int.le_of_lt (p128 i)))) ?_
        simp only [List.length_cons] at hm
        omega
theorem getN_cut {n : Int} (h : I64 n) {m : Nat} (hm : m < (putN n).length) : getN ((putN n).take m) = (0, 0, 2) := by
  have := zig_lt h
  exact ug_cut (zig n) m 0 0 (by simp; omega) (by decide) hm
/-- What is read lies in what was there. -/
theorem ug_bound : ∀ (l : List Int) (i : Nat) (u : Int), 0 ≤ (ug l i u).2.1 ∧ (ug l i u).2.1 ≤ i + l.length ∧ ((ug l i u).2.2 = 0 → (i : Int) < (ug l i u).2.1) ∧ ((ug l i u).2.2 = 0 ∨ (ug l i u).2.2 = 1 ∨ (ug l i u).2.2 = 2) ∧ ((ug l i u).2.2 ≠ 0 → (ug l i u).1 = 0 ∧ (ug l i u).2.1 = 0) := by
  intro l
  induction l with
  | nil => intro i u; simp [ug]
  | cons c r ih =>
    intro i u
    unfold ug
    split
    · simp; omega
    · split
      · have := ih (i + 1) (u + (c - 128) * 128 ^ i)
        simp only [List.length_cons]
        omega
      · split
        · simp; omega
        · simp; omega
theorem getN_bound (l : List Int) : 0 ≤ (getN l).2.1 ∧ (getN l).2.1 ≤ l.length ∧ ((getN l).2.2 = 0 → 0 < (getN l).2.1) ∧ ((getN l).2.2 = 0 ∨ (getN l).2.2 = 1 ∨ (getN l).2.2 = 2) ∧ ((getN l).2.2 ≠ 0 → (getN l).1 = 0 ∧ (getN l).2.1 = 0) := by
  have := ug_bound l 0 0
  simpa [getN] using this
theorem ug_i64 : ∀ (l : List Int) (i : Nat) (u : Int), Byt l → i ≤ 9 → 0 ≤ u → u < 128 ^ i → I64 (ug l i u).1 := by
  intro l
  induction l with
  | nil => intro i u _ _ _ _; simp [ug, I64]
  | cons c r ih =>
    intro i u hb hi h0 h1
    have hc := hb.head
    unfold ug
    split
    · simp [I64]
    · rename_i h9
      split
      · rename_i hc1
        have hi9 : i ≠ 9 := fun h => h9 ⟨h, by omega⟩
        refine ih (i + 1) _ hb.tail (by omega) (Int.add_nonneg h0 (Int.mul_nonneg (by omega) (Int.le_of_lt (p128 i)))) ?_
        have : (c - 128) * 128 ^ i ≤ 127 * 128 ^ i := Int.mul_le_mul_of_nonneg_right (by omega) (Int.le_of_lt (p128 i))
        rw [Int.pow_succ]
        omega
      · split
        · simp [I64]
        · have : 0 ≤ u + c * 128 ^ i ∧ u + c * 128 ^ i < 18446744073709551616 := by
            refine ⟨Int.add_nonneg h0 (Int.mul_nonneg hc.1 (Int.le_of_lt (p128 i))), ?_⟩
            by_cases hi9 : i = 9
            · subst hi9
              omega
            · have h8 := pow128_mono (i := i) (j := 8) (by omega)
              have h2 : c * 128 ^ i ≤ 127 * 128 ^ i := Int.mul_le_mul_of_nonneg_right (by omega) (Int.le_of_lt (p128 i))
              have e8 : (128 : Int) ^ 8 = 72057594037927936 := rfl
              omega
          simp only
          unfold unzig I64
          split <;> omega
theorem getN_i64 {l : List Int} (h : Byt l) : I64 (getN l).1 := ug_i64 l 0 0 h (by decide) (by decide) (by simp)
/-- Bytes behind what is told say nothing of it. -/
theorem ug_append : ∀ (l rest : List Int) (i : Nat) (u : Int), (ug l i u).2.2 ≠ 2 → ug (l ++ rest) i u = ug l i u := by
  intro l
  induction l with
  | nil => intro rest i u h; simp [ug] at h
  | cons c r ih =>
    intro rest i u h
    simp only [List.cons_append]
    unfold ug at h ⊢
    split
    · rfl
    · rename_i h1
      rw [if_neg h1] at h
      split
      · rename_i h2
        rw [if_pos h2] at h
        exact ih rest _ _ h
      · rfl
/-- What is read as a number is just what is written of it. -/
theorem ug_canon : ∀ (l : List Int) (i : Nat) (u : Int), Byt l → i ≤ 9 → (ug l i u).2.2 = 0 → ∃ v : Nat, (ug l i u).1 = unzig (u + v * 128 ^ i) ∧ (ug l i u).2.1 = i + (putU v).length ∧ l.take (putU v).length = putU v ∧ (i > 0 → 0 < v) ∧ (v : Int) * 128 ^ i < 18446744073709551616 := by
  intro l
  induction l with
  | nil => intro i u _ _ h; simp [ug] at h
  | cons c r ih =>
    intro i u hb hi h
    have hc := hb.head
    unfold ug at h ⊢
    by_cases h1 : i = 9 ∧ c > 1
    · rw [if_pos h1] at h; simp at h
    · rw [if_neg h1] at h ⊢
      by_cases h2 : c > 127
      · rw [if_pos h2] at h ⊢
        have hi9 : i ≠ 9 := fun h => h1 ⟨h, by omega⟩
        obtain ⟨v, e1, e2, e3, e4, e5⟩ := ih (i + 1) _ hb.tail (by omega) h
        have hv := e4 (by omega)
        have e : ((v * 128 + (c - 128).toNat : Nat) : Int) = v * 128 + (c - 128) := by omega
        have hw : ¬ v * 128 + (c - 128).toNat < 128 := by omega
        have hd : (v * 128 + (c - 128).toNat) / 128 = v := by omega
        have hm : (((v * 128 + (c - 128).toNat) % 128 + 128 : Nat) : Int) = c := by omega
        have hp : u + ((v * 128 + (c - 128).toNat : Nat) : Int) * 128 ^ i = u + (c - 128) * 128 ^ i + v * 128 ^ (i + 1) := by
          rw [e, Int.pow_succ, Int.add_mul, Int.mul_assoc, Int.mul_comm 128 (128 ^ i)]
          omega
        refine ⟨v * 128 + (c - 128).toNat, ?_, ?_, ?_, fun _ => by omega, ?_⟩
        · rw [e1, hp]
        · rw [e2, putU_ge hw, hd]; simp only [List.length_cons]; omega
        · rw [putU_ge hw, hd, hm]; simp only [List.length_cons, List.take_succ_cons]; rw [e3]
        · rw [e, Int.add_mul]
          by_cases hi8 : i + 1 = 9
          · obtain rfl : i = 8 := by omega
            have e9 : (128 : Int) ^ (8 + 1) = 9223372036854775808 := rfl
            have e8 : (128 : Int) ^ 8 = 72057594037927936 := rfl
            rw [e9] at e5
            rw [e8]
            have : (v : Int) ≤ 1 := by omega
            omega
          · have h7 := pow128_mono (i := i) (j := 7) (by omega)
            have h0 := p128 i
            rw [Int.pow_succ] at e5
            have : (c - 128) * 128 ^ i ≤ 127 * 128 ^ i := Int.mul_le_mul_of_nonneg_right (by omega) (Int.le_of_lt (p128 i))
            have h3 : (v : Int) * 128 * 128 ^ i = v * (128 ^ i * 128) := by rw [Int.mul_assoc, Int.mul_comm 128 (128 ^ i)]
            have e7 : (128 : Int) ^ 7 = 562949953421312 := rfl
            rw [h3]
            -- v * 128^(i+1) is a multiple of 128^(i+1), below 2^64
            have hmul : (v : Int) * (128 ^ i * 128) ≤ 18446744073709551616 - 128 ^ i * 128 := by
              have hdvd : (128 : Int) ^ i * 128 ∣ 18446744073709551616 := by
                have hk : (18446744073709551616 : Int) = 128 ^ (i + 1) * (128 ^ (8 - i) * 2) := by
                  rw [← Int.mul_assoc, ← Int.pow_add, show i + 1 + (8 - i) = 9 by omega]
                  rfl
                rw [← Int.pow_succ]
                exact ⟨_, hk⟩
              obtain ⟨q, hq⟩ := hdvd
              rw [hq] at e5 ⊢
              have hq2 : (v : Int) < q := by
                rcases Int.lt_or_le (v : Int) q with h | h
                · exact h
                · have := Int.mul_le_mul_of_nonneg_left h (show (0 : Int) ≤ 128 ^ i * 128 by omega)
                  rw [Int.mul_comm (v : Int)] at e5
                  omega
              have := Int.mul_le_mul_of_nonneg_left (show (v : Int) ≤ q - 1 by omega) (show (0 : Int) ≤ 128 ^ i * 128 by omega)
              rw [Int.mul_comm (v : Int), Int.mul_sub] at *
              omega
            omega
      · rw [if_neg h2] at h ⊢
        by_cases h3 : i > 0 ∧ c = 0
        · rw [if_pos h3] at h; simp at h
        · rw [if_neg h3]
          have hl : c.toNat < 128 := by omega
          refine ⟨c.toNat, ?_, ?_, ?_, fun hh => ?_, ?_⟩
          · simp only [show ((c.toNat : Nat) : Int) = c by omega]
          · rw [putU_lt hl]; simp
          · rw [putU_lt hl]; simp; omega
          · rcases Nat.eq_zero_or_pos c.toNat with h | h
            · exact absurd ⟨hh, by omega⟩ h3
            · exact h
          · rw [show ((c.toNat : Nat) : Int) = c by omega]
            by_cases hi9 : i = 9
            · subst hi9
              omega
            · have h8 := pow128_mono (i := i) (j := 8) (by omega)
              have h2 : c * 128 ^ i ≤ 127 * 128 ^ i := Int.mul_le_mul_of_nonneg_right (by omega) (Int.le_of_lt (p128 i))
              have e8 : (128 : Int) ^ 8 = 72057594037927936 := rfl
              omega
theorem zig_unzig (v : Nat) : zig (unzig v) = v := by unfold zig unzig; split <;> split <;> omega
theorem getN_canon {l : List Int} (hb : Byt l) (h : (getN l).2.2 = 0) : l.take (getN l).2.1.toNat = putN (getN l).1 ∧ (getN l).2.1 = (putN (getN l).1).length := by
  obtain ⟨v, e1, e2, e3, _, _⟩ := ug_canon l 0 0 hb (by decide) h
  have e4 : putN (getN l).1 = putU v := by
    unfold putN getN
    rw [e1]
    simp only [Int.pow_zero, Int.mul_one, Int.zero_add, zig_unzig]
  rw [e4]
  unfold getN
  rw [e2]
  simp only [Int.natCast_zero, Int.zero_add, Int.toNat_natCast, and_true]
  exact e3
theorem putU_inj {a b : Nat} (ha : a < 18446744073709551616) (hb : b < 18446744073709551616) {r q : List Int} (h : putU a ++ r = putU b ++ q) : a = b ∧ r = q := by
  have h1 := ug_put a r 0 0 (by simp; omega) (fun h => absurd h (by decide)) (by decide)
  have h2 := ug_put b q 0 0 (by simp; omega) (fun h => absurd h (by decide)) (by decide)
  rw [h, h2] at h1
  simp only [Int.pow_zero, Int.mul_one, Int.zero_add, Prod.mk.injEq] at h1
  have e : a = b := by
    have := congrArg zig h1.1
    rw [zig_unzig, zig_unzig] at this
    exact this.symm
  subst e
  exact ⟨rfl, List.append_cancel_left h⟩
theorem putN_inj {a b : Int} (ha : I64 a) (hb : I64 b) {r q : List Int} (h : putN a ++ r = putN b ++ q) : a = b ∧ r = q := by
  have := putU_inj (zig_lt ha) (zig_lt hb) h
  refine ⟨?_, this.2⟩
  rw [← unzig_zig a, ← unzig_zig b, this.1]
theorem putT_inj {a b : ByteArray} (ha : a.size ≤ 9223372036854775807) (hb : b.size ≤ 9223372036854775807) {r q : List Int} (h : putT a ++ r = putT b ++ q) : a = b ∧ r = q := by
  unfold putT at h
  rw [List.append_assoc, List.append_assoc] at h
  obtain ⟨h1, h2⟩ := putN_inj (by unfold I64; omega) (by unfold I64; omega) h
  have hl : (bytesOf a).length = (bytesOf b).length := by rw [bytesOf_length, bytesOf_length]; omega
  have := List.append_inj h2 hl
  exact ⟨bytesOf_inj this.1, this.2⟩
theorem getT_put {s : ByteArray} (h : s.size ≤ 65536) (rest : List Int) : getT (putT s ++ rest) = (s, ((putT s).length : Int), 0) := by
  have hi : I64 (s.size : Int) := by unfold I64; omega
  have hg : getN (putT s ++ rest) = ((s.size : Int), ((putN s.size).length : Int), 0) := by unfold putT; rw [List.append_assoc]; exact getN_put hi _
  have hl := bytesOf_length s
  unfold getT
  rw [hg]
  simp only [ne_eq, not_true_eq_false, if_false]
  rw [if_neg (by omega), if_neg (by unfold putT; simp only [List.length_append]; omega)]
  have e1 : (((putN s.size).length : Int) + (s.size : Int)).toNat = (putT s).length := by unfold putT; simp only [List.length_append]; omega
  rw [e1, List.take_left']
  · have e2 : (putT s).drop (putN (s.size : Int)).length = bytesOf s := by unfold putT; exact List.drop_left
    rw [Int.toNat_natCast, e2, str_bytesOf]
    unfold putT
    simp only [List.length_append]
    congr 2
    omega
  · rfl
theorem getT_cut {s : ByteArray} (h : s.size ≤ 65536) {m : Nat} (hm : m < (putT s).length) : getT ((putT s).take m) = (⟨#[]⟩, 0, 2) := by
  have hi : I64 (s.size : Int) := by unfold I64; omega
  have hl := bytesOf_length s
  rcases Nat.lt_or_ge m (putN (s.size : Int)).length with h1 | h1
  · have e : (putT s).take m = (putN (s.size : Int)).take m := by unfold putT; rw [List.take_append_of_le_length (by omega)]
    unfold getT
    rw [e, getN_cut hi h1]
    simp
  · have e : (putT s).take m = putN (s.size : Int) ++ (bytesOf s).take (m - (putN (s.size : Int)).length) := by
      unfold putT; rw [List.take_append]; congr 1; exact List.take_of_length_le h1
    have hlen : (putT s).length = (putN (s.size : Int)).length + s.size := by unfold putT; rw [List.length_append, hl]
    unfold getT
    rw [e, getN_put hi]
    simp only [ne_eq, not_true_eq_false, if_false]
    rw [if_neg (by omega), if_pos (by simp only [List.length_append, List.length_take]; omega)]
theorem getT_bound (l : List Int) : 0 ≤ (getT l).2.1 ∧ (getT l).2.1 ≤ l.length ∧ ((getT l).2.2 = 0 → 0 < (getT l).2.1) ∧ ((getT l).2.2 ≠ 0 → (getT l).1 = ⟨#[]⟩ ∧ (getT l).2.1 = 0) := by
  have hb := getN_bound l
  unfold getT
  split
  · simp_all
  · split
    · simp
    · split
      · simp
      · simp only [ne_eq, not_true_eq_false, false_implies, and_true]
        have := hb.2.2.1 (by simp_all)
        omega
/-- What is read as a text is just what is written of it. -/
theorem getT_canon {l : List Int} (hb : Byt l) (h : (getT l).2.2 = 0) : l.take (getT l).2.1.toNat = putT (getT l).1 ∧ (getT l).2.1 = (putT (getT l).1).length ∧ (getT l).1.size ≤ 65536 := by
  have hbd := getN_bound l
  unfold getT at h ⊢
  by_cases h0 : (getN l).2.2 ≠ 0
  · rw [if_pos h0] at h; exact absurd h h0
  · rw [if_neg h0] at h ⊢
    by_cases h1 : (getN l).1 < 0 ∨ (getN l).1 > 65536
    · rw [if_pos h1] at h; simp at h
    · rw [if_neg h1] at h ⊢
      by_cases h2 : (getN l).1 > (l.length : Int) - (getN l).2.1
      · rw [if_pos h2] at h; simp at h
      · rw [if_neg h2] at h ⊢
        have h0' : (getN l).2.2 = 0 := by simpa using h0
        obtain ⟨c1, c2⟩ := getN_canon hb h0'
        simp only
        have hz : (strOfNums ((l.take ((getN l).2.1 + (getN l).1).toNat).drop (getN l).2.1.toNat)).size = ((getN l).1).toNat := by
          rw [strOfNums_size]; simp only [List.length_drop, List.length_take]; omega
        have hbt : bytesOf (strOfNums ((l.take ((getN l).2.1 + (getN l).1).toNat).drop (getN l).2.1.toNat)) = (l.take ((getN l).2.1 + (getN l).1).toNat).drop (getN l).2.1.toNat := bytesOf_str ((hb.take _).drop _)
        have e : putT (strOfNums ((l.take ((getN l).2.1 + (getN l).1).toNat).drop (getN l).2.1.toNat)) = l.take ((getN l).2.1 + (getN l).1).toNat := by
          unfold putT
          rw [hz, hbt, show (((getN l).1.toNat : Nat) : Int) = (getN l).1 by omega, ← c1]
          have : l.take (getN l).2.1.toNat = (l.take ((getN l).2.1 + (getN l).1).toNat).take (getN l).2.1.toNat := by rw [List.take_take, Nat.min_eq_left (by omega)]
          rw [this, List.take_append_drop]
        rw [e, hz]
        refine ⟨rfl, ?_, by omega⟩
        rw [List.length_take]
        omega
end Go.Proofs.Ytbeoegdkoodlfaa.Q
