/- The functions of package runes and of its reference tell what QRunes says. -/
import Derived.Test.YtbeoegdkoodlfaaQRunes
import Derived.Test.YtbeoegdkoodlfaaGRunes
set_option linter.unusedVariables false
set_option linter.unusedSimpArgs false
namespace Go.Proofs.Ytbeoegdkoodlfaa.Q
open Go.RowKit Go.Proofs.YtbeoegdkoodlfaaW.PrintWords Go.Proofs.YtbeoegdkoodlfaaW.PrintMore Go.Proofs.Ytbeoegdkoodlfaa.G
/-- Where each rune begins. -/
def withPos : List Rn → Nat → List (Int × Nat)
  | [], _ => []
  | d :: r, p => (d.1, p) :: withPos r (p + d.2.1)
theorem withPos_len (d : List Rn) (p : Nat) : (withPos d p).length = d.length := by
  induction d generalizing p with
  | nil => rfl
  | cons a d ih => simp [withPos, ih]
theorem withPos_fst (d : List Rn) (p : Nat) : (withPos d p).map (·.1) = d.map (·.1) := by
  induction d generalizing p with
  | nil => rfl
  | cons a d ih => simp [withPos, ih]
theorem drop_ne {s : ByteArray} {p : Nat} (h : p < s.size) : (bytesOf s).drop p ≠ [] := by
  intro hh
  have := congrArg List.length hh
  rw [List.length_drop, bytesOf_length, List.length_nil] at this
  omega
theorem dec_fits_at {s : ByteArray} {p : Nat} (h : p < s.size) : p + (dec ((bytesOf s).drop p)).2.1 ≤ s.size := by
  have := dec_fits (List.length_pos_iff.2 (drop_ne h))
  rw [List.length_drop, bytesOf_length] at this
  omega
theorem runesAt_eq (s : ByteArray) : ∀ (f p : Nat), s.size ≤ p + f → runesAt s f p = withPos (ds ((bytesOf s).drop p)) p := by
  intro f
  induction f with
  | zero =>
    intro p hp
    rw [List.drop_of_length_le (by rw [bytesOf_length]; omega), ds_nil]
    rfl
  | succ f ih =>
    intro p hp
    unfold runesAt
    by_cases h : p < s.size
    · have e := decode_eq s p h
      simp only [Prod.mk.injEq] at e
      have hw := dec_width ((bytesOf s).drop p)
      rw [if_pos h, ds_cons (drop_ne h), e.1, e.2, ih _ (by omega), List.drop_drop]
      rfl
    · rw [if_neg h, List.drop_of_length_le (by rw [bytesOf_length]; omega), ds_nil]
      rfl
theorem validAt_eq (s : ByteArray) : ∀ (f p : Nat) (l : Int), s.size ≤ p + f → p ≤ s.size → (l = -1 ∨ (0 ≤ l ∧ l + 1 ≤ p)) →
    validAt s f p l = (!(decide (0 ≤ l ∧ (p : Int) = l + 1)) && (ds ((bytesOf s).drop p)).all (·.2.2)) := by
  intro f
  induction f with
  | zero =>
    intro p l hp hle hl
    rw [List.drop_of_length_le (by rw [bytesOf_length]; omega), ds_nil]
    unfold validAt
    simp only [List.all_nil, Bool.and_true]
    rw [Bool.eq_iff_iff]
    simp only [Bool.or_eq_true, decide_eq_true_eq, Bool.not_eq_true', decide_eq_false_iff_not]
    omega
  | succ f ih =>
    intro p l hp hle hl
    unfold validAt
    by_cases h : p < s.size
    · have e := decode_eq s p h
      simp only [Prod.mk.injEq] at e
      have hw := dec_width ((bytesOf s).drop p)
      have hf := dec_fits_at h
      have hok := dec_ok_iff ((bytesOf s).drop p) ((byt_bytesOf s).drop p)
      rw [if_pos h, ds_cons (drop_ne h), e.1, e.2]
      by_cases h1 : 0 ≤ l ∧ (p : Int) = l + 1
      · rw [if_pos h1, decide_eq_true h1]
        rfl
      · rw [if_neg h1, decide_eq_false h1]
        simp only [Bool.not_false, Bool.true_and, List.all_cons]
        by_cases h2 : (dec ((bytesOf s).drop p)).1 = 65533
        · rw [if_pos h2, ih _ _ (by omega) hf (by omega), List.drop_drop]
          congr 1
          by_cases h3 : (dec ((bytesOf s).drop p)).2.1 = 1
          · rw [hok.2 ⟨h2, h3⟩, decide_eq_true (by omega)]
            rfl
          · have : (dec ((bytesOf s).drop p)).2.2 = true := by
              cases hh : (dec ((bytesOf s).drop p)).2.2
              · exact absurd (hok.1 hh).2 h3
              · rfl
            rw [this, decide_eq_false (by omega)]
            rfl
        · rw [if_neg h2, ih _ _ (by omega) hf (by omega), List.drop_drop]
          have : (dec ((bytesOf s).drop p)).2.2 = true := by
            cases hh : (dec ((bytesOf s).drop p)).2.2
            · exact absurd (hok.1 hh).1 h2
            · rfl
          rw [this, decide_eq_false (by omega)]
          rfl
    · rw [if_neg h, List.drop_of_length_le (by rw [bytesOf_length]; omega), ds_nil]
      simp only [List.all_nil, Bool.and_true]
      rw [Bool.eq_iff_iff]
      simp only [Bool.or_eq_true, decide_eq_true_eq, Bool.not_eq_true', decide_eq_false_iff_not]
      omega
theorem atAt_eq (s : ByteArray) (n : Int) : ∀ (f p k : Nat), s.size ≤ p + f → (n < 0 ∨ (k : Int) ≤ n) →
    atAt s n f p k = match (if n < 0 then none else (withPos (ds ((bytesOf s).drop p)) p)[n.toNat - k]?) with
      | none => (0, 0, false)
      | some x => (x.1, (x.2 : Int), true) := by
  intro f
  induction f with
  | zero =>
    intro p k hp hk
    rw [List.drop_of_length_le (by rw [bytesOf_length]; omega), ds_nil]
    unfold atAt
    split <;> simp_all [withPos]
  | succ f ih =>
    intro p k hp hk
    unfold atAt
    by_cases h : p < s.size
    · have e := decode_eq s p h
      simp only [Prod.mk.injEq] at e
      have hw := dec_width ((bytesOf s).drop p)
      rw [if_pos h, ds_cons (drop_ne h), e.1, e.2]
      by_cases h1 : (k : Int) = n
      · rw [if_pos h1, if_neg (by omega), show n.toNat - k = 0 by omega]
        rfl
      · rw [if_neg h1, ih _ _ (by omega) (by omega), List.drop_drop]
        by_cases h2 : n < 0
        · rw [if_pos h2, if_pos h2]
        · rw [if_neg h2, if_neg h2, show n.toNat - k = (n.toNat - (k + 1)) + 1 by omega]
          rfl
    · rw [if_neg h, List.drop_of_length_le (by rw [bytesOf_length]; omega), ds_nil]
      split <;> simp_all [withPos]
theorem withPos_get (d : List Rn) (p i : Nat) (h : i < d.length) : (withPos d p)[i]? = some ((d[i]).1, p + wd (d.take i)) := by
  induction d generalizing p i with
  | nil => simp at h
  | cons a d ih =>
    cases i with
    | zero => simp [withPos, wd]
    | succ i =>
      simp only [List.length_cons] at h
      simp only [withPos, List.getElem?_cons_succ, ih _ _ (by omega : i < d.length), List.getElem_cons_succ, List.take_succ_cons, wd, List.map_cons, List.sum_cons]
      simp only [Option.some.injEq, Prod.mk.injEq, true_and]
      omega
theorem empty_size : (⟨#[]⟩ : ByteArray).size = 0 := rfl
theorem bytes_empty : bytesOf (⟨#[]⟩ : ByteArray) = [] := rfl
theorem cutAt_eq (s : ByteArray) (n : Int) : ∀ (f p k : Nat), s.size ≤ p + f → p ≤ s.size → (0 < n → (k : Int) ≤ n) → (n ≤ 0 → p = 0 ∧ k = 0) →
    bytesOf (cutAt s n f p k) = if n ≤ 0 then [] else (bytesOf s).take (p + wd ((ds ((bytesOf s).drop p)).take (n.toNat - k))) := by
  intro f
  induction f with
  | zero =>
    intro p k hp hle hk h0
    rw [List.drop_of_length_le (by rw [bytesOf_length]; omega), ds_nil]
    unfold cutAt
    split
    · rfl
    · rw [List.take_of_length_le]; rw [bytesOf_length]; omega
  | succ f ih =>
    intro p k hp hle hk h0
    unfold cutAt
    by_cases h : p < s.size
    · have e := decode_eq s p h
      simp only [Prod.mk.injEq] at e
      have hw := dec_width ((bytesOf s).drop p)
      have hf := dec_fits_at h
      rw [if_pos h]
      by_cases hn : n ≤ 0
      · obtain ⟨rfl, rfl⟩ := h0 hn
        rw [if_pos (by omega), if_pos hn, bytesOf_extract]
        rfl
      · rw [if_neg hn]
        by_cases h1 : (k : Int) ≥ n
        · have := hk (by omega)
          rw [if_pos h1, show n.toNat - k = 0 by omega, bytesOf_extract]
          simp [wd]
        · rw [if_neg h1, e.2, ih _ _ (by omega) hf (fun _ => by omega) (fun hh => absurd hh hn), if_neg hn]
          congr 1
          conv => rhs; rw [ds_cons (drop_ne h), show n.toNat - k = (n.toNat - (k + 1)) + 1 by omega, List.take_succ_cons]
          simp only [wd, List.map_cons, List.sum_cons, List.drop_drop]
          omega
    · rw [if_neg h, List.drop_of_length_le (by rw [bytesOf_length]; omega), ds_nil]
      split
      · rfl
      · rw [List.take_of_length_le]; rw [bytesOf_length]; omega
/-- All runes of a text. -/
def D (s : ByteArray) : List Rn := ds (bytesOf s)
theorem D_wd (s : ByteArray) : wd (D s) = s.size := by rw [D, ds_wd _ _ (Nat.le_refl _), bytesOf_length]
theorem D_len (s : ByteArray) : (D s).length ≤ s.size := by rw [← bytesOf_length]; exact ds_len_le _ _ (Nat.le_refl _)
def vld (s : ByteArray) : Bool := (D s).all (·.2.2)
theorem rValid {s : ByteArray} (h : s.size < 35184372088832) : runes_Valid.f s = some (vld s) := by
  unfold runes_Valid.f
  rw [if_pos (by omega), validAt_eq s s.size 0 (-1) (by omega) (by omega) (.inl rfl), List.drop_zero, decide_eq_false (by omega)]
  rfl
/-- The first runes' bytes. -/
def cutB (s : ByteArray) (n : Int) : List Int := (bytesOf s).take (wd ((D s).take n.toNat))
end Go.Proofs.Ytbeoegdkoodlfaa.Q
