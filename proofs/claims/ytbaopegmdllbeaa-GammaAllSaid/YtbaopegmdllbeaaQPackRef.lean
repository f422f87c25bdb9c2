/- The document's Bytes of bits in plain Lean: the references' Bits.Bytes answers as pack. -/
import Derived.Test.YtbaopegmdllbeaaGBitsAt
import Derived.Test.YtbaopegmdllbeaaXBitx41
set_option linter.unusedVariables false
set_option linter.unusedSimpArgs false
namespace Go.Proofs.Ytbaopegmdllbeaa.GL
open Go.RowKit Go.Proofs.YtbaopegmdllbeaaW.PrintWords Go.Proofs.YtbaopegmdllbeaaW.PrintMore Go.Proofs.Ytbaopegmdllbeaa.Q Go.Proofs.Ytbaopegmdllbeaa.XBit
/-- The bytes of the first bits, noughts behind. -/
def packTo (L : List Bool) (m i : Nat) : List Int := pack (L.take i) ++ List.replicate (m - (i + 7) / 8) 0
theorem shr128 {r : Nat} (hr : r < 8) : shr .u8 128 (r : Int) = 2 ^ (7 - r) % 256 := by
  have : r = 0 ∨ r = 1 ∨ r = 2 ∨ r = 3 ∨ r = 4 ∨ r = 5 ∨ r = 6 ∨ r = 7 := by omega
  rcases this with rfl | rfl | rfl | rfl | rfl | rfl | rfl | rfl <;> rfl
theorem packTo_false (L : List Bool) (m i : Nat) (hi : i < L.length) (hm : (L.length + 7) / 8 = m) (hb : L[i] = false) : packTo L m (i + 1) = packTo L m i := by
  unfold packTo
  rw [List.take_succ_eq_append_getElem hi, hb]
  have hl : (L.take i).length = i := by rw [List.length_take]; omega
  by_cases h8 : i % 8 = 0
  · rw [(pack_new (L.take i) (by rw [hl]; exact h8)).1, List.append_assoc]
    congr 1
    rw [show m - (i + 7) / 8 = (m - (i + 1 + 7) / 8) + 1 by omega, List.replicate_succ]
    rfl
  · rw [pack_old0 (L.take i) (by rw [hl]; exact h8)]
    congr 2
    omega
theorem packTo_true (L : List Bool) (m i : Nat) (hi : i < L.length) (hm : (L.length + 7) / 8 = m) (hb : L[i] = true) : packTo L m (i + 1) = (packTo L m i).set (i / 8) (Go.bits .or .u8 ((packTo L m i).getD (i / 8) 0) (2 ^ (7 - i % 8) % 256)) := by
  unfold packTo
  rw [List.take_succ_eq_append_getElem hi, hb]
  have hl : (L.take i).length = i := by rw [List.length_take]; omega
  have hpl : (pack (L.take i)).length = (i + 7) / 8 := by rw [pack_len, hl]
  by_cases h8 : i % 8 = 0
  · rw [(pack_new (L.take i) (by rw [hl]; exact h8)).2, List.append_assoc]
    have e : i / 8 = (pack (L.take i)).length := by rw [hpl]; omega
    have e2 : m - (i + 7) / 8 = (m - (i + 1 + 7) / 8) + 1 := by omega
    rw [e2, List.replicate_succ, e, List.set_append_right _ _ (Nat.le_refl _), Nat.sub_self, List.getD_eq_getElem?_getD, List.getElem?_append_right (Nat.le_refl _), Nat.sub_self, h8]
    simp only [List.set_cons_zero, List.getElem?_cons_zero, Option.getD_some]
    rw [show Go.bits .or .u8 0 (2 ^ (7 - 0) % 256) = 128 from rfl]
    rfl
  · have hlt : i / 8 < (pack (L.take i)).length := by rw [hpl]; omega
    rw [pack_old1 (L.take i) (by rw [hl]; exact h8), hl, List.set_append_left _ _ hlt, List.getD_eq_getElem?_getD, List.getD_eq_getElem?_getD, List.getElem?_append_left hlt]
    congr 2
    omega
theorem packTo_len (L : List Bool) (m i : Nat) (hi : i ≤ L.length) (hm : (L.length + 7) / 8 = m) : (packTo L m i).length = m := by
  unfold packTo
  rw [List.length_append, pack_len, List.length_replicate, List.length_take]
  omega
theorem bytes_l0 (L : List Bool) (m : Nat) (hl : L.length < 100000000000) (hm : (L.length + 7) / 8 = m) :
    ∀ d i, L.length = i + d → Ev (fun r => loessref6_Bits_Bytes.l0 r L (packTo L m i) (i : Int)) (pack L) := by
  intro d
  induction d with
  | zero =>
    intro i hi
    have e : packTo L m i = pack L := by
      unfold packTo
      rw [List.take_of_length_le (by omega), show m - (i + 7) / 8 = 0 by omega]
      simp
    refine Ev.step (f := fun _ => some (pack L)) (fun r => ?_) (Ev.now _)
    simp only [loessref6_Bits_Bytes.l0]
    rw [if_neg (by omega), e]
  | succ d ih =>
    intro i hi
    have hil : i < L.length := by omega
    have hrd : rdOf false L (i : Int) = L[i] := by
      unfold rdOf
      rw [Int.toNat_natCast, List.getD_eq_getElem?_getD, List.getElem?_eq_getElem hil]
      rfl
    have h1 : ((i : Int)) < (L.length : Int) := by omega
    have h2 : (0 : Int) ≤ (i : Int) := by omega
    have h3 : (0 : Int) ≤ ((i / 8 : Nat) : Int) := by omega
    have h4 : ((i / 8 : Nat) : Int) < ((packTo L m i).length : Int) := by rw [packTo_len L m i (by omega) hm]; omega
    have h5 : (0 : Int) ≤ ((i % 8 : Nat) : Int) := by omega
    have hw1 : Aside0 (wrap64 ((i : Int) + 1) = ((i + 1 : Nat) : Int)) := ⟨by rw [w64 (by omega) (by omega)]; rfl⟩
    have hd : Int.tdiv (i : Int) 8 = ((i / 8 : Nat) : Int) := by rw [Int.tdiv_eq_ediv_of_nonneg h2]; rfl
    have hq : Aside0 (wrap64 (Int.tdiv (i : Int) 8) = ((i / 8 : Nat) : Int)) := ⟨by rw [hd, w64 (by omega) (by omega)]⟩
    have hmo : Int.tmod (i : Int) 8 = ((i % 8 : Nat) : Int) := by rw [Int.tmod_eq_emod_of_nonneg h2]; rfl
    have hr : Aside0 (IntKind.u64.wrap (Int.tmod (i : Int) 8) = ((i % 8 : Nat) : Int)) := ⟨by rw [hmo, u64 (by omega) (by omega)]⟩
    refine Ev.step (f := fun r => loessref6_Bits_Bytes.l0 r L (packTo L m (i + 1)) ((i + 1 : Nat) : Int)) (fun r => ?_) (ih (i + 1) (by omega))
    simp only [loessref6_Bits_Bytes.l0]
    rw [if_pos h1, if_pos h2, hrd, hq.out, hr.out, hw1.out]
    cases hb : L[i]
    · rw [if_neg (by simp), packTo_false L m i hil hm hb]
    · rw [if_pos rfl, if_pos h3, if_pos h4, if_pos h5, shr128 (Nat.mod_lt _ (by decide)), packTo_true L m i hil hm hb]
      rfl
theorem bytes_ev (L : List Bool) (hl : L.length < 100000000000) : Ev (fun r => loessref6_Bits_Bytes.f r L) (pack L) := by
  unfold loessref6_Bits_Bytes.f
  have h0 : Aside0 (wrap64 ((L.length : Int) + 7) = ((L.length + 7 : Nat) : Int)) := ⟨by rw [w64 (by omega) (by omega)]; rfl⟩
  have hd : Int.tdiv ((L.length + 7 : Nat) : Int) 8 = (((L.length + 7) / 8 : Nat) : Int) := by rw [Int.tdiv_eq_ediv_of_nonneg (by omega)]; rfl
  have hq : Aside0 (wrap64 (Int.tdiv ((L.length + 7 : Nat) : Int) 8) = (((L.length + 7) / 8 : Nat) : Int)) := ⟨by rw [hd, w64 (by omega) (by omega)]⟩
  have h1 : (0 : Int) ≤ (((L.length + 7) / 8 : Nat) : Int) := by omega
  have h2 : (((L.length + 7) / 8 : Nat) : Int).toNat ≤ 281474976710656 := by omega
  have := bytes_l0 L ((L.length + 7) / 8) hl rfl L.length 0 (by omega)
  have e : packTo L ((L.length + 7) / 8) 0 = List.replicate (((L.length + 7) / 8 : Nat) : Int).toNat 0 := by
    unfold packTo
    rw [Int.toNat_natCast, List.take_zero, show (0 + 7) / 8 = 0 from rfl, Nat.sub_zero]
    rfl
  rw [e] at this
  refine Ev.congr (fun r => ?_) this
  rw [h0.out, hq.out, if_pos h1, if_pos h2]
  rfl
end Go.Proofs.Ytbaopegmdllbeaa.GL
