import Derived.Deep.RegionWith
import Derived.Deep.Slices
import Derived.Lib.SmallJoins
import Derived.ChangeArms
import Derived.Test.YtobdfehpbgcloaaWMore
import Derived.Test.YtobdfehpbgcloaaZTrieAll1
/- The document's Bytes of bits in plain Lean: the references' Bits.Bytes answers as pack. -/
set_option linter.unusedVariables false
set_option linter.unusedSimpArgs false
namespace Go.Proofs.Ytobdfehpbgcloaa.GL
open Go.RowKit Go.Proofs.YtobdfehpbgcloaaW.PrintWords Go.Proofs.YtobdfehpbgcloaaW.PrintMore Go.Proofs.Ytobdfehpbgcloaa.Q Go.Proofs.Ytobdfehpbgcloaa.XTri
/-- The bytes of the first bits, noughts behind. -/
def packTo (L : List Bool) (m i : Nat) : List Int := pack (L.take i) ++ List.replicate (m - (i + 7) / 8) 0
theorem shr128 {r : Nat} (hr : r < 8) : shr .u8 128 (r : Int) = 2 ^ (7 - r) % 256 := by
  have : r = 0 ∨ r = 1 ∨ r = 2 ∨ r = 3 ∨ r = 4 ∨ r = 5 ∨ r = 6 ∨ r = 7 := by omega
  rcases this with rfl | rfl | rfl | rfl | rfl | rfl | rfl | rfl <;> rfl
theorem packTo_false (L : List Bool) (m i : Nat) (hi : i < L.length) (hm : (L.length + 7) / 8 = m) (hb : L[i] = false) : packTo L m (i + 1) = packTo L m i := by
  unfold packTo
  rw [List.take_succ_eq_append_getElem hi, hb]
  have hl : (L.take i).length = i := by rw [List.length_take]; omega
  by_cases h8 : i % 8 = 0
  · rw [(pack_new (L.take i) (by rw [hl]; exact h8)).1, List.append_assoc]
    congr 1
    rw [show m - (i + 7) / 8 = (m - (i + 1 + 7) / 8) + 1 by omega, List.replicate_succ]
    rfl
  · rw [pack_old0 (L.take i) (by rw [hl]; exact h8)]
    congr 2
    omega
theorem packTo_true (L : List Bool) (m i : Nat) (hi : i < L.length) (hm : (L.length + 7) / 8 = m) (hb : L[i] = true) : packTo L m (i + 1) = (packTo L m i).set (i / 8) (Go.bits .or .u8 ((packTo L m i).getD (i / 8) 0) (2 ^ (7 - i % 8) % 256)) := by
  unfold packTo
  rw [List.take_succ_eq_append_getElem hi, hb]
  have hl : (L.take i).length = i := by rw [List.length_take]; omega
  have hpl : (pack (L.take i)).length = (i + 7) / 8 := by rw [pack_len, hl]
  by_cases h8 : i % 8 = 0
  · rw [(pack_new (L.take i) (by rw [hl]; exact h8)).2, List.append_assoc]
    have e : i / 8 = (pack (L.take i)).length := by rw [hpl]; omega
    have e2 : m - (i + 7) / 8 = (m - (i + 1 + 7) / 8) + 1 := by omega
    rw [e2, List.replicate_succ, e, List.set_append_right _ _ (Nat.le_refl _), Nat.sub_self, List.getD_eq_getElem?_getD, List.getElem?_append_right (Nat.le_refl _), Nat.sub_self, h8]
    simp only [List.set_cons_zero, List.getElem?_cons_zero, Option.getD_some]
    rw [show Go.bits .or .u8 0 (2 ^ (7 - 0) % 256) = 128 from rfl]
    rfl
  · have hlt : i / 8 < (pack (L.take i)).length := by rw [hpl]; omega
    rw [pack_old1 (L.take i) (by rw [hl]; exact h8), hl, List.set_append_left _ _ hlt, List.getD_eq_getElem?_getD, List.getD_eq_getElem?_getD, List.getElem?_append_left hlt]
    congr 2
    omega
theorem packTo_len (L : List Bool) (m i : Nat) (hi : i ≤ L.length) (hm : (L.length + 7) / 8 = m) : (packTo L m i).length = m := by
  unfold packTo
  rw [List.length_append, pack_len, List.length_replicate, List.length_take]
  omega
theorem bytes_l0 (L : List Bool) (m : Nat) (hl : L.length < 100000000000) (hm : (L.length + 7) / 8 = m) :
    ∀ d i, L.length = i + d → Ev (fun r => loessref6_Bits_Bytes.l0 r L (packTo L m i) (i : Int)) (pack L) := by
  intro d
  induction d with
  | zero =>
    intro i hi
    have e : packTo L m i = pack L := by
      unfold packTo
      rw [List.take_of_length_le (by omega), show m - (i + 7) / 8 = 0 by omega]
      simp
    refine Ev.step (f := fun _ => some (pack L)) (fun r => ?_) (Ev.now _)
    simp only [loessref6_Bits_Bytes.l0]
    rw [if_neg (by omega), e]
  | succ d ih =>
    intro i hi
    have hil : i < L.length := by omega
    have hrd : rdOf false L (i : Int) = L[i] := by
      unfold rdOf
      rw [Int.toNat_natCast, List.getD_eq_getElem?_getD, List.getElem?_eq_getElem hil]
      rfl
    have h1 : ((i : Int)) < (L.length : Int) := by omega
    have h2 : (0 : Int) ≤ (i : Int) := by omega
    have h3 : (0 : Int) ≤ ((i / 8 : Nat) : Int) := by omega
    have h4 : ((i / 8 : Nat) : Int) < ((packTo L m i).length : Int) := by rw [packTo_len L m i (by omega) hm]; omega
    have h5 : (0 : Int) ≤ ((i % 8 : Nat) : Int) := by omega
    have hw1 : Aside0 (wrap64 ((i : Int) + 1) = ((i + 1 : Nat) : Int)) := ⟨by rw [w64 (by omega) (by omega)]; rfl⟩
    have hd : Int.tdiv (i : Int) 8 = ((i / 8 : Nat) : Int) := by rw [Int.tdiv_eq_ediv_of_nonneg h2]; rfl
    have hq : Aside0 (wrap64 (Int.tdiv (i : Int) 8) = ((i / 8 : Nat) : Int)) := ⟨by rw [hd, w64 (by omega) (by omega)]⟩
    have hmo : Int.tmod (i : Int) 8 = ((i % 8 : Nat) : Int) := by rw [Int.tmod_eq_emod_of_nonneg h2]; rfl
    have hr : Aside0 (IntKind.u64.wrap (Int.tmod (i : Int) 8) = ((i % 8 : Nat) : Int)) := ⟨by rw [hmo, u64 (by omega) (by omega)]⟩
    refine Ev.step (f := fun r => loessref6_Bits_Bytes.l0 r L (packTo L m (i + 1)) ((i + 1 : Nat) : Int)) (fun r => ?_) (ih (i + 1) (by omega))
    simp only [loessref6_Bits_Bytes.l0]
    rw [if_pos h1, if_pos h2, hrd, hq.out, hr.out, hw1.out]
    cases hb : L[i]
    · rw [if_neg (by simp), packTo_false L m i hil hm hb]
    · rw [if_pos rfl, if_pos h3, if_pos h4, if_pos h5, shr128 (Nat.mod_lt _ (by decide)), packTo_true L m i hil hm hb]
      rfl
theorem bytes_ev (L : List Bool) (hl : L.length < 100000000000) : Ev (fun r => loessref6_Bits_Bytes.f r L) (pack L) := by
  unfold loessref6_Bits_Bytes.f
  have h0 : Aside0 (wrap64 ((L.length : Int) + 7) = ((L.length + 7 : Nat) : Int)) := ⟨by rw [w64 (by omega) (by omega)]; rfl⟩
  have hd : Int.tdiv ((L.length + 7 : Nat) : Int) 8 = (((L.length + 7) / 8 : Nat) : Int) := by rw [Int.tdiv_eq_ediv_of_nonneg (by omega)]; rfl
  have hq : Aside0 (wrap64 (Int.tdiv ((L.length + 7 : Nat) : Int) 8) = (((L.length + 7) / 8 : Nat) : Int)) := ⟨by rw [hd, w64 (by omega) (by omega)]⟩
  have h1 : (0 : Int) ≤ (((L.length + 7) / 8 : Nat) : Int) := by omega
  have h2 : (((L.length + 7) / 8 : Nat) : Int).toNat ≤ 281474976710656 := by omega
  have := bytes_l0 L ((L.length + 7) / 8) hl rfl L.length 0 (by omega)
  have e : packTo L ((L.length + 7) / 8) 0 = List.replicate (((L.length + 7) / 8 : Nat) : Int).toNat 0 := by
    unfold packTo
    rw [Int.toNat_natCast, List.take_zero, show (0 + 7) / 8 = 0 from rfl, Nat.sub_zero]
    rfl
  rw [e] at this
  refine Ev.congr (fun r => ?_) this
  rw [h0.out, hq.out, if_pos h1, if_pos h2]
  rfl
end Go.Proofs.Ytobdfehpbgcloaa.GL

/- loesslaw6.Same by hand: bits that are as they should be. -/
namespace Go.Proofs.Ytobdfehpbgcloaa.GL
open Go.RowKit Go.Proofs.YtobdfehpbgcloaaW.PrintWords Go.Proofs.YtobdfehpbgcloaaW.PrintLast Go.Proofs.YtobdfehpbgcloaaW.PrintMore Go.Proofs.Ytobdfehpbgcloaa.Q Go.Proofs.Ytobdfehpbgcloaa.XTri
set_option linter.unusedVariables false
set_option linter.unusedSimpArgs false
set_option maxRecDepth 1000000 in
set_option maxHeartbeats 8000000 in
theorem law_Same {w : World} {P A : Option Addr} {c m : Nat} {L : List Bool} (hm : m = L.length) (h : BitsP w P L) (hC : Kd.C Kd.bool w A m L) (hc : m ≤ c) (hl : L.length < 100000000000) :
    Calls Try.prog 18 #[.pointer P, .slice A m c] w fun e w' => e = .returned (.bool true) ∧ Below w.heap.size w w' := by
  have HP := Aside0.mk h
  have HC := Aside0.mk hC
  have HCC := Aside0.mk hc
  have HM := Aside0.mk hm
  have HL := Aside0.mk hl
  have HL12 := Aside0.mk (show L.length < 1000000000000 by omega)
  have HB := Aside0.mk (Below.refl w.heap.size w)
  have hml : (m : Int) < 100000000000 := by omega
  obtain ⟨k0, hk0⟩ := (bytes_ev L hl).rounds
  have HK0 := Aside0.mk hk0
  obtain ⟨s, hs⟩ : ∃ s, s = strOfNums (pack L) := ⟨_, rfl⟩
  have HS := Aside0.mk hs
  clear h hC hc hm hl hk0 hs
  go_enter Try.func18, Try.ntmps18
  go_wp2
  go_region_with (first
    | (go_at_call 15; refine (bits_Len (HP.out.below (by first | exact HB.out | exact HB.out.drew))).mono ?_; rw [← HM.out]; rintro e w' ⟨rfl, rfl⟩)
    | (go_at_call 26; refine (bits_Bytes (HP.out.below (by first | exact HB.out | exact HB.out.drew)) HL.out).mono ?_; rintro e w8 ⟨v8, rfl, hR, hb⟩; obtain ⟨A8, c8, rfl, _, hC8⟩ := Kd.R_reads hR; have hcv := Kd.C_string (P := Try.prog) (c := c8) Try.underlying45 Try.underlying5 Try.underlying9 hC8; rw [← HS.out] at hcv; have HC8 := Aside0.mk hC8; have m2_ := Aside0.mk (below_step (by first | exact HB.out | exact HB.out.drew) hb); clear HB; have HB := m2_; clear m2_ hb hR hC8)
    | (go_at_call 27; (have hcall := loessref6_Bits_Bytes.calls k0 A c L (pack L) _ (by rw [← HM.out]; exact Kd.C_below HC.out (by first | exact HB.out | exact HB.out.drew)) (by rw [← HM.out]; exact HCC.out) HK0.out); rw [← HM.out] at hcall; refine hcall.mono ?_; clear hcall; rintro e w9 ⟨v9, rfl, hR, hb⟩; obtain ⟨A9, c9, rfl, _, hC9⟩ := Kd.R_reads hR; have hcw := Kd.C_string (P := Try.prog) (c := c9) Try.underlying45 Try.underlying5 Try.underlying9 hC9; rw [← HS.out] at hcw; have hcx := Kd.C_string (P := Try.prog) (c := c8) Try.underlying45 Try.underlying5 Try.underlying9 (Kd.C_below HC8.out hb); rw [← HS.out] at hcx; have m2_ := Aside0.mk (below_step (by first | exact HB.out | exact HB.out.drew) hb); clear HB; have HB := m2_; clear m2_ hb hR hC9))
  all_goals (clear hcv hcw hcx)
  all_goals (simp only [Act.put, List.getElem_toArray, List.getElem_cons_succ, List.getElem_cons_zero, List.setIfInBounds_toArray, List.set_cons_zero, List.set_cons_succ])
  all_goals
    go_wp2
    go_loop [5] (fun v5 => ∃ (k : Nat), v5 = .int .i64 ((k : Int) - 1) ∧ k ≤ m + 2) (fun v => m + 2 - (intOf v + 1).toNat)
    case atStart => exact ⟨0, by first | rfl | go_num, Nat.zero_le _⟩
    case round =>
      obtain ⟨k, rfl, hk⟩ := hrel
      have HPW := Aside0.mk (HP.out.below (by first | exact HB.out | exact HB.out.drew))
      by_cases h0 : k = 0
      · subst h0
        have h1 : ((0 : Nat) : Int) - 1 = -1 := rfl
        have hm1 : decide ((-1 : Int) ≤ (m : Int)) = true := decide_eq_true (by omega)
        have hmm : (-1 : Int) ≤ (m : Int) := by omega
        have hat : atB L (-1) = false := rfl
        rw [h1]
        clear h1 hk
        go_wp2_with (first | (go_at_call 28; refine (bits_At _ HPW.out HL12.out).mono ?_; rw [hat]; rintro e w' ⟨rfl, rfl⟩))
        go_round
        case rel => exact ⟨1, by go_num, by omega⟩
        case measure => simp [intOf]
      · obtain ⟨j, rfl⟩ : ∃ j, k = j + 1 := ⟨k - 1, by omega⟩
        have h1 : ((j + 1 : Nat) : Int) - 1 = (j : Int) := by omega
        rw [h1]
        clear h1 h0
        have hjb : (j : Int) < 100000000001 := by omega
        by_cases hjm : j < m
        · have hjz : (j : Int) < (m : Int) := by omega
          have hjz2 : (j : Int) ≤ (m : Int) := by omega
          obtain ⟨ad, e, hx⟩ := Kd.at_bool (Kd.C_below HC.out (by first | exact HB.out | exact HB.out.drew)) (j : Int) (Int.natCast_nonneg _) hjz
          cases e
          have hat : atB L (j : Int) = rdOf false L (j : Int) := by
            unfold atB
            rw [decide_eq_true (by omega), Bool.true_and]
            rfl
          obtain ⟨b, hb⟩ : ∃ b, b = rdOf false L (j : Int) := ⟨_, rfl⟩
          rw [← hb] at hx hat
          simp only [Int.toNat_natCast] at hx
          have HJ := Aside0.mk hjm
          clear hjm hk hb
          cases b <;> go_wp2_with (first | (go_at_call 28; refine (bits_At _ HPW.out HL12.out).mono ?_; rw [hat]; rintro e w' ⟨rfl, rfl⟩))
          all_goals
            go_round
            case rel => have := HJ.out; exact ⟨j + 2, by go_num, by omega⟩
            case measure => have := HJ.out; simp [intOf]; omega
        · by_cases hje : j = m
          · subst hje
            have hat : atB L (j : Int) = false := by
              unfold atB
              rw [decide_eq_true (by omega), Bool.true_and, List.getD_eq_getElem?_getD, List.getElem?_eq_none (by have := HM.out; simp; omega)]
              rfl
            clear hjm hk
            go_wp2_with (first | (go_at_call 28; refine (bits_At _ HPW.out HL12.out).mono ?_; rw [hat]; rintro e w' ⟨rfl, rfl⟩))
            go_round
            case rel => exact ⟨j + 2, by go_num, by omega⟩
            case measure => simp [intOf]; omega
          · have hend : decide ((j : Int) ≤ (m : Int)) = false := decide_eq_false (by omega)
            have hend2 : decide (j ≤ m) = false := decide_eq_false (by omega)
            clear hjm hje hk
            go_wp2
            go_ret
            exact ⟨rfl, by first | exact HB.out | exact HB.out.drew⟩
end Go.Proofs.Ytobdfehpbgcloaa.GL

-- Written by wip/xprint.py, this session's wrapper round the kit's print program. Not trusted: Lean checks it.
namespace Go.Proofs.Ytobdfehpbgcloaa.XTri
open Go.RowKit Go.Proofs.Ytobdfehpbgcloaa.G Go.Proofs.YtobdfehpbgcloaaW.PrintWords Go.Proofs.YtobdfehpbgcloaaW.PrintLast Go.Proofs.YtobdfehpbgcloaaW.PrintMore
attribute [local go_sem] max2_int min2_int max_two min_two max_three min_three max_four min_four   -- for this text's walks alone
set_option linter.unusedVariables false
set_option linter.unusedSimpArgs false

/-! ### loessref6_digits: function 32 -/
def loessref6_digits.l0 : Nat → Int → Int → Option (Int)
  | 0, _, _ => none
  | k + 1, x0, x3 => if x0 > 0 then (loessref6_digits.l0 k (x0 / 2) (wrap64 (x3 + 1))) else (some x3)
def loessref6_digits.f (k : Nat) (a0 : Int) : Option (Int) := loessref6_digits.l0 k a0 0
theorem loessref6_digits.mono_l : ∀ k, (∀ y0 y1, LeO (loessref6_digits.l0 k y0 y1) (loessref6_digits.l0 (k + 1) y0 y1))
  | 0 => fun _ _ r h => by simp [loessref6_digits.l0] at h
  | k + 1 => by
    have ih0 := loessref6_digits.mono_l k
    · intro y0 y1
      unfold loessref6_digits.l0
      repeat' first
      | (with_reducible exact ih0 _ _)
      | (with_reducible exact LeO.refl _)
      | (with_reducible exact LeO.none _)
      | (with_reducible refine LeO.ite ?_ ?_)
      | (with_reducible refine LeO.bind ?_ (fun _ => ?_))
      | exact ih0 _ _
      | exact LeO.none _
      | refine LeO.ite ?_ ?_
      | refine LeO.bind ?_ (fun _ => ?_)
theorem loessref6_digits.mono : ∀ a0 k, LeO (loessref6_digits.f k a0) (loessref6_digits.f (k + 1) a0) := by
  intro a0 k
  have ih0 := loessref6_digits.mono_l k
  unfold loessref6_digits.f
  repeat' first
      | (with_reducible exact ih0 _ _)
      | (with_reducible exact LeO.refl _)
      | (with_reducible exact LeO.none _)
      | (with_reducible refine LeO.ite ?_ ?_)
      | (with_reducible refine LeO.bind ?_ (fun _ => ?_))
      | exact ih0 _ _
      | exact LeO.none _
      | refine LeO.ite ?_ ?_
      | refine LeO.bind ?_ (fun _ => ?_)
set_option maxHeartbeats 8000000 in
set_option maxRecDepth 100000 in
theorem loessref6_digits.calls (k : Nat) (a0 : Int) (r : Int) (w : World) (h : loessref6_digits.f k a0 = some r) :
    Calls Try.prog 32 #[.int .u64 a0] w fun e w' => e = .returned (.int .i64 r) ∧ Drawn0 w w' := by
  have H : (loessref6_digits.l0 k a0 0) = some r := h
  clear h
  have H' := Aside0.mk H
  clear H
  go_enter Try.func32, Try.ntmps32
  go_wp2
  go_loopg [0, 3] k (fun kq v0 v3 w' => ∃ (x0_1 : Int) (x3_1 : Int), v0 = .int .u64 x0_1 ∧ v3 = .int .i64 x3_1 ∧ Aside0 (loessref6_digits.l0 kq x0_1 x3_1 = some r) ∧ Aside0 (kq ≤ k) ∧ Drawn0 w w')
  case atStart => exact ⟨(a0), (0), (by first | rfl | (simp; done) | (simp [*]; done)), (by first | rfl | (simp; done) | (simp [*]; done)), H', ⟨Nat.le_refl _⟩, by repeat (first | exact Drawn0.refl _ | apply Drawn0.step)⟩
  case round =>
    clear H'
    obtain ⟨x0_1, x3_1, rfl, rfl, HA, HK1, ⟨m1, rfl⟩⟩ := hrel
    cases gk with
    | zero => exact absurd HA.out (by simp [loessref6_digits.l0])
    | succ k1 =>
      have H := HA.out
      clear HA
      simp only [loessref6_digits.l0] at H
      by_cases c2 : x0_1 > 0
      · rw [if_pos c2] at H
        have c2b0 : decide (0 < x0_1) = true := decide_eq_true c2
        clear c2
        have H' := Aside0.mk H
        clear H
        go_wp2
        go_roundg k1
        case measure => have := HK1.out; omega
        case rel => exact ⟨(x0_1 / 2), (wrap64 (x3_1 + 1)), (by first | rfl | (simp; done) | (simp [*]; done)), (by first | rfl | (simp; done) | (simp [*]; done)), H', ⟨by have := HK1.out; omega⟩, by repeat (first | exact Drawn0.refl _ | apply Drawn0.step)⟩
      · rw [if_neg c2] at H
        have c2b0 : decide (0 < x0_1) = false := decide_eq_false c2
        clear c2
        obtain rfl := Option.some.inj H
        go_wp2
        go_ret
        exact ⟨by first | rfl | (simp; done) | (simp [*]; done), by repeat (first | exact Drawn0.refl _ | apply Drawn0.step)⟩

end Go.Proofs.Ytobdfehpbgcloaa.XTri

-- Written by wip/xprint.py, this session's wrapper round the kit's print program. Not trusted: Lean checks it.
namespace Go.Proofs.Ytobdfehpbgcloaa.XTri
open Go.RowKit Go.Proofs.Ytobdfehpbgcloaa.G Go.Proofs.YtobdfehpbgcloaaW.PrintWords Go.Proofs.YtobdfehpbgcloaaW.PrintLast Go.Proofs.YtobdfehpbgcloaaW.PrintMore
attribute [local go_sem] max2_int min2_int max_two min_two max_three min_three max_four min_four   -- for this text's walks alone
set_option linter.unusedVariables false
set_option linter.unusedSimpArgs false

/-! ### loessref6_Bits_PutNum: function 33 -/
mutual
def loessref6_Bits_PutNum.j0 : Nat → Int → Int → List Bool → Bool → Option (List Bool)
  | 0, _, _, _, _ => none
  | k + 1, x1, x2, x7, x16 => if x16 = true then (some x7) else (loessref6_Bits_PutNum.l0 k x1 x7 (wrap64 (x2 - 1)))
def loessref6_Bits_PutNum.l0 : Nat → Int → List Bool → Int → Option (List Bool)
  | 0, _, _, _ => none
  | k + 1, x1, x7, x8 => if x8 ≥ 0 then (if 0 ≤ (IntKind.u64.wrap (x8)) then (if x7.length < 140737488355328 then (loessref6_Bits_PutNum.l0 k x1 (x7 ++ [((Go.bits .and .u64 (shr .u64 x1 (IntKind.u64.wrap (x8))) 1) == 1)]) (wrap64 (x8 - 1))) else (none)) else (none)) else (some x7)
end
def loessref6_Bits_PutNum.f (k : Nat) (l0 : List Bool) (a1 : Int) (a2 : Int) : Option (List Bool) := if ([] : List Bool).length + l0.length < 140737488355328 then ((some (([] : List Bool) ++ l0 : List Bool)).bind fun y139 => (if a2 < 0 then (loessref6_Bits_PutNum.j0 k a1 a2 y139 true) else (loessref6_Bits_PutNum.j0 k a1 a2 y139 (decide (a2 > 64))))) else (none)
theorem loessref6_Bits_PutNum.mono_l : ∀ k, (∀ y0 y1 y2 y3, LeO (loessref6_Bits_PutNum.j0 k y0 y1 y2 y3) (loessref6_Bits_PutNum.j0 (k + 1) y0 y1 y2 y3)) ∧ (∀ y0 y1 y2, LeO (loessref6_Bits_PutNum.l0 k y0 y1 y2) (loessref6_Bits_PutNum.l0 (k + 1) y0 y1 y2))
  | 0 => ⟨fun _ _ _ _ r h => by simp [loessref6_Bits_PutNum.j0] at h, fun _ _ _ r h => by simp [loessref6_Bits_PutNum.l0] at h⟩
  | k + 1 => by
    obtain ⟨ih0, ih1⟩ := loessref6_Bits_PutNum.mono_l k
    refine ⟨?_, ?_⟩
    · intro y0 y1 y2 y3
      unfold loessref6_Bits_PutNum.j0
      repeat' first
      | (with_reducible exact ih0 _ _ _ _)
      | (with_reducible exact ih1 _ _ _)
      | (with_reducible exact LeO.refl _)
      | (with_reducible exact LeO.none _)
      | (with_reducible refine LeO.ite ?_ ?_)
      | (with_reducible refine LeO.bind ?_ (fun _ => ?_))
      | exact ih0 _ _ _ _
      | exact ih1 _ _ _
      | exact LeO.none _
      | refine LeO.ite ?_ ?_
      | refine LeO.bind ?_ (fun _ => ?_)
    · intro y0 y1 y2
      unfold loessref6_Bits_PutNum.l0
      repeat' first
      | (with_reducible exact ih0 _ _ _ _)
      | (with_reducible exact ih1 _ _ _)
      | (with_reducible exact LeO.refl _)
      | (with_reducible exact LeO.none _)
      | (with_reducible refine LeO.ite ?_ ?_)
      | (with_reducible refine LeO.bind ?_ (fun _ => ?_))
      | exact ih0 _ _ _ _
      | exact ih1 _ _ _
      | exact LeO.none _
      | refine LeO.ite ?_ ?_
      | refine LeO.bind ?_ (fun _ => ?_)
theorem loessref6_Bits_PutNum.mono : ∀ a0 a1 a2 k, LeO (loessref6_Bits_PutNum.f k a0 a1 a2) (loessref6_Bits_PutNum.f (k + 1) a0 a1 a2) := by
  intro a0 a1 a2 k
  obtain ⟨ih0, ih1⟩ := loessref6_Bits_PutNum.mono_l k
  unfold loessref6_Bits_PutNum.f
  repeat' first
      | (with_reducible exact ih0 _ _ _ _)
      | (with_reducible exact ih1 _ _ _)
      | (with_reducible exact LeO.refl _)
      | (with_reducible exact LeO.none _)
      | (with_reducible refine LeO.ite ?_ ?_)
      | (with_reducible refine LeO.bind ?_ (fun _ => ?_))
      | exact ih0 _ _ _ _
      | exact ih1 _ _ _
      | exact LeO.none _
      | refine LeO.ite ?_ ?_
      | refine LeO.bind ?_ (fun _ => ?_)
set_option maxHeartbeats 8000000 in
set_option maxRecDepth 100000 in
theorem loessref6_Bits_PutNum.calls (k : Nat) (A0 : Option Addr) (c0 : Nat) (l0 : List Bool) (a1 : Int) (a2 : Int) (r : List Bool) (w : World) (hr0 : Kd.C Kd.bool w A0 l0.length l0) (hc0 : l0.length ≤ c0) (h : loessref6_Bits_PutNum.f k l0 a1 a2 = some r) :
    Calls Try.prog 33 #[.slice A0 l0.length c0, .int .u64 a1, .int .i64 a2] w fun e w' => ∃ v0_ : Value, e = .returned (v0_) ∧ Kd.R Kd.bool 4 w' w.heap.size (fun _ => True) v0_ r ∧ Below w.heap.size w w' := by
  have HR0 := Aside0.mk hr0
  have HC0 := Aside0.mk hc0
  clear hr0 hc0
  have HB := Aside0.mk (Below.refl w.heap.size w)
  have H : (if ([] : List Bool).length + l0.length < 140737488355328 then ((some (([] : List Bool) ++ l0 : List Bool)).bind fun y139 => (if a2 < 0 then (loessref6_Bits_PutNum.j0 k a1 a2 y139 true) else (loessref6_Bits_PutNum.j0 k a1 a2 y139 (decide (a2 > 64))))) else (none)) = some r := h
  clear h
  by_cases c4 : ([] : List Bool).length + l0.length < 140737488355328
  · rw [if_pos c4] at H
    have LMc4 := Aside0.mk c4
    clear c4
    obtain ⟨y139, hy139⟩ : ∃ y_ : List Bool, y_ = (([] : List Bool) ++ l0) := ⟨_, rfl⟩
    replace H : (if a2 < 0 then (loessref6_Bits_PutNum.j0 k a1 a2 y139 true) else (loessref6_Bits_PutNum.j0 k a1 a2 y139 (decide (a2 > 64)))) = some r := by first | (rw [hy139]; with_reducible exact H) | (have H2_ := (Option.bind_some _ _).symm.trans H; rw [hy139]; with_reducible exact H2_) | (have H2_ := (Option.bind_some _ _).symm.trans H; with_reducible exact H2_) | with_reducible exact H | (rw [hy139]; exact H) | exact H
    have Ny139 := Aside0.mk hy139
    clear hy139
    have HC5 := Aside0.mk H
    clear H
    go_enter Try.func33, Try.ntmps33
    go_upto_region 2 with (first | ((with_reducible refine gate_builtin (b := .append) (xs := #[.const (.slice none 0 0), .tmp 9]) rfl ?_); at_builtin; refine Kd.R_append_rows Kd.bool (w0 := w) w.heap.size rfl (.const (.slice none 0 0)) (.tmp 9) 41 4 (.bool false) 1 rfl Try.underlying41 info4 rfl (by decide) (by omega) (.slice none 0 0) ([] : List Bool) l0 _ _ _ (fun _ => True) (fun _ => False) rfl rfl ?aO ?aR (fun _ _ h => h) (fun _ h => h.elim) ?aF ?aB ?aS ?aL ?_; (case aR => repeat (first | exact HR0.out | (with_reducible refine Kd.C_alloc ?_ _) | (with_reducible refine Kd.C_drewN ?_ _) | (with_reducible refine Kd.C_drew ?_))); (case aB => exact (by repeat (first | (with_reducible first | exact HB.out | apply below_alloc | apply pw_below_drewN | apply below_drew1) | exact HB.out))); (case aF => exact (fun _ _ => trivial)); (case aO => exact ((Kd.R_nil _ _ _ _ (fun _ => True)))); (case aS => exact (below_size (by repeat (first | (with_reducible first | exact HB.out | apply below_alloc | apply pw_below_drewN | apply below_drew1) | exact HB.out)))); (case aL => have := LMc4.out; omega); intro v140 w6 ho hb hg hat; rw [← Ny139.out] at ho; have n0_ := Aside0.mk (hb); have n1_ := Aside0.mk (ho); clear HB; have HB := n0_; have HO141 := n1_; clear n0_ n1_; clear ho hb hg hat))
    (try simp only [Act.put, List.setIfInBounds_toArray, List.set_cons_zero, List.set_cons_succ])
    go_cut [16] (fun v16 wc => ∃ (kq : Nat) (x16_4 : Bool), v16 = .bool x16_4 ∧ Aside0 (loessref6_Bits_PutNum.j0 kq a1 a2 y139 x16_4 = some r) ∧ Aside0 (kq ≤ k) ∧ Aside0 (Kd.R Kd.bool 4 wc w.heap.size (fun _ => True) v140 y139) ∧ Aside0 (Below w.heap.size w wc))
    case first =>
      have H := HC5.out
      clear HC5
      by_cases c7 : a2 < 0
      · rw [if_pos c7] at H
        have c7b0 : decide (a2 < 0) = true := decide_eq_true c7
        clear c7
        (first | rw [c7b0] | (simp only [i64_w, i32_w]; rw [c7b0]) | skip)
        have H' := Aside0.mk H
        clear H
        go_wp2
        go_meet
        case rel => exact ⟨_, (true), (by first | rfl | (simp; done) | (simp [*]; done)), H', ⟨by first | omega | exact Nat.le_refl _⟩, ⟨by (with_reducible repeat (first | apply Kd.R_alloc | apply Kd.R_drewN | apply Kd.R_drew)); exact HO141.out⟩, ⟨by repeat (first | (with_reducible first | exact HB.out | apply below_alloc | apply pw_below_drewN | apply below_drew1) | exact HB.out)⟩⟩
      · rw [if_neg c7] at H
        have c7b0 : decide (a2 < 0) = false := decide_eq_false c7
        clear c7
        (first | rw [c7b0] | (simp only [i64_w, i32_w]; rw [c7b0]) | skip)
        have H' := Aside0.mk H
        clear H
        go_wp2
        go_meet
        case rel => exact ⟨_, (decide (a2 > 64)), (by first | rfl | (simp; done) | (simp [*]; done)), H', ⟨by first | omega | exact Nat.le_refl _⟩, ⟨by (with_reducible repeat (first | apply Kd.R_alloc | apply Kd.R_drewN | apply Kd.R_drew)); exact HO141.out⟩, ⟨by repeat (first | (with_reducible first | exact HB.out | apply below_alloc | apply pw_below_drewN | apply below_drew1) | exact HB.out)⟩⟩
    case rest =>
      clear HC5
      try clear p2
      try clear c3
      try clear c4
      try clear c7
      try clear c7b0
      obtain ⟨kq, x16_4, rfl, HA, HJ4, HO_7, HB⟩ := hcut
      cases kq with
      | zero => exact absurd HA.out (by simp [loessref6_Bits_PutNum.j0])
      | succ kj4 =>
        have H := HA.out
        clear HA
        simp only [loessref6_Bits_PutNum.j0] at H
        by_cases c8 : x16_4 = true
        · subst c8
          have H1 : (some y139) = some r := by rw [if_pos rfl] at H; exact H
          clear H
          have H := H1
          clear H1
          obtain rfl := Option.some.inj H
          go_wp2
          go_ret
          exact ⟨_, by first | rfl | (simp [errW_none, errW_some] <;> rfl) | (simp [*, errW_none, errW_some] <;> rfl), by (with_reducible repeat (first | apply Kd.R_alloc | apply Kd.R_drewN | apply Kd.R_drew)); exact HO_7.out, by repeat (first | (with_reducible first | exact HB.out | apply below_alloc | apply pw_below_drewN | apply below_drew1) | exact HB.out)⟩
        · replace c8 := Bool.eq_false_iff.mpr c8
          subst c8
          have H1 : (loessref6_Bits_PutNum.l0 kj4 a1 y139 (wrap64 (a2 - 1))) = some r := by rw [if_neg (show ¬ (false = true) by decide)] at H; exact H
          clear H
          have H := H1
          clear H1
          have H' := Aside0.mk H
          clear H
          go_wp2
          go_loopg [7, 8] kj4 (fun kq v7 v8 w' => ∃ (x7_2 : List Bool) (x8_2 : Int), v8 = .int .i64 x8_2 ∧ Aside0 (loessref6_Bits_PutNum.l0 kq a1 x7_2 x8_2 = some r) ∧ Aside0 (kq ≤ kj4) ∧ Aside0 (Kd.R Kd.bool 4 w' w.heap.size (fun _ => True) v7 x7_2) ∧ Aside0 (Below w.heap.size w w'))
          case atStart => exact ⟨(y139), (wrap64 (a2 - 1)), (by first | rfl | (simp; done) | (simp [*]; done)), H', ⟨Nat.le_refl _⟩, ⟨by (with_reducible repeat (first | apply Kd.R_alloc | apply Kd.R_drewN | apply Kd.R_drew)); exact HO_7.out⟩, ⟨by repeat (first | (with_reducible first | exact HB.out | apply below_alloc | apply pw_below_drewN | apply below_drew1) | exact HB.out)⟩⟩
          case round =>
            clear H'
            try clear p2
            try clear c3
            try clear c4
            try clear p6
            try clear c7
            try clear c7b0
            try clear c8
            try clear p2
            obtain ⟨x7_2, x8_2, rfl, HA, HK2, HO_7, HB⟩ := hrel
            cases gk with
            | zero => exact absurd HA.out (by simp [loessref6_Bits_PutNum.l0])
            | succ k2 =>
              have H := HA.out
              clear HA
              simp only [loessref6_Bits_PutNum.l0] at H
              by_cases c9 : x8_2 ≥ 0
              · rw [if_pos c9] at H
                have c9b0 : decide (0 ≤ x8_2) = true := decide_eq_true c9
                clear c9
                obtain ⟨ji10, hji10⟩ : ∃ j_ : Int, (IntKind.u64.wrap (x8_2)) = j_ := ⟨_, rfl⟩
                replace H : (if 0 ≤ (ji10) then (if x7_2.length < 140737488355328 then (loessref6_Bits_PutNum.l0 k2 a1 (x7_2 ++ [((Go.bits .and .u64 (shr .u64 a1 (ji10)) 1) == 1)]) (wrap64 (x8_2 - 1))) else (none)) else (none)) = some r := by first | (rw [hji10] at H; exact H) | (simp only [hji10] at H ⊢; exact H)
                by_cases c11 : 0 ≤ (ji10)
                · rw [if_pos c11] at H
                  have c11b0 := eq_true c11
                  have c11b1 : decide (0 ≤ (ji10)) = true := decide_eq_true c11
                  clear c11
                  obtain ⟨ji12, hji12⟩ : ∃ j_ : Int, (shr .u64 a1 (ji10)) = j_ := ⟨_, rfl⟩
                  replace H : (if x7_2.length < 140737488355328 then (loessref6_Bits_PutNum.l0 k2 a1 (x7_2 ++ [((Go.bits .and .u64 (ji12) 1) == 1)]) (wrap64 (x8_2 - 1))) else (none)) = some r := by first | (rw [hji12] at H; exact H) | (simp only [hji12] at H ⊢; exact H)
                  have hji12_ : (a1 / 2 ^ min (ji10).toNat 64) = ji12 := hji12
                  have hji12z : (ji10) ≤ 64 → (a1 / 2 ^ (ji10).toNat) = ji12 := shr_small hji12
                  by_cases c13 : x7_2.length < 140737488355328
                  · rw [if_pos c13] at H
                    have LMc13 := Aside0.mk c13
                    clear c13
                    obtain ⟨y142, hy142⟩ : ∃ y_ : List Bool, y_ = (x7_2 ++ [((Go.bits .and .u64 (ji12) 1) == 1)]) := ⟨_, rfl⟩
                    replace H : (loessref6_Bits_PutNum.l0 k2 a1 y142 (wrap64 (x8_2 - 1))) = some r := by first | (rw [hy142]; with_reducible exact H) | (have H2_ := (Option.bind_some _ _).symm.trans H; rw [hy142]; with_reducible exact H2_) | (have H2_ := (Option.bind_some _ _).symm.trans H; with_reducible exact H2_) | with_reducible exact H | (rw [hy142]; exact H) | exact H
                    have Ny142 := Aside0.mk hy142
                    clear hy142
                    have H' := Aside0.mk H
                    clear H
                    go_wp2_with (first | ((with_reducible refine gate_builtin (b := .append) (xs := #[.tmp 24, .tmp 31]) rfl ?_); at_builtin; refine Kd.R_append Kd.bool (w0 := w) w.heap.size rfl (.tmp 24) (.tmp 31) 41 4 (.bool false) 1 rfl Try.underlying41 info4 rfl (by decide) (by omega) u7 x7_2 ((Go.bits .and .u64 (ji12) 1) == 1) [.bool ((Go.bits .and .u64 (ji12) 1) == 1)] (fun _ => True) (fun _ => False) rfl rfl ?aP (fun _ hk => hk.elim) ?aF ?aO ?aB ?aS ?aL ?_; (case aP => exact rfl); (case aB => exact (by repeat (first | (with_reducible first | exact HB.out | apply below_alloc | apply pw_below_drewN | apply below_drew1) | exact HB.out))); (case aF => exact (fun _ _ => trivial)); (case aO => exact (by (with_reducible repeat (first | apply Kd.R_alloc | apply Kd.R_drewN | apply Kd.R_drew)); exact HO_7.out)); (case aS => exact (below_size (by repeat (first | (with_reducible first | exact HB.out | apply below_alloc | apply pw_below_drewN | apply below_drew1) | exact HB.out)))); (case aL => have := LMc13.out; omega); intro v143 w14 ho hb hg hat; rw [← Ny142.out] at ho; have n0_ := Aside0.mk (hb); have n1_ := Aside0.mk (ho); clear HB; clear HO_7; have HB := n0_; have HO144 := n1_; clear n0_ n1_; clear ho hb hg hat))
                    go_roundg k2
                    case measure => have := HJ4.out; have := HK2.out; omega
                    case rel => exact ⟨(y142), (wrap64 (x8_2 - 1)), (by first | rfl | (simp; done) | (simp [*]; done)), H', ⟨by have := HJ4.out; have := HK2.out; omega⟩, ⟨by (with_reducible repeat (first | apply Kd.R_alloc | apply Kd.R_drewN | apply Kd.R_drew)); exact HO144.out⟩, ⟨by repeat (first | (with_reducible first | exact HB.out | apply below_alloc | apply pw_below_drewN | apply below_drew1) | exact HB.out)⟩⟩
                  · rw [if_neg c13] at H
                    exact absurd H (by simp)
                · rw [if_neg c11] at H
                  exact absurd H (by simp)
              · rw [if_neg c9] at H
                have c9b0 : decide (0 ≤ x8_2) = false := decide_eq_false c9
                clear c9
                obtain rfl := Option.some.inj H
                go_wp2
                go_ret
                exact ⟨_, by first | rfl | (simp [errW_none, errW_some] <;> rfl) | (simp [*, errW_none, errW_some] <;> rfl), by (with_reducible repeat (first | apply Kd.R_alloc | apply Kd.R_drewN | apply Kd.R_drew)); exact HO_7.out, by repeat (first | (with_reducible first | exact HB.out | apply below_alloc | apply pw_below_drewN | apply below_drew1) | exact HB.out)⟩
  · rw [if_neg c4] at H
    exact absurd H (by simp)

end Go.Proofs.Ytobdfehpbgcloaa.XTri

-- Written by wip/xprint.py, this session's wrapper round the kit's print program. Not trusted: Lean checks it.
namespace Go.Proofs.Ytobdfehpbgcloaa.XTri
open Go.RowKit Go.Proofs.Ytobdfehpbgcloaa.G Go.Proofs.YtobdfehpbgcloaaW.PrintWords Go.Proofs.YtobdfehpbgcloaaW.PrintLast Go.Proofs.YtobdfehpbgcloaaW.PrintMore
attribute [local go_sem] max2_int min2_int max_two min_two max_three min_three max_four min_four   -- for this text's walks alone
set_option linter.unusedVariables false
set_option linter.unusedSimpArgs false

/-! ### loessref6_Gamma: function 25 -/
def loessref6_Gamma.f (k : Nat) (a0 : Int) : Option (List Bool) := if a0 = 0 then (some ([] : List Bool)) else ((loessref6_digits.f k a0).bind fun t145 => (if 0 ≤ (wrap64 (t145 - 1)) then (if (wrap64 (t145 - 1) : Int).toNat ≤ 281474976710656 then ((loessref6_Bits_PutNum.f k (List.replicate (wrap64 (t145 - 1) : Int).toNat false) a0 t145).bind fun t149 => (some t149)) else (none)) else (none)))
theorem loessref6_Gamma.mono : ∀ a0 k, LeO (loessref6_Gamma.f k a0) (loessref6_Gamma.f (k + 1) a0) := by
  intro a0 k
  unfold loessref6_Gamma.f
  repeat' first
      | (with_reducible exact loessref6_Bits_PutNum.mono _ _ _ _)
      | (with_reducible exact loessref6_digits.mono _ _)
      | (with_reducible exact LeO.refl _)
      | (with_reducible exact LeO.none _)
      | (with_reducible refine LeO.ite ?_ ?_)
      | (with_reducible refine LeO.bind ?_ (fun _ => ?_))
      | exact loessref6_Bits_PutNum.mono _ _ _ _
      | exact loessref6_digits.mono _ _
      | exact LeO.none _
      | refine LeO.ite ?_ ?_
      | refine LeO.bind ?_ (fun _ => ?_)
set_option maxHeartbeats 8000000 in
set_option maxRecDepth 100000 in
theorem loessref6_Gamma.calls (k : Nat) (a0 : Int) (r : List Bool) (w : World) (h : loessref6_Gamma.f k a0 = some r) :
    Calls Try.prog 25 #[.int .u64 a0] w fun e w' => ∃ v0_ : Value, e = .returned (v0_) ∧ Kd.R Kd.bool 4 w' w.heap.size (fun _ => True) v0_ r ∧ Below w.heap.size w w' := by
  have HB := Aside0.mk (Below.refl w.heap.size w)
  have H : (if a0 = 0 then (some ([] : List Bool)) else ((loessref6_digits.f k a0).bind fun t145 => (if 0 ≤ (wrap64 (t145 - 1)) then (if (wrap64 (t145 - 1) : Int).toNat ≤ 281474976710656 then ((loessref6_Bits_PutNum.f k (List.replicate (wrap64 (t145 - 1) : Int).toNat false) a0 t145).bind fun t149 => (some t149)) else (none)) else (none)))) = some r := h
  clear h
  by_cases c2 : a0 = 0
  · rw [if_pos c2] at H
    have c2b0 : (a0 == 0) = true := beq_iff_eq.mpr c2
    have c2b1 : (a0 != 0) = false := bne_eq_false_iff_eq.mpr c2
    clear c2
    obtain rfl := Option.some.inj H
    go_enter Try.func25, Try.ntmps25
    go_wp2
    go_ret
    exact ⟨_, by first | rfl | (simp [errW_none, errW_some] <;> rfl) | (simp [*, errW_none, errW_some] <;> rfl), by first | exact Kd.R_nil _ _ _ _ _ | exact Kd.N_nil _ _ _ _ _ | exact Kd.V_nil _ _ _ _ _ | exact Kd.Q_nil _ _ _ _ _ | exact Kd.S_nil _ _ _ _ _, by repeat (first | (with_reducible first | exact HB.out | apply below_alloc | apply pw_below_drewN | apply below_drew1) | exact HB.out)⟩
  · rw [if_neg c2] at H
    have c2b0 : (a0 == 0) = false := beq_eq_false_iff_ne.mpr c2
    have c2b1 : (a0 != 0) = true := bne_iff_ne.mpr c2
    replace H := Option.bind_eq_some_iff.mp H
    obtain ⟨t145, A30, H⟩ := H
    replace H : (if 0 ≤ (wrap64 (t145 - 1)) then (if (wrap64 (t145 - 1) : Int).toNat ≤ 281474976710656 then ((loessref6_Bits_PutNum.f k (List.replicate (wrap64 (t145 - 1) : Int).toNat false) a0 t145).bind fun t149 => (some t149)) else (none)) else (none)) = some r := H
    have A3 := Aside0.mk A30
    clear A30
    obtain ⟨ji4, hji4⟩ : ∃ j_ : Int, (wrap64 (t145 - 1)) = j_ := ⟨_, rfl⟩
    replace H : (if 0 ≤ (ji4) then (if (ji4 : Int).toNat ≤ 281474976710656 then ((loessref6_Bits_PutNum.f k (List.replicate (ji4 : Int).toNat false) a0 t145).bind fun t149 => (some t149)) else (none)) else (none)) = some r := by first | (rw [hji4] at H; exact H) | (simp only [hji4] at H ⊢; exact H)
    (try rw [hji4] at A3)
    have hji4w : (IntKind.i64.wrap (t145 - 1)) = ji4 := (i64_w _).trans hji4
    by_cases c5 : 0 ≤ (ji4)
    · rw [if_pos c5] at H
      have c5b0 := eq_true c5
      have c5b1 : decide (0 ≤ (ji4)) = true := decide_eq_true c5
      clear c5
      by_cases c6 : (ji4 : Int).toNat ≤ 281474976710656
      · rw [if_pos c6] at H
        have c6b0 := eq_true c6
        have c6b1 : decide ((ji4 : Int).toNat ≤ 281474976710656) = true := decide_eq_true c6
        clear c6
        obtain ⟨y146, hy146⟩ : ∃ y_ : List Bool, y_ = (List.replicate (ji4 : Int).toNat false) := ⟨_, rfl⟩
        replace H : ((loessref6_Bits_PutNum.f k y146 a0 t145).bind fun t149 => (some t149)) = some r := by first | (rw [hy146]; with_reducible exact H) | (have H2_ := (Option.bind_some _ _).symm.trans H; rw [hy146]; with_reducible exact H2_) | (have H2_ := (Option.bind_some _ _).symm.trans H; with_reducible exact H2_) | with_reducible exact H | (rw [hy146]; exact H) | exact H
        have Ny146 := Aside0.mk hy146
        clear hy146
        replace H := Option.bind_eq_some_iff.mp H
        obtain ⟨t149, A70, H⟩ := H
        replace H : (some t149) = some r := H
        have A7 := Aside0.mk A70
        clear A70
        obtain rfl := Option.some.inj H
        go_enter Try.func25, Try.ntmps25
        go_wp2_with (first | ((with_reducible refine gate_callee (f := 32) rfl ?_); refine goesL_ (some 7) rfl rfl Try.func32 (by kernel_rfl) rfl #[.int .u64 a0] rfl (by (try simp only [List.map_toArray, List.map_cons, List.map_nil]); first | done | rfl | (simp only [List.length_drop, List.length_take]; rfl)) ?_; (with_reducible refine (loessref6_digits.calls k a0 t145 _ A3.out).mono ?_); rintro e w' ⟨rfl, ⟨nd, rfl⟩⟩; refine ⟨_, rfl, ?_⟩) | ((with_reducible refine gate_dst (N := 10) rfl ?_); refine Kd.R_make Kd.bool _ 4 rfl (N := 10) rfl 41 _ _ rfl ji4 rfl rfl Try.underlying41 (.bool false) 1 info4 rfl (by decide) (by omega) false (ok := fun _ => True) (okp := fun _ => True) rfl (fun _ hk => hk) trivial (of_decide_eq_true (by first | (with_reducible assumption) | assumption)) (Nat.le_trans (Nat.mul_le_mul_right _ (of_decide_eq_true (by first | (with_reducible assumption) | assumption) : ji4.toNat ≤ 281474976710656)) (by omega)) (Below.refl _ _) (Nat.le_refl _) ?_; intro v147 w8 ho9 hb hg_ hnew_; clear hg_ hnew_; (first | rw [← Ny146.out] at ho9 | (simp only [Int.reduceToNat] at ho9; rw [← Ny146.out] at ho9)); have n0_ := Aside0.mk (Kd.R_lower ho9 (below_size (by repeat (first | (with_reducible first | exact HB.out | apply below_alloc | apply pw_below_drewN | apply below_drew1) | exact HB.out)))); have n1_ := Aside0.mk (below_step (by repeat (first | (with_reducible first | exact HB.out | apply below_alloc | apply pw_below_drewN | apply below_drew1) | exact HB.out)) hb); clear HB; have HO148 := n0_; have HB := n1_; clear n0_ n1_; clear hb ho9; obtain ⟨Ao10, co10, eo10⟩ := Kd.R_slice HO148.out; subst eo10) | ((with_reducible refine gate_callee (f := 33) rfl ?_); refine goesL_ (some 13) rfl rfl Try.func33 (by kernel_rfl) rfl #[.slice Ao10 y146.length co10, .int .u64 a0, .int .i64 t145] rfl (by (try simp only [List.map_toArray, List.map_cons, List.map_nil]); first | done | rfl | (simp only [List.length_drop, List.length_take]; rfl)) ?_; (with_reducible refine (loessref6_Bits_PutNum.calls k _ _ y146 a0 t145 t149 _ ?side1 ?side2 A7.out).mono ?_); (case side1 => repeat (first | exact (Kd.R_reads' HO148.out).2.2 | (with_reducible refine Kd.C_alloc ?_ _) | (with_reducible refine Kd.C_drewN ?_ _) | (with_reducible refine Kd.C_drew ?_))); (case side2 => exact (Kd.R_reads' HO148.out).2.1); rintro e w11 ⟨v150, rfl, ho0, hb⟩; refine ⟨_, rfl, ?_⟩; have n0_ := Aside0.mk (Kd.R_elder' (by (with_reducible repeat (first | apply Kd.R_alloc | apply Kd.R_drewN | apply Kd.R_drew)); exact HO148.out) (Kd.R_base ho0) hb); have n1_ := Aside0.mk (Kd.R_lower (Kd.R_new' ho0 (Kd.R_lt (by (with_reducible repeat (first | apply Kd.R_alloc | apply Kd.R_drewN | apply Kd.R_drew)); exact HO148.out))) (below_size (by repeat (first | (with_reducible first | exact HB.out | apply below_alloc | apply pw_below_drewN | apply below_drew1) | exact HB.out)))); have n2_ := Aside0.mk (below_step (by repeat (first | (with_reducible first | exact HB.out | apply below_alloc | apply pw_below_drewN | apply below_drew1) | exact HB.out)) hb); clear HO148; clear HB; have HO148 := n0_; have HO151 := n1_; have HB := n2_; clear n0_ n1_ n2_; (try clear hb); (try clear hb2); (try clear hk); (try clear hi); (try clear ho0)))
        go_ret
        exact ⟨_, by first | rfl | (simp [errW_none, errW_some] <;> rfl) | (simp only [← hji4]; first | rfl | (simp [errW_none, errW_some] <;> rfl)) | (simp [*, errW_none, errW_some] <;> rfl), by (with_reducible repeat (first | apply Kd.R_alloc | apply Kd.R_drewN | apply Kd.R_drew)); exact Kd.R_mono HO151.out (fun _ hk => trivial), by repeat (first | (with_reducible first | exact HB.out | apply below_alloc | apply pw_below_drewN | apply below_drew1) | exact HB.out)⟩
      · rw [if_neg c6] at H
        exact absurd H (by simp)
    · rw [if_neg c5] at H
      exact absurd H (by simp)

end Go.Proofs.Ytobdfehpbgcloaa.XTri

/- Numbers as bits, put one behind the other and told again: plain laws; the references' digits, PutNum, Gamma. -/
set_option linter.unusedVariables false
set_option linter.unusedSimpArgs false
namespace Go.Proofs.Ytobdfehpbgcloaa.GL
open Go.RowKit Go.Proofs.YtobdfehpbgcloaaW.PrintWords Go.Proofs.YtobdfehpbgcloaaW.PrintMore Go.Proofs.Ytobdfehpbgcloaa.Q Go.Proofs.Ytobdfehpbgcloaa.XTri Go.Proofs.Ytobdfehpbgcloaa.G
theorem mod_pow_succ (x : Int) (n : Nat) : x % 2 ^ (n + 1) = (x / 2 ^ n % 2) * 2 ^ n + x % 2 ^ n := by
  have hp : (0 : Int) < 2 ^ n := Int.pow_pos (by decide)
  have h1 := Int.mul_ediv_add_emod x (2 ^ n)
  have h2 := Int.mul_ediv_add_emod (x / 2 ^ n) 2
  have h0 := Int.emod_nonneg x (show (2 : Int) ^ n ≠ 0 by omega)
  have h3 := Int.emod_lt_of_pos x hp
  have e : x = (x / 2 ^ n / 2) * 2 ^ (n + 1) + ((x / 2 ^ n % 2) * 2 ^ n + x % 2 ^ n) := by
    rw [Int.pow_succ]
    generalize hA : x / 2 ^ n = A at *
    generalize hB : (2 : Int) ^ n = B at *
    generalize hC : A / 2 = C at *
    generalize hD : A % 2 = D at *
    have : C * (B * 2) + (D * B + x % B) = B * (2 * C + D) + x % B := by
      rw [Int.mul_add, ← Int.mul_assoc B 2 C, Int.mul_comm (B * 2) C, Int.mul_comm B D]
      omega
    rw [this, h2]
    exact h1.symm
  have hb : 0 ≤ (x / 2 ^ n % 2) * 2 ^ n + x % 2 ^ n ∧ (x / 2 ^ n % 2) * 2 ^ n + x % 2 ^ n < 2 ^ (n + 1) := by
    rw [Int.pow_succ]
    rcases (show x / 2 ^ n % 2 = 0 ∨ x / 2 ^ n % 2 = 1 by omega) with h | h <;> rw [h] <;> omega
  have : x % 2 ^ (n + 1) = ((x / 2 ^ n / 2) * 2 ^ (n + 1) + ((x / 2 ^ n % 2) * 2 ^ n + x % 2 ^ n)) % 2 ^ (n + 1) := by rw [← e]
  rw [this, Int.add_comm, Int.add_mul_emod_self_right, Int.emod_eq_of_lt hb.1 hb.2]
theorem fold_numBits (x : Int) : ∀ (n : Nat) (a : Int), (numBits x n).foldl (fun a b => 2 * a + if b = true then 1 else 0) a = a * 2 ^ n + x % 2 ^ n := by
  intro n
  induction n with
  | zero => intro a; simp [numBits]
  | succ n ih =>
    intro a
    rw [numBits, List.foldl_cons, ih, mod_pow_succ, Int.pow_succ]
    rcases (show x / 2 ^ n % 2 = 0 ∨ x / 2 ^ n % 2 = 1 by omega) with h | h
    · rw [h]
      simp only [beq_iff_eq, show ¬ ((0 : Int) = 1) by decide, if_false]
      rw [Int.add_zero, Int.zero_mul, Int.zero_add, Int.mul_comm 2 a, Int.mul_assoc, Int.mul_comm 2 (2 ^ n)]
    · rw [h]
      simp only [beq_self_eq_true, if_true]
      rw [Int.add_mul, Int.one_mul, Int.mul_comm 2 a, Int.mul_assoc, Int.mul_comm 2 (2 ^ n)]
      omega
theorem numOf_numBits (x : Int) (n : Nat) : numOf (numBits x n) = x % 2 ^ n := by
  unfold numOf
  rw [fold_numBits]
  omega
/-- Numbers that stand somewhere are told. -/
theorem numAt_mid (A B : List Bool) (x : Int) (n : Nat) (hn : n ≤ 64) : numAt (A ++ numBits x n ++ B) (A.length : Int) (n : Int) = some (x % 2 ^ n) := by
  unfold numAt
  rw [if_pos ⟨by omega, by omega, by omega, by rw [List.length_append, List.length_append, numBits_len]; omega⟩, Int.toNat_natCast, Int.toNat_natCast, List.append_assoc, List.drop_left,
    List.take_append_of_le_length (by rw [numBits_len]; omega), List.take_of_length_le (by rw [numBits_len]; omega), numOf_numBits]
theorem numBits_zero : ∀ n, numBits 0 n = List.replicate n false
  | 0 => rfl
  | n + 1 => by rw [numBits, numBits_zero n, List.replicate_succ]; simp
theorem zeros_rep (B : List Bool) : ∀ (k m : Nat), k < m → zeros (List.replicate k false ++ true :: B) m = k
  | 0, m + 1, _ => by simp [zeros]
  | k + 1, m + 1, h => by rw [List.replicate_succ, List.cons_append, zeros]; simp [zeros_rep B k m (by omega)]
theorem bitLen_pow {x : Nat} (h0 : x ≠ 0) (hx : x < 2 ^ 64) : 2 ^ (Lib.bitLen x - 1) ≤ x ∧ x < 2 ^ Lib.bitLen x := by
  have h1 := Nat.log2_self_le h0
  have h2 := Nat.lt_log2_self (n := x)
  have e : Lib.bitLen x = x.log2 + 1 := by
    rw [Lib.bitLen_shift x.log2 x h1 hx]
    have e : x / 2 ^ x.log2 = 1 := by
      have hp := Nat.two_pow_pos x.log2
      apply Nat.le_antisymm
      · have := (Nat.div_lt_iff_lt_mul hp (x := x) (y := 2)).2 (by rw [Nat.pow_succ] at h2; omega)
        omega
      · exact (Nat.le_div_iff_mul_le hp).2 (by omega)
    rw [e]
    rfl
  rw [e]
  exact ⟨h1, h2⟩
theorem gammaBits_len {x : Int} (h0 : 0 ≤ x) (h1 : x < 18446744073709551616) : ((gammaBits x).length : Int) = lenG x := by
  unfold gammaBits lenG
  by_cases hx : x = 0
  · rw [if_pos hx, if_pos hx]; rfl
  · rw [if_neg hx, if_neg hx, List.length_append, numBits_len, numBits_len]
    have := bitLen_pos (n := x.toNat) (by omega)
    omega
theorem gammaBits_le {x : Int} (h0 : 0 ≤ x) (h1 : x < 18446744073709551616) : (gammaBits x).length ≤ 127 := by
  have := gammaBits_len h0 h1
  have hb := Lib.bitLen_le x.toNat 64 (Nat.le_refl _) (by omega)
  unfold lenG at this
  split at this <;> omega
/-- A number that stands somewhere is told. -/
theorem getG_mid (A B : List Bool) (x : Int) (h0 : 0 < x) (h1 : x < 18446744073709551616) : getG (A ++ gammaBits x ++ B) (A.length : Int) = some (x, (A.length : Int) + ((gammaBits x).length : Int)) := by
  obtain ⟨k, hk⟩ : ∃ k, k = Lib.bitLen x.toNat := ⟨_, rfl⟩
  have hkp : 0 < k := by rw [hk]; exact bitLen_pos (by omega)
  have hk64 : k ≤ 64 := by rw [hk]; exact Lib.bitLen_le x.toNat 64 (Nat.le_refl _) (by omega)
  have hpw := bitLen_pow (x := x.toNat) (by omega) (by omega)
  rw [← hk] at hpw
  have hp0 : (2 : Int) ^ (k - 1) ≤ x := by
    have h2 : ((2 ^ (k - 1) : Nat) : Int) ≤ (x.toNat : Int) := by have := hpw.1; omega
    rw [Int.toNat_of_nonneg (by omega)] at h2
    exact_mod_cast h2
  have hp1 : x < (2 : Int) ^ k := by
    have h2 : (x.toNat : Int) < ((2 ^ k : Nat) : Int) := by have := hpw.2; omega
    rw [Int.toNat_of_nonneg (by omega)] at h2
    exact_mod_cast h2
  have hg : gammaBits x = List.replicate (k - 1) false ++ numBits x k := by rw [gammaBits, if_neg (by omega), ← hk, numBits_zero]
  have htop : ∃ R, numBits x k = true :: R := by
    obtain ⟨m, rfl⟩ : ∃ m, k = m + 1 := ⟨k - 1, by omega⟩
    refine ⟨numBits x m, ?_⟩
    rw [numBits]
    have hq : (0 : Int) < 2 ^ m := Int.pow_pos (by decide)
    have e : x / 2 ^ m = 1 := by
      rw [Nat.add_sub_cancel] at hp0
      apply Int.le_antisymm
      · have := Int.ediv_lt_of_lt_mul hq (show x < 2 * 2 ^ m by rw [Int.pow_succ] at hp1; omega)
        omega
      · exact Int.le_ediv_of_mul_le hq (by omega)
    rw [e]
    rfl
  obtain ⟨R, hR⟩ := htop
  have hz : zeros ((A ++ gammaBits x ++ B).drop A.length) 64 = k - 1 := by
    rw [List.append_assoc, List.drop_left, hg, hR, List.append_assoc, List.cons_append]
    exact zeros_rep _ _ _ (by omega)
  unfold getG
  rw [if_neg (by omega), Int.toNat_natCast, hz, if_neg (by omega)]
  have ha : (A.length : Int) + ((k - 1 : Nat) : Int) = ((A ++ List.replicate (k - 1) false).length : Int) := by rw [List.length_append, List.length_replicate]; omega
  have hn : (((k - 1 : Nat) : Int) + 1) = (k : Int) := by omega
  rw [ha, hn, hg, ← List.append_assoc, numAt_mid _ B x k hk64, Int.emod_eq_of_lt (by omega) hp1]
  simp only [Option.map_some, List.length_append, List.length_replicate, numBits_len]
  congr 2
  omega
/-- Numbers one behind the other. -/
def catG (xs : List Int) : List Bool := xs.flatMap gammaBits
theorem allG_cat (ys : List Int) : ∀ (A : List Bool), (∀ x ∈ ys, 0 ≤ x ∧ x < 18446744073709551616) → allG (A ++ catG ys) (A.length : Int) (ys.filter (fun x => decide (0 < x))).length = some (ys.filter (fun x => decide (0 < x)), ((A ++ catG ys).length : Int)) := by
  induction ys with
  | nil => intro A _; simp [catG, allG]
  | cons y r ih =>
    intro A h
    have hy := h y List.mem_cons_self
    have hr := fun x hx => h x (List.mem_cons_of_mem _ hx)
    have hc : catG (y :: r) = gammaBits y ++ catG r := by simp [catG]
    by_cases h0 : 0 < y
    · rw [List.filter_cons_of_pos (by simpa using h0), List.length_cons, allG, hc, ← List.append_assoc, getG_mid A (catG r) y h0 hy.2]
      have := ih (A ++ gammaBits y) hr
      rw [show (A ++ gammaBits y).length = A.length + (gammaBits y).length from List.length_append] at this
      simp only []
      rw [show (A.length : Int) + ((gammaBits y).length : Int) = ((A.length + (gammaBits y).length : Nat) : Int) from rfl, this]
      rfl
    · have e : y = 0 := by omega
      have hg : gammaBits y = [] := if_pos e
      rw [List.filter_cons_of_neg (by simpa using h0), hc, hg, List.nil_append]
      exact ih A hr
theorem getG_end (L : List Bool) : getG L (L.length : Int) = none := by
  unfold getG
  rw [if_neg (by omega), Int.toNat_natCast, List.drop_length]
  have e : zeros ([] : List Bool) 64 = 0 := rfl
  rw [e, if_neg (by decide), numAt_none (by omega)]
  rfl
theorem allG_over (L : List Bool) : ∀ (n : Nat) (t e : Int) (l : List Int), allG L t n = some (l, e) → getG L e = none → allG L t (n + 1) = none := by
  intro n
  induction n with
  | zero => intro t e l h hg; simp only [allG, Option.some.injEq, Prod.mk.injEq] at h; rw [allG, h.2, hg]
  | succ n ih =>
    intro t e l h hg
    rw [allG] at h ⊢
    cases hgt : getG L t with
    | none => rfl
    | some q =>
      obtain ⟨x, t2⟩ := q
      rw [hgt] at h
      simp only [] at h
      cases hq : allG L t2 n with
      | none => rw [hq] at h; cases h
      | some q =>
        obtain ⟨l2, e2⟩ := q
        rw [hq] at h
        simp only [Option.map_some, Option.some.injEq, Prod.mk.injEq] at h
        have := ih t2 e2 l2 hq (by rw [h.2]; exact hg)
        simp only []
        rw [this]
        rfl
theorem digits_l0 : ∀ (d : Nat) (x : Nat) (n : Nat), x < 2 ^ d → d ≤ 64 → n + d < 1000 → Ev (fun r => loessref6_digits.l0 r (x : Int) (n : Int)) (((n + Lib.bitLen x : Nat)) : Int) := by
  intro d
  induction d with
  | zero =>
    intro x n hx _ _
    obtain rfl : x = 0 := by omega
    refine Ev.step (f := fun _ => some ((n : Int))) (fun r => ?_) (evEq (Ev.now _) rfl)
    simp only [loessref6_digits.l0]
    rw [if_neg (by omega)]
  | succ d ih =>
    intro x n hx hd hn
    by_cases h0 : x = 0
    · subst h0
      refine Ev.step (f := fun _ => some ((n : Int))) (fun r => ?_) (evEq (Ev.now _) rfl)
      simp only [loessref6_digits.l0]
      rw [if_neg (by omega)]
    · have h64 : x < 2 ^ 64 := Nat.lt_of_lt_of_le hx (Nat.pow_le_pow_right (by decide) hd)
      have hb := Lib.bitLen_half x h0 h64
      have hq : (x : Int) / 2 = ((x / 2 : Nat) : Int) := by omega
      have hpos : (x : Int) > 0 := by omega
      have h1 := ih (x / 2) (n + 1) (by rw [Nat.pow_succ] at hx; omega) (by omega) (by omega)
      have hw : wrap64 ((n : Int) + 1) = ((n + 1 : Nat) : Int) := by rw [w64 (by omega) (by omega)]; rfl
      refine evEq (Ev.step (f := fun r => loessref6_digits.l0 r ((x / 2 : Nat) : Int) ((n + 1 : Nat) : Int)) (fun r => ?_) h1) ?_
      · simp only [loessref6_digits.l0]
        rw [if_pos hpos, hq, hw]
      · rw [hb]
        congr 1
        omega
theorem digits_ev {x : Int} (h0 : 0 ≤ x) (h1 : x < 18446744073709551616) : Ev (fun r => loessref6_digits.f r x) (Lib.bitLen x.toNat : Int) := by
  obtain ⟨x, rfl⟩ := Int.eq_ofNat_of_zero_le h0
  unfold loessref6_digits.f
  have := digits_l0 64 x 0 (by omega) (Nat.le_refl _) (by omega)
  rw [Nat.zero_add] at this
  exact this
theorem put_l0 (x : Int) (h0 : 0 ≤ x) (h1 : x < 18446744073709551616) : ∀ (n : Nat) (L : List Bool), n ≤ 64 → L.length + n < 100000000000 → Ev (fun r => loessref6_Bits_PutNum.l0 r x L ((n : Int) - 1)) (L ++ numBits x n) := by
  intro n
  induction n with
  | zero =>
    intro L _ _
    refine Ev.step (f := fun _ => some L) (fun r => ?_) (evEq (Ev.now _) (by simp [numBits]))
    simp only [loessref6_Bits_PutNum.l0]
    rw [if_neg (by omega)]
  | succ n ih =>
    intro L hn hL
    have e : ((n + 1 : Nat) : Int) - 1 = (n : Int) := by omega
    have h3 := ih (L ++ [x / 2 ^ n % 2 == 1]) (by omega) (by rw [List.length_append, List.length_singleton]; omega)
    rw [List.append_assoc] at h3
    have hge : (n : Int) ≥ 0 := by omega
    have hlt : L.length < 140737488355328 := by omega
    have hmin : min (n : Int).toNat 64 = n := by omega
    have hu : IntKind.u64.wrap (n : Int) = (n : Int) := u64 (by omega) (by omega)
    have hw : wrap64 ((n : Int) - 1) = (n : Int) - 1 := w64 (by omega) (by omega)
    have hs : shr .u64 x (n : Int) = x / 2 ^ n := by
      unfold shr
      rw [show IntKind.u64.bits = 64 from rfl, hmin]
    rw [e]
    refine Ev.step (f := fun r => loessref6_Bits_PutNum.l0 r x (L ++ [x / 2 ^ n % 2 == 1]) ((n : Int) - 1)) (fun r => ?_) h3
    simp only [loessref6_Bits_PutNum.l0]
    rw [if_pos hge, hu, if_pos hge, if_pos hlt, hs, and1_shr n h0 h1, hw]
theorem putNum_ev (L : List Bool) (x : Int) (n : Nat) (h0 : 0 ≤ x) (h1 : x < 18446744073709551616) (hn : n ≤ 64) (hL : L.length < 10000000000) : Ev (fun r => loessref6_Bits_PutNum.f r L x (n : Int)) (L ++ numBits x n) := by
  have h3 := put_l0 x h0 h1 n L hn (by omega)
  have e0 : ([] : List Bool).length + L.length < 140737488355328 := by simp; omega
  have e1 : ¬ (n : Int) < 0 := by omega
  have e2 : decide ((n : Int) > 64) = false := decide_eq_false (by omega)
  have hw : wrap64 ((n : Int) - 1) = (n : Int) - 1 := w64 (by omega) (by omega)
  unfold loessref6_Bits_PutNum.f
  simp only [if_pos e0, Option.bind_some, List.nil_append, if_neg e1, e2]
  refine Ev.step (f := fun r => loessref6_Bits_PutNum.l0 r x L ((n : Int) - 1)) (fun r => ?_) h3
  simp only [loessref6_Bits_PutNum.j0]
  rw [if_neg (by simp), hw]
theorem gamma_ev {x : Int} (h0 : 0 ≤ x) (h1 : x < 18446744073709551616) : Ev (fun r => loessref6_Gamma.f r x) (gammaBits x) := by
  unfold loessref6_Gamma.f gammaBits
  by_cases hx : x = 0
  · simp only [if_pos hx]
    exact Ev.now _
  · simp only [if_neg hx]
    have hb := Lib.bitLen_le x.toNat 64 (Nat.le_refl _) (by omega)
    have hp := bitLen_pos (n := x.toNat) (by omega)
    obtain ⟨k, hk⟩ : ∃ k, k = Lib.bitLen x.toNat := ⟨_, rfl⟩
    have hd := digits_ev h0 h1
    rw [← hk] at hb hp hd ⊢
    have hw : wrap64 ((k : Int) - 1) = ((k - 1 : Nat) : Int) := by rw [w64 (by omega) (by omega)]; omega
    have e1 : (0 : Int) ≤ ((k - 1 : Nat) : Int) := by omega
    have e2 : ((k - 1 : Nat) : Int).toNat ≤ 281474976710656 := by omega
    refine Ev.bind hd ?_
    have h3 := putNum_ev (List.replicate (k - 1) false) x k h0 h1 hb (by rw [List.length_replicate]; omega)
    rw [numBits_zero]
    refine Ev.congr (f := fun r => (loessref6_Bits_PutNum.f r (List.replicate (k - 1) false) x (k : Int)).bind fun t => some t) (fun r => ?_) (Ev.bind h3 (Ev.now _))
    rw [hw, if_pos e1, if_pos e2]
    rfl
end Go.Proofs.Ytobdfehpbgcloaa.GL

/- What a tree answers, in plain Lean. -/
namespace Go.Proofs.Ytobdfehpbgcloaa.GL
open Go.RowKit Go.Proofs.YtobdfehpbgcloaaW.PrintWords Go.Proofs.YtobdfehpbgcloaaW.PrintMore Go.Proofs.Ytobdfehpbgcloaa.Q Go.Proofs.Ytobdfehpbgcloaa.XTri
set_option linter.unusedVariables false
set_option linter.unusedSimpArgs false
theorem treeG_s {k : Nat} {ls : List Int} (h : ¬ ls.length < 2) : treeG (k + 1) ls = gammaBits ((lead k ls : Int) + 1) ++ treeG k (ls.take (lead k ls)) ++ treeG k (ls.drop (lead k ls)) := if_neg h
theorem skipT_sh {L : List Bool} (k : Nat) {at_ n : Int} (h : n < 2) : skipT L k at_ n = some at_ := by cases k <;> exact if_pos h
theorem skipT_l {L : List Bool} {k : Nat} {at_ n : Int} (h : ¬ n < 2) : skipT L (k + 1) at_ n = match readT L at_ n with
    | none => none
    | some (l, e) => match skipT L k e l with
      | none => none
      | some t => skipT L k t (n - l) := if_neg h
theorem read_tree (A B : List Bool) (m : Nat) (n : Int) (hm : (m : Int) ≤ n) (hn : n ≤ 4096) : readT (A ++ gammaBits ((m : Int) + 1) ++ B) (A.length : Int) n = some ((m : Int), ((A ++ gammaBits ((m : Int) + 1)).length : Int)) := by
  unfold readT
  rw [getG_mid A B ((m : Int) + 1) (by omega) (by omega)]
  show (if n < (m : Int) + 1 - 1 then none else some ((m : Int) + 1 - 1, (A.length : Int) + ((gammaBits ((m : Int) + 1)).length : Int))) = _
  rw [if_neg (by omega), List.length_append, Int.add_sub_cancel]
  rfl
theorem skip_tree : ∀ (k : Nat) (ls : List Int) (A B : List Bool), ls.length ≤ 4096 → OkT k ls → skipT (A ++ treeG k ls ++ B) k (A.length : Int) (ls.length : Int) = some ((A.length : Int) + ((treeG k ls).length : Int)) := by
  intro k
  induction k with
  | zero =>
    intro ls A B _ hok
    have h := hok.zero
    rw [skipT_sh 0 (by omega), treeG_short 0 h]
    simp
  | succ k ih =>
    intro ls A B hl hok
    by_cases h : ls.length < 2
    · rw [skipT_sh _ (by omega), treeG_short _ h]
      simp
    · have hs := (lead_spec k ls).1
      have e : A ++ treeG (k + 1) ls ++ B = A ++ gammaBits ((lead k ls : Int) + 1) ++ (treeG k (ls.take (lead k ls)) ++ treeG k (ls.drop (lead k ls)) ++ B) := by rw [treeG_s h]; simp [List.append_assoc]
      have h1 := ih (ls.take (lead k ls)) (A ++ gammaBits ((lead k ls : Int) + 1)) (treeG k (ls.drop (lead k ls)) ++ B) (by rw [List.length_take]; omega) hok.take
      have h2 := ih (ls.drop (lead k ls)) (A ++ gammaBits ((lead k ls : Int) + 1) ++ treeG k (ls.take (lead k ls))) B (by rw [List.length_drop]; omega) hok.drop
      rw [List.length_take, Nat.min_eq_left hs] at h1
      rw [List.length_drop] at h2
      have e1 : A ++ gammaBits ((lead k ls : Int) + 1) ++ treeG k (ls.take (lead k ls)) ++ (treeG k (ls.drop (lead k ls)) ++ B) = A ++ gammaBits ((lead k ls : Int) + 1) ++ (treeG k (ls.take (lead k ls)) ++ treeG k (ls.drop (lead k ls)) ++ B) := by simp [List.append_assoc]
      have e2 : A ++ gammaBits ((lead k ls : Int) + 1) ++ treeG k (ls.take (lead k ls)) ++ treeG k (ls.drop (lead k ls)) ++ B = A ++ gammaBits ((lead k ls : Int) + 1) ++ (treeG k (ls.take (lead k ls)) ++ treeG k (ls.drop (lead k ls)) ++ B) := by simp [List.append_assoc]
      rw [e1] at h1
      rw [e2] at h2
      rw [e, skipT_l (by omega), read_tree _ _ _ _ (by omega) (by omega)]
      simp only [h1]
      have e3 : ((A ++ gammaBits ((lead k ls : Int) + 1)).length : Int) + ((treeG k (ls.take (lead k ls))).length : Int) = ((A ++ gammaBits ((lead k ls : Int) + 1) ++ treeG k (ls.take (lead k ls))).length : Int) := by rw [List.length_append (bs := treeG k (ls.take (lead k ls)))]; rfl
      have e4 : (ls.length : Int) - (lead k ls : Int) = ((ls.length - lead k ls : Nat) : Int) := by omega
      rw [e3, e4, h2, treeG_s h]
      simp only [List.length_append, Option.some.injEq]
      omega
theorem ok_bit {k : Nat} {ls : List Int} (h : OkT (k + 1) ls) {i : Nat} (hi : i < ls.length) (hl : lead k ls ≤ i) : bitT ls[i] k = true := by
  obtain ⟨hp, c, hc⟩ := h
  obtain ⟨h1, h2, h3⟩ := lead_spec k ls
  have hb := h3 (by omega)
  rw [List.getD_eq_getElem?_getD, List.getElem?_eq_getElem (by omega), Option.getD_some] at hb
  have h4 := bitT_true hb
  rw [hc _ (List.getElem_mem _)] at h4
  have h5 := hc ls[i] (List.getElem_mem _)
  have h6 : ls[lead k ls]'(by omega) ≤ ls[i] := by
    rcases Nat.eq_or_lt_of_le hl with he | hlt
    · subst he; exact Int.le_refl _
    · exact Int.le_of_lt (List.pairwise_iff_getElem.1 hp _ _ (by omega) (by omega) hlt)
  have h7 := mono_div k h6
  rw [half] at h5
  unfold bitT
  have : ls[i] / 2 ^ k % 2 = 1 := by omega
  rw [this]
  rfl
theorem rank_tree : ∀ (k : Nat) (ls : List Int) (A B : List Bool) (i : Nat) (a h : Int), ls[i]? = some h → ls.length ≤ 4096 → OkT k ls → rankT (A ++ treeG k ls ++ B) h k (A.length : Int) (ls.length : Int) a = some (a + (i : Int)) := by
  intro k
  induction k with
  | zero =>
    intro ls A B i a h hih _ hok
    obtain ⟨hi, _⟩ := List.getElem?_eq_some_iff.1 hih
    have h := hok.zero
    have e1 : ls.length = 1 := by omega
    obtain rfl : i = 0 := by omega
    have e2 : (ls.length : Int) = 1 := by omega
    rw [e2, rankT_1]
    simp
  | succ k ih =>
    intro ls A B i a y hih hl hok
    obtain ⟨hi, hy⟩ := List.getElem?_eq_some_iff.1 hih
    by_cases h : ls.length < 2
    · obtain rfl : i = 0 := by omega
      have e2 : (ls.length : Int) = 1 := by omega
      rw [e2, rankT_1]
      simp
    · have hs := (lead_spec k ls).1
      have hb := (lead_spec k ls).2.1
      have e : A ++ treeG (k + 1) ls ++ B = A ++ gammaBits ((lead k ls : Int) + 1) ++ (treeG k (ls.take (lead k ls)) ++ treeG k (ls.drop (lead k ls)) ++ B) := by rw [treeG_s h]; simp [List.append_assoc]
      have e1 : A ++ gammaBits ((lead k ls : Int) + 1) ++ treeG k (ls.take (lead k ls)) ++ (treeG k (ls.drop (lead k ls)) ++ B) = A ++ gammaBits ((lead k ls : Int) + 1) ++ (treeG k (ls.take (lead k ls)) ++ treeG k (ls.drop (lead k ls)) ++ B) := by simp [List.append_assoc]
      have e2 : A ++ gammaBits ((lead k ls : Int) + 1) ++ treeG k (ls.take (lead k ls)) ++ treeG k (ls.drop (lead k ls)) ++ B = A ++ gammaBits ((lead k ls : Int) + 1) ++ (treeG k (ls.take (lead k ls)) ++ treeG k (ls.drop (lead k ls)) ++ B) := by simp [List.append_assoc]
      rw [e, rankT_s (by omega), read_tree _ _ _ _ (by omega) (by omega)]
      by_cases hlt : i < lead k ls
      · have hbf := hb i hlt
        rw [List.getD_eq_getElem?_getD, hih, Option.getD_some] at hbf
        have h1 := ih (ls.take (lead k ls)) (A ++ gammaBits ((lead k ls : Int) + 1)) (treeG k (ls.drop (lead k ls)) ++ B) i a y (by rw [List.getElem?_take_of_lt hlt]; exact hih) (by rw [List.length_take]; omega) hok.take
        rw [List.length_take, Nat.min_eq_left hs, e1] at h1
        simp only [hbf]
        exact h1
      · have hbt := ok_bit hok hi (by omega)
        rw [hy] at hbt
        have h0 := skip_tree k (ls.take (lead k ls)) (A ++ gammaBits ((lead k ls : Int) + 1)) (treeG k (ls.drop (lead k ls)) ++ B) (by rw [List.length_take]; omega) hok.take
        rw [List.length_take, Nat.min_eq_left hs, e1] at h0
        have h2 := ih (ls.drop (lead k ls)) (A ++ gammaBits ((lead k ls : Int) + 1) ++ treeG k (ls.take (lead k ls))) B (i - lead k ls) (a + (lead k ls : Int)) y (by rw [List.getElem?_drop, show lead k ls + (i - lead k ls) = i by omega]; exact hih) (by rw [List.length_drop]; omega) hok.drop
        have e3 : ((A ++ gammaBits ((lead k ls : Int) + 1)).length : Int) + ((treeG k (ls.take (lead k ls))).length : Int) = ((A ++ gammaBits ((lead k ls : Int) + 1) ++ treeG k (ls.take (lead k ls))).length : Int) := by rw [List.length_append (bs := treeG k (ls.take (lead k ls)))]; rfl
        have e4 : (ls.length : Int) - (lead k ls : Int) = ((ls.length - lead k ls : Nat) : Int) := by omega
        rw [List.length_drop, e2] at h2
        simp only [hbt, h0, e3, e4, h2]
        rw [if_pos trivial]
        congr 1
        omega
/-- A rising list's numbers are found at their places. -/
theorem rank_found {ls : List Int} {i : Nat} (hi : i < ls.length) (hl : ls.length ≤ 4096) (hp : ls.Pairwise (· < ·)) (hu : U64s ls) : rankI (treeG 64 ls) ls[i] (ls.length : Int) = some (i : Int) := by
  unfold rankI
  rw [if_neg (by omega)]
  have := rank_tree 64 ls [] [] i 0 ls[i] (List.getElem?_eq_getElem hi) hl (OkT.all hp hu)
  simpa using this
theorem check_tree {ls : List Int} (hl : ls.length ≤ 4096) (hp : ls.Pairwise (· < ·)) (hu : U64s ls) : checkT (treeG 64 ls) (ls.length : Int) = true := by
  unfold checkT
  rw [if_neg (by omega)]
  have := skip_tree 64 ls [] [] hl (OkT.all hp hu)
  simp only [List.nil_append, List.append_nil, List.length_nil] at this
  rw [show ((0 : Nat) : Int) = 0 from rfl] at this
  rw [this]
  simp
theorem rank_rng {L : List Bool} {h : Int} : ∀ (k : Nat) (at_ n a r : Int), 0 ≤ n → rankT L h k at_ n a = some r → a ≤ r ∧ r < a + n := by
  intro k
  induction k with
  | zero =>
    intro at_ n a r hn h
    rw [rankT] at h
    split at h
    · cases h
    · split at h
      · injection h with h; omega
      · cases h
  | succ k ih =>
    intro at_ n a r hn hr
    by_cases hz : n = 0
    · subst hz; rw [rankT_0] at hr; cases hr
    · by_cases ho : n = 1
      · subst ho; rw [rankT_1] at hr; injection hr with hr; omega
      · rw [rankT_s (by omega)] at hr
        cases hrd : readT L at_ n with
        | none => rw [hrd] at hr; cases hr
        | some le =>
          obtain ⟨l, e⟩ := le
          rw [hrd] at hr
          have hsp := readT_spec hrd
          by_cases hb : bitT h k = true
          · simp only [if_pos hb] at hr
            cases hs : skipT L k e l with
            | none => simp only [hs] at hr; cases hr
            | some t =>
              simp only [hs] at hr
              have := ih t (n - l) (a + l) r (by omega) hr
              omega
          · simp only [if_neg hb] at hr
            have := ih e l a r (by omega) hr
            omega
theorem mod_bit (x : Int) (k : Nat) : x % 2 ^ (k + 1) = 2 ^ k * (x / 2 ^ k % 2) + x % 2 ^ k := by
  have h1 := Int.mul_ediv_add_emod x (2 ^ k)
  have h2 := Int.mul_ediv_add_emod x (2 ^ (k + 1))
  rw [half, Int.pow_succ] at h2
  have h3 : (2 : Int) ^ k * (x / 2 ^ k) = 2 ^ k * 2 * (x / 2 ^ k / 2) + 2 ^ k * (x / 2 ^ k % 2) := by
    rw [Int.mul_assoc, ← Int.mul_add]
    congr 1
    omega
  rw [Int.pow_succ]
  omega
theorem rank_mono {L : List Bool} {x y : Int} : ∀ (k : Nat) (at_ n a r q : Int), 0 ≤ n → x % 2 ^ k ≤ y % 2 ^ k → rankT L x k at_ n a = some r → rankT L y k at_ n a = some q → r ≤ q := by
  intro k
  induction k with
  | zero =>
    intro at_ n a r q hn _ h1 h2
    rw [rankT] at h1 h2
    rw [h1] at h2
    injection h2 with h2
    omega
  | succ k ih =>
    intro at_ n a r q hn hxy hr hq
    by_cases hz : n = 0
    · subst hz; rw [rankT_0] at hr; cases hr
    · by_cases ho : n = 1
      · subst ho; rw [rankT_1] at hr hq; injection hr with hr; injection hq with hq; omega
      · rw [rankT_s (by omega)] at hr hq
        cases hrd : readT L at_ n with
        | none => rw [hrd] at hr; cases hr
        | some le =>
          obtain ⟨l, e⟩ := le
          rw [hrd] at hr hq
          have hsp := readT_spec hrd
          have hp : (0 : Int) < 2 ^ k := Int.pow_pos (by decide)
          have hx0 := Int.emod_nonneg x (Int.ne_of_gt hp)
          have hx1 := Int.emod_lt_of_pos x hp
          have hy0 := Int.emod_nonneg y (Int.ne_of_gt hp)
          have hy1 := Int.emod_lt_of_pos y hp
          rw [mod_bit, mod_bit] at hxy
          by_cases hb : bitT x k = true
          · have hbx : x / 2 ^ k % 2 = 1 := by simpa [bitT] using hb
            simp only [if_pos hb] at hr
            by_cases hc : bitT y k = true
            · have hby : y / 2 ^ k % 2 = 1 := by simpa [bitT] using hc
              simp only [if_pos hc] at hq
              rw [hbx, hby] at hxy
              cases hs : skipT L k e l with
              | none => simp only [hs] at hr; cases hr
              | some t =>
                simp only [hs] at hr hq
                exact ih t (n - l) (a + l) r q (by omega) (by omega) hr hq
            · have hby : ¬ y / 2 ^ k % 2 = 1 := by simpa [bitT] using hc
              have hby0 : y / 2 ^ k % 2 = 0 := by omega
              rw [hbx, hby0] at hxy
              omega
          · simp only [if_neg hb] at hr
            have hbx : ¬ x / 2 ^ k % 2 = 1 := by simpa [bitT] using hb
            have hbx0 : x / 2 ^ k % 2 = 0 := by omega
            by_cases hc : bitT y k = true
            · simp only [if_pos hc] at hq
              cases hs : skipT L k e l with
              | none => simp only [hs] at hq; cases hq
              | some t =>
                simp only [hs] at hq
                have h1 := rank_rng k e l a r (by omega) hr
                have h2 := rank_rng k t (n - l) (a + l) q (by omega) hq
                omega
            · have hby : ¬ y / 2 ^ k % 2 = 1 := by simpa [bitT] using hc
              have hby0 : y / 2 ^ k % 2 = 0 := by omega
              simp only [if_neg hc] at hq
              rw [hbx0, hby0] at hxy
              exact ih e l a r q (by omega) (by omega) hr hq
end Go.Proofs.Ytobdfehpbgcloaa.GL

-- Written by wip/xprint.py, this session's wrapper round the kit's print program. Not trusted: Lean checks it.
namespace Go.Proofs.Ytobdfehpbgcloaa.XTri
open Go.RowKit Go.Proofs.Ytobdfehpbgcloaa.G Go.Proofs.YtobdfehpbgcloaaW.PrintWords Go.Proofs.YtobdfehpbgcloaaW.PrintLast Go.Proofs.YtobdfehpbgcloaaW.PrintMore
attribute [local go_sem] max2_int min2_int max_two min_two max_three min_three max_four min_four   -- for this text's walks alone
set_option linter.unusedVariables false
set_option linter.unusedSimpArgs false

/-! ### loessref6_Tree: function 17 -/
mutual
def loessref6_Tree.j0 : Nat → List Int → Int → Bool → Option (List Bool)
  | 0, _, _, _ => none
  | k + 1, x0, x1, x14 => if x14 = true then (some ([] : List Bool)) else (loessref6_Tree.l0 k x0 x1 0 0)
def loessref6_Tree.l0 : Nat → List Int → Int → Int → Int → Option (List Bool)
  | 0, _, _, _, _ => none
  | k + 1, x0, x1, x5, x6 => if x6 < (x0.length : Int) then (if 0 ≤ x6 then (if 0 ≤ (IntKind.u64.wrap (wrap64 (63 - x1))) then (if (Go.bits .and .u64 (shr .u64 (rd x0 x6) (IntKind.u64.wrap (wrap64 (63 - x1)))) 1) = 0 then (loessref6_Tree.l0 k x0 x1 (wrap64 (x5 + 1)) (wrap64 (x6 + 1))) else (loessref6_Tree.l0 k x0 x1 x5 (wrap64 (x6 + 1)))) else (none)) else (none)) else ((loessref6_Gamma.f k (IntKind.u64.wrap ((IntKind.u64.wrap (x5)) + 1))).bind fun t153 => (if ([] : List Bool).length + t153.length < 140737488355328 then ((some (([] : List Bool) ++ t153 : List Bool)).bind fun y156 => (if 0 ≤ x5 then (if x5 ≤ (x0.length : Int) then ((loessref6_Tree.f k (x0.take (x5 : Int).toNat) (wrap64 (x1 + 1))).bind fun t163 => (if y156.length + t163.length < 140737488355328 then ((some (y156 ++ t163 : List Bool)).bind fun y166 => ((loessref6_Tree.f k (x0.drop (x5 : Int).toNat) (wrap64 (x1 + 1))).bind fun t173 => (if y166.length + t173.length < 140737488355328 then (some (y166 ++ t173)) else (none)))) else (none))) else (none)) else (none))) else (none)))
def loessref6_Tree.f : Nat → List Int → Int → Option (List Bool)
  | 0, _, _ => none
  | k + 1, l0, a1 => if (l0.length : Int) ≤ 1 then (loessref6_Tree.j0 k l0 a1 true) else (loessref6_Tree.j0 k l0 a1 (decide (a1 > 63)))
end
theorem loessref6_Tree.mono_l : ∀ k, (∀ y0 y1, LeO (loessref6_Tree.f k y0 y1) (loessref6_Tree.f (k + 1) y0 y1)) ∧ (∀ y0 y1 y2, LeO (loessref6_Tree.j0 k y0 y1 y2) (loessref6_Tree.j0 (k + 1) y0 y1 y2)) ∧ (∀ y0 y1 y2 y3, LeO (loessref6_Tree.l0 k y0 y1 y2 y3) (loessref6_Tree.l0 (k + 1) y0 y1 y2 y3))
  | 0 => ⟨fun _ _ r h => by simp [loessref6_Tree.f] at h, fun _ _ _ r h => by simp [loessref6_Tree.j0] at h, fun _ _ _ _ r h => by simp [loessref6_Tree.l0] at h⟩
  | k + 1 => by
    obtain ⟨ih0, ih1, ih2⟩ := loessref6_Tree.mono_l k
    refine ⟨?_, ?_, ?_⟩
    · intro y0 y1
      unfold loessref6_Tree.f
      repeat' first
      | (with_reducible exact ih0 _ _)
      | (with_reducible exact ih1 _ _ _)
      | (with_reducible exact ih2 _ _ _ _)
      | (with_reducible exact loessref6_Gamma.mono _ _)
      | (with_reducible exact LeO.refl _)
      | (with_reducible exact LeO.none _)
      | (with_reducible refine LeO.ite ?_ ?_)
      | (with_reducible refine LeO.bind ?_ (fun _ => ?_))
      | exact ih0 _ _
      | exact ih1 _ _ _
      | exact ih2 _ _ _ _
      | exact loessref6_Gamma.mono _ _
      | exact LeO.none _
      | refine LeO.ite ?_ ?_
      | refine LeO.bind ?_ (fun _ => ?_)
    · intro y0 y1 y2
      unfold loessref6_Tree.j0
      repeat' first
      | (with_reducible exact ih0 _ _)
      | (with_reducible exact ih1 _ _ _)
      | (with_reducible exact ih2 _ _ _ _)
      | (with_reducible exact loessref6_Gamma.mono _ _)
      | (with_reducible exact LeO.refl _)
      | (with_reducible exact LeO.none _)
      | (with_reducible refine LeO.ite ?_ ?_)
      | (with_reducible refine LeO.bind ?_ (fun _ => ?_))
      | exact ih0 _ _
      | exact ih1 _ _ _
      | exact ih2 _ _ _ _
      | exact loessref6_Gamma.mono _ _
      | exact LeO.none _
      | refine LeO.ite ?_ ?_
      | refine LeO.bind ?_ (fun _ => ?_)
    · intro y0 y1 y2 y3
      unfold loessref6_Tree.l0
      repeat' first
      | (with_reducible exact ih0 _ _)
      | (with_reducible exact ih1 _ _ _)
      | (with_reducible exact ih2 _ _ _ _)
      | (with_reducible exact loessref6_Gamma.mono _ _)
      | (with_reducible exact LeO.refl _)
      | (with_reducible exact LeO.none _)
      | (with_reducible refine LeO.ite ?_ ?_)
      | (with_reducible refine LeO.bind ?_ (fun _ => ?_))
      | exact ih0 _ _
      | exact ih1 _ _ _
      | exact ih2 _ _ _ _
      | exact loessref6_Gamma.mono _ _
      | exact LeO.none _
      | refine LeO.ite ?_ ?_
      | refine LeO.bind ?_ (fun _ => ?_)
theorem loessref6_Tree.mono : ∀ a0 a1 k, LeO (loessref6_Tree.f k a0 a1) (loessref6_Tree.f (k + 1) a0 a1) := by
  intro a0 a1 k
  obtain ⟨ih0, ih1, ih2⟩ := loessref6_Tree.mono_l k
  exact ih0 a0 a1
set_option maxHeartbeats 8000000 in
set_option maxRecDepth 100000 in
theorem loessref6_Tree.calls (k : Nat) : ∀ (A0 : Option Addr) (c0 : Nat) (l0 : List Int) (a1 : Int) (r : List Bool) (w : World) (hr0 : Kd.C (Kd.int .u64) w A0 l0.length l0) (hc0 : l0.length ≤ c0) (h : loessref6_Tree.f k l0 a1 = some r),
    Calls Try.prog 17 #[.slice A0 l0.length c0, .int .i64 a1] w fun e w' => ∃ v0_ : Value, e = .returned (v0_) ∧ Kd.R Kd.bool 4 w' w.heap.size (fun _ => True) v0_ r ∧ Below w.heap.size w w' := by
  induction k using Nat.strongRecOn with
  | _ k ih =>
  intro A0 c0 l0 a1 r w hr0 hc0 h
  cases k with
  | zero => exact absurd h (by simp [loessref6_Tree.f])
  | succ k =>
  simp only [loessref6_Tree.f] at h
  have HR0 := Aside0.mk hr0
  have HC0 := Aside0.mk hc0
  clear hr0 hc0
  have HB := Aside0.mk (Below.refl w.heap.size w)
  have H : (if (l0.length : Int) ≤ 1 then (loessref6_Tree.j0 k l0 a1 true) else (loessref6_Tree.j0 k l0 a1 (decide (a1 > 63)))) = some r := h
  clear h
  have HC3 := Aside0.mk H
  clear H
  go_enter Try.func17, Try.ntmps17
  go_upto_region 1 with (fail)
  go_cut [14] (fun v14 wc => ∃ (kq : Nat) (x14_2 : Bool), v14 = .bool x14_2 ∧ Aside0 (loessref6_Tree.j0 kq l0 a1 x14_2 = some r) ∧ Aside0 (kq ≤ k) ∧ Aside0 (Below w.heap.size w wc))
  case first =>
    have H := HC3.out
    clear HC3
    by_cases c4 : (l0.length : Int) ≤ 1
    · rw [if_pos c4] at H
      have c4b0 : decide ((l0.length : Int) ≤ 1) = true := decide_eq_true c4
      have c4b1 : decide (l0.length ≤ 1) = true := decide_eq_true (by omega)
      clear c4
      (first | rw [c4b0] | (simp only [i64_w, i32_w]; rw [c4b0]) | skip)
      have H' := Aside0.mk H
      clear H
      go_wp2
      go_meet
      case rel => exact ⟨_, (true), (by first | rfl | (simp; done) | (simp [*]; done)), H', ⟨by first | omega | exact Nat.le_refl _⟩, ⟨by repeat (first | (with_reducible first | exact HB.out | apply below_alloc | apply pw_below_drewN | apply below_drew1) | exact HB.out)⟩⟩
    · rw [if_neg c4] at H
      have c4b0 : decide ((l0.length : Int) ≤ 1) = false := decide_eq_false c4
      have c4b1 : decide (l0.length ≤ 1) = false := decide_eq_false (by omega)
      clear c4
      (first | rw [c4b0] | (simp only [i64_w, i32_w]; rw [c4b0]) | skip)
      have H' := Aside0.mk H
      clear H
      go_wp2
      go_meet
      case rel => exact ⟨_, (decide (a1 > 63)), (by first | rfl | (simp; done) | (simp [*]; done)), H', ⟨by first | omega | exact Nat.le_refl _⟩, ⟨by repeat (first | (with_reducible first | exact HB.out | apply below_alloc | apply pw_below_drewN | apply below_drew1) | exact HB.out)⟩⟩
  case rest =>
    clear HC3
    try clear c1
    try clear p2
    try clear c4
    try clear c4b0
    try clear c4b1
    obtain ⟨kq, x14_2, rfl, HA, HJ2, HB⟩ := hcut
    cases kq with
    | zero => exact absurd HA.out (by simp [loessref6_Tree.j0])
    | succ kj2 =>
      have H := HA.out
      clear HA
      simp only [loessref6_Tree.j0] at H
      by_cases c5 : x14_2 = true
      · subst c5
        have H1 : (some ([] : List Bool)) = some r := by rw [if_pos rfl] at H; exact H
        clear H
        have H := H1
        clear H1
        obtain rfl := Option.some.inj H
        go_wp2
        go_ret
        exact ⟨_, by first | rfl | (simp [errW_none, errW_some] <;> rfl) | (simp [*, errW_none, errW_some] <;> rfl), by first | exact Kd.R_nil _ _ _ _ _ | exact Kd.N_nil _ _ _ _ _ | exact Kd.V_nil _ _ _ _ _ | exact Kd.Q_nil _ _ _ _ _ | exact Kd.S_nil _ _ _ _ _, by repeat (first | (with_reducible first | exact HB.out | apply below_alloc | apply pw_below_drewN | apply below_drew1) | exact HB.out)⟩
      · replace c5 := Bool.eq_false_iff.mpr c5
        subst c5
        have H1 : (loessref6_Tree.l0 kj2 l0 a1 0 0) = some r := by rw [if_neg (show ¬ (false = true) by decide)] at H; exact H
        clear H
        have H := H1
        clear H1
        have H' := Aside0.mk H
        clear H
        go_wp2
        go_loopg [5, 6] kj2 (fun kq v5 v6 w' => ∃ (x5_2 : Int) (x6_2 : Int), v5 = .int .i64 x5_2 ∧ v6 = .int .i64 x6_2 ∧ Aside0 (loessref6_Tree.l0 kq l0 a1 x5_2 x6_2 = some r) ∧ Aside0 (kq ≤ kj2) ∧ Aside0 (Below w.heap.size w w'))
        case atStart => exact ⟨(0), (0), (by first | rfl | (simp; done) | (simp [*]; done)), (by first | rfl | (simp; done) | (simp [*]; done)), H', ⟨Nat.le_refl _⟩, ⟨by repeat (first | (with_reducible first | exact HB.out | apply below_alloc | apply pw_below_drewN | apply below_drew1) | exact HB.out)⟩⟩
        case round =>
          clear H'
          try clear c1
          try clear p2
          try clear c4
          try clear c4b0
          try clear c4b1
          try clear c5
          try clear p2
          obtain ⟨x5_2, x6_2, rfl, rfl, HA, HK2, HB⟩ := hrel
          cases gk with
          | zero => exact absurd HA.out (by simp [loessref6_Tree.l0])
          | succ k2 =>
            have H := HA.out
            clear HA
            simp only [loessref6_Tree.l0] at H
            by_cases c6 : x6_2 < (l0.length : Int)
            · rw [if_pos c6] at H
              have c6b0 : decide (x6_2 < (l0.length : Int)) = true := decide_eq_true c6
              clear c6
              by_cases c7 : 0 ≤ x6_2
              · rw [if_pos c7] at H
                have c7b0 : decide (0 ≤ x6_2) = true := decide_eq_true c7
                clear c7
                obtain ⟨ji8, hji8⟩ : ∃ j_ : Int, (IntKind.u64.wrap (wrap64 (63 - a1))) = j_ := ⟨_, rfl⟩
                replace H : (if 0 ≤ (ji8) then (if (Go.bits .and .u64 (shr .u64 (rd l0 x6_2) (ji8)) 1) = 0 then (loessref6_Tree.l0 k2 l0 a1 (wrap64 (x5_2 + 1)) (wrap64 (x6_2 + 1))) else (loessref6_Tree.l0 k2 l0 a1 x5_2 (wrap64 (x6_2 + 1)))) else (none)) = some r := by first | (rw [hji8] at H; exact H) | (simp only [hji8] at H ⊢; exact H)
                by_cases c9 : 0 ≤ (ji8)
                · rw [if_pos c9] at H
                  have c9b0 := eq_true c9
                  have c9b1 : decide (0 ≤ (ji8)) = true := decide_eq_true c9
                  clear c9
                  obtain ⟨ji10, hji10⟩ : ∃ j_ : Int, (shr .u64 (rd l0 x6_2) (ji8)) = j_ := ⟨_, rfl⟩
                  replace H : (if (Go.bits .and .u64 (ji10) 1) = 0 then (loessref6_Tree.l0 k2 l0 a1 (wrap64 (x5_2 + 1)) (wrap64 (x6_2 + 1))) else (loessref6_Tree.l0 k2 l0 a1 x5_2 (wrap64 (x6_2 + 1)))) = some r := by first | (rw [hji10] at H; exact H) | (simp only [hji10] at H ⊢; exact H)
                  have hji10_ : ((rd l0 x6_2) / 2 ^ min (ji8).toNat 64) = ji10 := hji10
                  have hji10z : (ji8) ≤ 64 → ((rd l0 x6_2) / 2 ^ (ji8).toNat) = ji10 := shr_small hji10
                  by_cases c11 : (Go.bits .and .u64 (ji10) 1) = 0
                  · rw [if_pos c11] at H
                    have c11b0 : ((Go.bits .and .u64 (ji10) 1) == 0) = true := beq_iff_eq.mpr c11
                    have c11b1 : ((Go.bits .and .u64 (ji10) 1) != 0) = false := bne_eq_false_iff_eq.mpr c11
                    clear c11
                    have H' := Aside0.mk H
                    clear H
                    have p152 : 0 ≤ (x6_2 : Int) := of_decide_eq_true (by first | (with_reducible assumption) | assumption)
                    have q152 : x6_2 < (l0.length : Int) := of_decide_eq_true (by first | (with_reducible assumption) | assumption)
                    obtain ⟨ad152, e152, hx152_0⟩ := Kd.at_int HR0.out x6_2 p152 q152
                    cases e152
                    replace hx152_0 := (HB.out.cell (World.block_lt_of_cell? w _ hx152_0)).trans hx152_0
                    replace p152 := eq_true p152
                    replace q152 := eq_true q152
                    go_wp2
                    go_roundg k2
                    case measure => have := HJ2.out; have := HK2.out; omega
                    case rel => exact ⟨(wrap64 (x5_2 + 1)), (wrap64 (x6_2 + 1)), (by first | rfl | (simp; done) | (simp [*]; done)), (by first | rfl | (simp; done) | (simp [*]; done)), H', ⟨by have := HJ2.out; have := HK2.out; omega⟩, ⟨by repeat (first | (with_reducible first | exact HB.out | apply below_alloc | apply pw_below_drewN | apply below_drew1) | exact HB.out)⟩⟩
                  · rw [if_neg c11] at H
                    have c11b0 : ((Go.bits .and .u64 (ji10) 1) == 0) = false := beq_eq_false_iff_ne.mpr c11
                    have c11b1 : ((Go.bits .and .u64 (ji10) 1) != 0) = true := bne_iff_ne.mpr c11
                    have H' := Aside0.mk H
                    clear H
                    have p152 : 0 ≤ (x6_2 : Int) := of_decide_eq_true (by first | (with_reducible assumption) | assumption)
                    have q152 : x6_2 < (l0.length : Int) := of_decide_eq_true (by first | (with_reducible assumption) | assumption)
                    obtain ⟨ad152, e152, hx152_0⟩ := Kd.at_int HR0.out x6_2 p152 q152
                    cases e152
                    replace hx152_0 := (HB.out.cell (World.block_lt_of_cell? w _ hx152_0)).trans hx152_0
                    replace p152 := eq_true p152
                    replace q152 := eq_true q152
                    go_wp2
                    go_roundg k2
                    case measure => have := HJ2.out; have := HK2.out; omega
                    case rel => exact ⟨(x5_2), (wrap64 (x6_2 + 1)), (by first | rfl | (simp; done) | (simp [*]; done)), (by first | rfl | (simp; done) | (simp [*]; done)), H', ⟨by have := HJ2.out; have := HK2.out; omega⟩, ⟨by repeat (first | (with_reducible first | exact HB.out | apply below_alloc | apply pw_below_drewN | apply below_drew1) | exact HB.out)⟩⟩
                · rw [if_neg c9] at H
                  exact absurd H (by simp)
              · rw [if_neg c7] at H
                exact absurd H (by simp)
            · rw [if_neg c6] at H
              have c6b0 : decide (x6_2 < (l0.length : Int)) = false := decide_eq_false c6
              clear c6
              replace H := Option.bind_eq_some_iff.mp H
              obtain ⟨t153, A120, H⟩ := H
              replace H : (if ([] : List Bool).length + t153.length < 140737488355328 then ((some (([] : List Bool) ++ t153 : List Bool)).bind fun y156 => (if 0 ≤ x5_2 then (if x5_2 ≤ (l0.length : Int) then ((loessref6_Tree.f k2 (l0.take (x5_2 : Int).toNat) (wrap64 (a1 + 1))).bind fun t163 => (if y156.length + t163.length < 140737488355328 then ((some (y156 ++ t163 : List Bool)).bind fun y166 => ((loessref6_Tree.f k2 (l0.drop (x5_2 : Int).toNat) (wrap64 (a1 + 1))).bind fun t173 => (if y166.length + t173.length < 140737488355328 then (some (y166 ++ t173)) else (none)))) else (none))) else (none)) else (none))) else (none)) = some r := H
              have A12 := Aside0.mk A120
              clear A120
              by_cases c13 : ([] : List Bool).length + t153.length < 140737488355328
              · rw [if_pos c13] at H
                have LMc13 := Aside0.mk c13
                clear c13
                obtain ⟨y156, hy156⟩ : ∃ y_ : List Bool, y_ = (([] : List Bool) ++ t153) := ⟨_, rfl⟩
                replace H : (if 0 ≤ x5_2 then (if x5_2 ≤ (l0.length : Int) then ((loessref6_Tree.f k2 (l0.take (x5_2 : Int).toNat) (wrap64 (a1 + 1))).bind fun t163 => (if y156.length + t163.length < 140737488355328 then ((some (y156 ++ t163 : List Bool)).bind fun y166 => ((loessref6_Tree.f k2 (l0.drop (x5_2 : Int).toNat) (wrap64 (a1 + 1))).bind fun t173 => (if y166.length + t173.length < 140737488355328 then (some (y166 ++ t173)) else (none)))) else (none))) else (none)) else (none)) = some r := by first | (rw [hy156]; with_reducible exact H) | (have H2_ := (Option.bind_some _ _).symm.trans H; rw [hy156]; with_reducible exact H2_) | (have H2_ := (Option.bind_some _ _).symm.trans H; with_reducible exact H2_) | with_reducible exact H | (rw [hy156]; exact H) | exact H
                have Ny156 := Aside0.mk hy156
                clear hy156
                by_cases c14 : 0 ≤ x5_2
                · rw [if_pos c14] at H
                  have c14b0 := eq_true c14
                  have c14b1 : decide (0 ≤ x5_2) = true := decide_eq_true c14
                  clear c14
                  by_cases c15 : x5_2 ≤ (l0.length : Int)
                  · rw [if_pos c15] at H
                    have c15b0 := eq_true c15
                    have c15b1 : decide (x5_2 ≤ (l0.length : Int)) = true := decide_eq_true c15
                    clear c15
                    obtain ⟨y159, hy159⟩ : ∃ y_ : List Int, y_ = (l0.take (x5_2 : Int).toNat) := ⟨_, rfl⟩
                    replace H : ((loessref6_Tree.f k2 y159 (wrap64 (a1 + 1))).bind fun t163 => (if y156.length + t163.length < 140737488355328 then ((some (y156 ++ t163 : List Bool)).bind fun y166 => ((loessref6_Tree.f k2 (l0.drop (x5_2 : Int).toNat) (wrap64 (a1 + 1))).bind fun t173 => (if y166.length + t173.length < 140737488355328 then (some (y166 ++ t173)) else (none)))) else (none))) = some r := by first | (rw [hy159]; with_reducible exact H) | (have H2_ := (Option.bind_some _ _).symm.trans H; rw [hy159]; with_reducible exact H2_) | (have H2_ := (Option.bind_some _ _).symm.trans H; with_reducible exact H2_) | with_reducible exact H | (rw [hy159]; exact H) | exact H
                    have Ny159 := Aside0.mk hy159
                    clear hy159
                    replace H := Option.bind_eq_some_iff.mp H
                    obtain ⟨t163, A160, H⟩ := H
                    replace H : (if y156.length + t163.length < 140737488355328 then ((some (y156 ++ t163 : List Bool)).bind fun y166 => ((loessref6_Tree.f k2 (l0.drop (x5_2 : Int).toNat) (wrap64 (a1 + 1))).bind fun t173 => (if y166.length + t173.length < 140737488355328 then (some (y166 ++ t173)) else (none)))) else (none)) = some r := H
                    have A16 := Aside0.mk A160
                    clear A160
                    by_cases c17 : y156.length + t163.length < 140737488355328
                    · rw [if_pos c17] at H
                      have LMc17 := Aside0.mk c17
                      clear c17
                      obtain ⟨y166, hy166⟩ : ∃ y_ : List Bool, y_ = (y156 ++ t163) := ⟨_, rfl⟩
                      replace H : ((loessref6_Tree.f k2 (l0.drop (x5_2 : Int).toNat) (wrap64 (a1 + 1))).bind fun t173 => (if y166.length + t173.length < 140737488355328 then (some (y166 ++ t173)) else (none))) = some r := by first | (rw [hy166]; with_reducible exact H) | (have H2_ := (Option.bind_some _ _).symm.trans H; rw [hy166]; with_reducible exact H2_) | (have H2_ := (Option.bind_some _ _).symm.trans H; with_reducible exact H2_) | with_reducible exact H | (rw [hy166]; exact H) | exact H
                      have Ny166 := Aside0.mk hy166
                      clear hy166
                      have c18b0 := eq_true (of_decide_eq_true (by first | (with_reducible assumption) | assumption) : 0 ≤ x5_2)
                      have c19b0 := eq_true (of_decide_eq_true (by first | (with_reducible assumption) | assumption) : x5_2 ≤ (l0.length : Int))
                      obtain ⟨y169, hy169⟩ : ∃ y_ : List Int, y_ = (l0.drop (x5_2 : Int).toNat) := ⟨_, rfl⟩
                      replace H : ((loessref6_Tree.f k2 y169 (wrap64 (a1 + 1))).bind fun t173 => (if y166.length + t173.length < 140737488355328 then (some (y166 ++ t173)) else (none))) = some r := by first | (rw [hy169]; with_reducible exact H) | (have H2_ := (Option.bind_some _ _).symm.trans H; rw [hy169]; with_reducible exact H2_) | (have H2_ := (Option.bind_some _ _).symm.trans H; with_reducible exact H2_) | with_reducible exact H | (rw [hy169]; exact H) | exact H
                      have Ny169 := Aside0.mk hy169
                      clear hy169
                      replace H := Option.bind_eq_some_iff.mp H
                      obtain ⟨t173, A200, H⟩ := H
                      replace H : (if y166.length + t173.length < 140737488355328 then (some (y166 ++ t173)) else (none)) = some r := H
                      have A20 := Aside0.mk A200
                      clear A200
                      by_cases c21 : y166.length + t173.length < 140737488355328
                      · rw [if_pos c21] at H
                        have LMc21 := Aside0.mk c21
                        clear c21
                        obtain ⟨y176, hy176⟩ : ∃ y_ : List Bool, y_ = (y166 ++ t173) := ⟨_, rfl⟩
                        replace H : (some y176) = some r := by first | (rw [hy176]; with_reducible exact H) | (have H2_ := (Option.bind_some _ _).symm.trans H; rw [hy176]; with_reducible exact H2_) | (have H2_ := (Option.bind_some _ _).symm.trans H; with_reducible exact H2_) | with_reducible exact H | (rw [hy176]; exact H) | exact H
                        have Ny176 := Aside0.mk hy176
                        clear hy176
                        obtain rfl := Option.some.inj H
                        go_wp2_with (first | ((with_reducible refine gate_callee (f := 25) rfl ?_); refine goesL_ (some 36) rfl rfl Try.func25 (by kernel_rfl) rfl #[.int .u64 (IntKind.u64.wrap ((IntKind.u64.wrap (x5_2)) + 1))] rfl (by (try simp only [List.map_toArray, List.map_cons, List.map_nil]); first | done | rfl | (simp only [List.length_drop, List.length_take]; rfl)) ?_; (with_reducible refine (loessref6_Gamma.calls k2 (IntKind.u64.wrap ((IntKind.u64.wrap (x5_2)) + 1)) t153 _ A12.out).mono ?_); rintro e w22 ⟨v154, rfl, ho0, hb⟩; refine ⟨_, rfl, ?_⟩; have n0_ := Aside0.mk (Kd.R_lower ho0 (below_size (by repeat (first | (with_reducible first | exact HB.out | apply below_alloc | apply pw_below_drewN | apply below_drew1) | exact HB.out)))); have n1_ := Aside0.mk (below_step (by repeat (first | (with_reducible first | exact HB.out | apply below_alloc | apply pw_below_drewN | apply below_drew1) | exact HB.out)) hb); clear HB; have HO155 := n0_; have HB := n1_; clear n0_ n1_; (try clear hb); (try clear hb2); (try clear hk); (try clear hi); (try clear ho0); obtain ⟨Ao24, co24, eo24⟩ := Kd.R_slice HO155.out; subst eo24) | ((with_reducible refine gate_builtin (b := .append) (xs := #[.const (.slice none 0 0), .tmp 36]) rfl ?_); at_builtin; refine Kd.R_append_rows Kd.bool (w0 := w) w.heap.size rfl (.const (.slice none 0 0)) (.tmp 36) 41 4 (.bool false) 1 rfl Try.underlying41 info4 rfl (by decide) (by omega) (.slice none 0 0) ([] : List Bool) t153 _ _ _ (fun k_ => some k_ ≠ (.slice Ao24 t153.length co24 : Value).ownBlock) (fun _ => False) rfl rfl ?aO ?aR (fun _ _ h => h) (fun _ h => h.elim) ?aF ?aB ?aS ?aL ?_; (case aR => repeat (first | exact (Kd.R_reads' HO155.out).2.2 | (with_reducible refine Kd.C_alloc ?_ _) | (with_reducible refine Kd.C_drewN ?_ _) | (with_reducible refine Kd.C_drew ?_))); (case aB => exact (by repeat (first | (with_reducible first | exact HB.out | apply below_alloc | apply pw_below_drewN | apply below_drew1) | exact HB.out))); (case aF => exact (fun k_ hk => Kd.fresh' (Kd.R_lt (by (with_reducible repeat (first | apply Kd.R_alloc | apply Kd.R_drewN | apply Kd.R_drew)); exact HO155.out)) k_ hk)); (case aO => exact ((Kd.R_nil _ _ _ _ (fun k_ => some k_ ≠ (.slice Ao24 t153.length co24 : Value).ownBlock)))); (case aS => exact (below_size (by repeat (first | (with_reducible first | exact HB.out | apply below_alloc | apply pw_below_drewN | apply below_drew1) | exact HB.out)))); (case aL => have := LMc13.out; omega); intro v157 w23 ho hb hg hat; rw [← Ny156.out] at ho; have n0_ := Aside0.mk (Kd.R_after (Kd.R_apart_nil (by (with_reducible repeat (first | apply Kd.R_alloc | apply Kd.R_drewN | apply Kd.R_drew)); exact HO155.out)) hg hat); have n1_ := Aside0.mk (hb); have n2_ := Aside0.mk (ho); clear HO155; clear HB; have HO155 := n0_; have HB := n1_; have HO158 := n2_; clear n0_ n1_ n2_; clear ho hb hg hat; have q25 : (x5_2 : Int) ≤ ((l0.length : Int) : Int) := of_decide_eq_true (by first | (with_reducible assumption) | assumption); obtain ⟨i025, hi025, _, hsz25, _⟩ := info_parts info23; have hroom25 : l0.length ≤ c0 := HC0.out; have hC25 : Kd.C (Kd.int .u64) _ A0 l0.length l0 := HR0.out; have hcut25 := cut_to (P := Try.prog) 33 23 .i64 Try.underlying33 hi025 A0 l0.length c0 x5_2 (of_decide_eq_true (by first | (with_reducible assumption) | assumption)) q25 hroom25; have hr25 := Kd.C_take (m := (x5_2 : Int).toNat) hC25 (by omega); have hy25 : y159.length = (x5_2 : Int).toNat := (by rw [Ny159.out, List.length_take]; omega); rw [← Ny159.out] at hr25; rw [← hy25] at hcut25; have HR162 := Aside0.mk hr25; have HC162 := Aside0.mk (show y159.length ≤ c0 from by omega); clear hr25 hC25 hroom25 hi025 hsz25; have KY25 := Aside0.mk hy25; clear hy25; replace q25 := eq_true q25) | ((with_reducible refine gate_callee (f := 17) rfl ?_); refine goesL_ (some 44) rfl rfl Try.func17 (by kernel_rfl) rfl #[.slice A0 y159.length c0, .int .i64 (wrap64 (a1 + 1))] rfl (by (try simp only [List.map_toArray, List.map_cons, List.map_nil]); first | done | rfl | (simp only [List.length_drop, List.length_take]; rfl)) ?_; (with_reducible refine (ih k2 (by have := HJ2.out; have := HK2.out; omega) _ _ y159 (wrap64 (a1 + 1)) t163 _ ?side1 ?side2 A16.out).mono ?_); (case side1 => repeat (first | exact (Kd.C_below HR162.out HB.out) | (with_reducible refine Kd.C_alloc ?_ _) | (with_reducible refine Kd.C_drewN ?_ _) | (with_reducible refine Kd.C_drew ?_))); (case side2 => exact HC162.out); rintro e w26 ⟨v164, rfl, ho0, hb⟩; refine ⟨_, rfl, ?_⟩; have n0_ := Aside0.mk (Kd.R_elder' (by (with_reducible repeat (first | apply Kd.R_alloc | apply Kd.R_drewN | apply Kd.R_drew)); exact HO155.out) (Kd.R_base ho0) hb); have n1_ := Aside0.mk (Kd.R_elder' (by (with_reducible repeat (first | apply Kd.R_alloc | apply Kd.R_drewN | apply Kd.R_drew)); exact HO158.out) (Kd.R_base ho0) hb); have n2_ := Aside0.mk (Kd.R_lower (Kd.R_new' (Kd.R_new' ho0 (Kd.R_lt (by (with_reducible repeat (first | apply Kd.R_alloc | apply Kd.R_drewN | apply Kd.R_drew)); exact HO155.out))) (Kd.R_lt (by (with_reducible repeat (first | apply Kd.R_alloc | apply Kd.R_drewN | apply Kd.R_drew)); exact HO158.out))) (below_size (by repeat (first | (with_reducible first | exact HB.out | apply below_alloc | apply pw_below_drewN | apply below_drew1) | exact HB.out)))); have n3_ := Aside0.mk (below_step (by repeat (first | (with_reducible first | exact HB.out | apply below_alloc | apply pw_below_drewN | apply below_drew1) | exact HB.out)) hb); clear HO155; clear HO158; clear HB; have HO155 := n0_; have HO158 := n1_; have HO165 := n2_; have HB := n3_; clear n0_ n1_ n2_ n3_; (try clear hb); (try clear hb2); (try clear hk); (try clear hi); (try clear ho0); obtain ⟨Ao28, co28, eo28⟩ := Kd.R_slice HO165.out; subst eo28) | ((with_reducible refine gate_builtin (b := .append) (xs := #[.tmp 38, .tmp 44]) rfl ?_); at_builtin; refine Kd.R_append_rows Kd.bool (w0 := w) w.heap.size rfl (.tmp 38) (.tmp 44) 41 4 (.bool false) 1 rfl Try.underlying41 info4 rfl (by decide) (by omega) v157 y156 t163 _ _ _ (fun k_ => some k_ ≠ (.slice Ao24 t153.length co24 : Value).ownBlock ∧ some k_ ≠ (.slice Ao28 t163.length co28 : Value).ownBlock) (fun _ => False) rfl rfl ?aO ?aR (fun _ _ h => h) (fun _ h => h.elim) ?aF ?aB ?aS ?aL ?_; (case aR => repeat (first | exact (Kd.R_reads' HO165.out).2.2 | (with_reducible refine Kd.C_alloc ?_ _) | (with_reducible refine Kd.C_drewN ?_ _) | (with_reducible refine Kd.C_drew ?_))); (case aB => exact (by repeat (first | (with_reducible first | exact HB.out | apply below_alloc | apply pw_below_drewN | apply below_drew1) | exact HB.out))); (case aF => exact (fun k_ hk => ⟨Kd.fresh' (Kd.R_lt (by (with_reducible repeat (first | apply Kd.R_alloc | apply Kd.R_drewN | apply Kd.R_drew)); exact HO155.out)) k_ hk, Kd.fresh' (Kd.R_lt (by (with_reducible repeat (first | apply Kd.R_alloc | apply Kd.R_drewN | apply Kd.R_drew)); exact HO165.out)) k_ hk⟩)); (case aO => exact (by (with_reducible repeat (first | apply Kd.R_alloc | apply Kd.R_drewN | apply Kd.R_drew)); exact HO158.out)); (case aS => exact (below_size (by repeat (first | (with_reducible first | exact HB.out | apply below_alloc | apply pw_below_drewN | apply below_drew1) | exact HB.out)))); (case aL => have := LMc17.out; omega); intro v167 w27 ho hb hg hat; rw [← Ny166.out] at ho; have n0_ := Aside0.mk (Kd.R_after (ok := (fun k_ => some k_ ≠ (.slice Ao28 t163.length co28 : Value).ownBlock)) (by (with_reducible repeat (first | apply Kd.R_alloc | apply Kd.R_drewN | apply Kd.R_drew)); exact Kd.R_mono HO155.out (fun _ hk => ⟨hk.2, hk.1.2⟩)) hg hat); have n1_ := Aside0.mk (Kd.R_after (ok := (fun k_ => some k_ ≠ (.slice Ao24 t153.length co24 : Value).ownBlock)) (by (with_reducible repeat (first | apply Kd.R_alloc | apply Kd.R_drewN | apply Kd.R_drew)); exact Kd.R_mono HO165.out (fun _ hk => ⟨hk.1.2, hk.2⟩)) hg hat); have n2_ := Aside0.mk (hb); have n3_ := Aside0.mk (ho); clear HO155; clear HO165; clear HB; clear HO158; have HO155 := n0_; have HO165 := n1_; have HB := n2_; have HO168 := n3_; clear n0_ n1_ n2_ n3_; clear ho hb hg hat; have q29 : (x5_2 : Int) ≤ ((l0.length : Int) : Int) := of_decide_eq_true (by first | (with_reducible assumption) | assumption); obtain ⟨i029, hi029, _, hsz29, _⟩ := info_parts info23; have hroom29 : l0.length ≤ c0 := HC0.out; have hC29 : Kd.C (Kd.int .u64) _ A0 l0.length l0 := HR0.out; have q029 : (0 : Int) ≤ (x5_2 : Int) := of_decide_eq_true (by first | (with_reducible assumption) | assumption); have hcut29 := cut_from (P := Try.prog) 33 23 .i64 Try.underlying33 hi029 1 hsz29 A0 l0.length c0 x5_2 q029 q29; have hr29 := Kd.C_drop (m := (x5_2 : Int).toNat) (c := c0) hC29 (by omega) hroom29; obtain ⟨A29, hA29⟩ : ∃ A1, A1 = (if c0 = (x5_2 : Int).toNat then A0 else (A0 : Option Addr).map (·.add ((x5_2 : Int).toNat * 1))) := ⟨_, rfl⟩; obtain ⟨c29, hc29⟩ : ∃ c1, c1 = c0 - (x5_2 : Int).toNat := ⟨_, rfl⟩; have hy29 : y169.length = l0.length - (x5_2 : Int).toNat := (by rw [Ny169.out, List.length_drop] <;> omega); rw [show (l0).drop (x5_2 : Int).toNat = y169 from Ny169.out.symm] at hr29; replace hr29 : Kd.C (Kd.int .u64) _ A29 y169.length y169 := (by rw [hA29]; exact hr29); rw [← hy29, ← hA29, ← hc29] at hcut29; have HR172 := Aside0.mk hr29; have HC172 := Aside0.mk (show y169.length ≤ c29 from by rw [hy29, hc29]; exact Nat.sub_le_sub_right hroom29 _); clear hr29 hC29 hroom29 hi029 hsz29 hc29; have KY29 := Aside0.mk hy29; have KA29 := Aside0.mk hA29; clear hy29 hA29; replace q29 := eq_true q29) | ((with_reducible refine gate_callee (f := 17) rfl ?_); refine goesL_ (some 52) rfl rfl Try.func17 (by kernel_rfl) rfl #[.slice A29 y169.length c29, .int .i64 (wrap64 (a1 + 1))] rfl (by (try simp only [List.map_toArray, List.map_cons, List.map_nil]); first | done | rfl | (simp only [List.length_drop, List.length_take]; rfl)) ?_; (with_reducible refine (ih k2 (by have := HJ2.out; have := HK2.out; omega) _ _ y169 (wrap64 (a1 + 1)) t173 _ ?side1 ?side2 A20.out).mono ?_); (case side1 => repeat (first | exact (Kd.C_below HR172.out HB.out) | (with_reducible refine Kd.C_alloc ?_ _) | (with_reducible refine Kd.C_drewN ?_ _) | (with_reducible refine Kd.C_drew ?_))); (case side2 => exact HC172.out); rintro e w30 ⟨v174, rfl, ho0, hb⟩; refine ⟨_, rfl, ?_⟩; have n0_ := Aside0.mk (Kd.R_elder' (by (with_reducible repeat (first | apply Kd.R_alloc | apply Kd.R_drewN | apply Kd.R_drew)); exact HO155.out) (Kd.R_base ho0) hb); have n1_ := Aside0.mk (Kd.R_elder' (by (with_reducible repeat (first | apply Kd.R_alloc | apply Kd.R_drewN | apply Kd.R_drew)); exact HO165.out) (Kd.R_base ho0) hb); have n2_ := Aside0.mk (Kd.R_elder' (by (with_reducible repeat (first | apply Kd.R_alloc | apply Kd.R_drewN | apply Kd.R_drew)); exact HO168.out) (Kd.R_base ho0) hb); have n3_ := Aside0.mk (Kd.R_lower (Kd.R_new' (Kd.R_new' (Kd.R_new' ho0 (Kd.R_lt (by (with_reducible repeat (first | apply Kd.R_alloc | apply Kd.R_drewN | apply Kd.R_drew)); exact HO155.out))) (Kd.R_lt (by (with_reducible repeat (first | apply Kd.R_alloc | apply Kd.R_drewN | apply Kd.R_drew)); exact HO165.out))) (Kd.R_lt (by (with_reducible repeat (first | apply Kd.R_alloc | apply Kd.R_drewN | apply Kd.R_drew)); exact HO168.out))) (below_size (by repeat (first | (with_reducible first | exact HB.out | apply below_alloc | apply pw_below_drewN | apply below_drew1) | exact HB.out)))); have n4_ := Aside0.mk (below_step (by repeat (first | (with_reducible first | exact HB.out | apply below_alloc | apply pw_below_drewN | apply below_drew1) | exact HB.out)) hb); clear HO155; clear HO165; clear HO168; clear HB; have HO155 := n0_; have HO165 := n1_; have HO168 := n2_; have HO175 := n3_; have HB := n4_; clear n0_ n1_ n2_ n3_ n4_; (try clear hb); (try clear hb2); (try clear hk); (try clear hi); (try clear ho0); obtain ⟨Ao32, co32, eo32⟩ := Kd.R_slice HO175.out; subst eo32) | ((with_reducible refine gate_builtin (b := .append) (xs := #[.tmp 46, .tmp 52]) rfl ?_); at_builtin; refine Kd.R_append_rows Kd.bool (w0 := w) w.heap.size rfl (.tmp 46) (.tmp 52) 41 4 (.bool false) 1 rfl Try.underlying41 info4 rfl (by decide) (by omega) v167 y166 t173 _ _ _ (fun k_ => some k_ ≠ (.slice Ao24 t153.length co24 : Value).ownBlock ∧ some k_ ≠ (.slice Ao28 t163.length co28 : Value).ownBlock ∧ some k_ ≠ (.slice Ao32 t173.length co32 : Value).ownBlock) (fun _ => False) rfl rfl ?aO ?aR (fun _ _ h => h) (fun _ h => h.elim) ?aF ?aB ?aS ?aL ?_; (case aR => repeat (first | exact (Kd.R_reads' HO175.out).2.2 | (with_reducible refine Kd.C_alloc ?_ _) | (with_reducible refine Kd.C_drewN ?_ _) | (with_reducible refine Kd.C_drew ?_))); (case aB => exact (by repeat (first | (with_reducible first | exact HB.out | apply below_alloc | apply pw_below_drewN | apply below_drew1) | exact HB.out))); (case aF => exact (fun k_ hk => ⟨Kd.fresh' (Kd.R_lt (by (with_reducible repeat (first | apply Kd.R_alloc | apply Kd.R_drewN | apply Kd.R_drew)); exact HO155.out)) k_ hk, Kd.fresh' (Kd.R_lt (by (with_reducible repeat (first | apply Kd.R_alloc | apply Kd.R_drewN | apply Kd.R_drew)); exact HO165.out)) k_ hk, Kd.fresh' (Kd.R_lt (by (with_reducible repeat (first | apply Kd.R_alloc | apply Kd.R_drewN | apply Kd.R_drew)); exact HO175.out)) k_ hk⟩)); (case aO => exact (by (with_reducible repeat (first | apply Kd.R_alloc | apply Kd.R_drewN | apply Kd.R_drew)); exact Kd.R_mono HO168.out (fun _ hk => ⟨hk.1.1, ⟨hk.1.2, hk.2⟩⟩))); (case aS => exact (below_size (by repeat (first | (with_reducible first | exact HB.out | apply below_alloc | apply pw_below_drewN | apply below_drew1) | exact HB.out)))); (case aL => have := LMc21.out; omega); intro v177 w31 ho hb hg hat; rw [← Ny176.out] at ho; have n0_ := Aside0.mk (Kd.R_after (ok := (fun k_ => some k_ ≠ (.slice Ao28 t163.length co28 : Value).ownBlock ∧ some k_ ≠ (.slice Ao32 t173.length co32 : Value).ownBlock)) (by (with_reducible repeat (first | apply Kd.R_alloc | apply Kd.R_drewN | apply Kd.R_drew)); exact Kd.R_mono HO155.out (fun _ hk => ⟨⟨hk.1.1, hk.2⟩, hk.1.2⟩)) hg hat); have n1_ := Aside0.mk (Kd.R_after (ok := (fun k_ => some k_ ≠ (.slice Ao24 t153.length co24 : Value).ownBlock ∧ some k_ ≠ (.slice Ao32 t173.length co32 : Value).ownBlock)) (by (with_reducible repeat (first | apply Kd.R_alloc | apply Kd.R_drewN | apply Kd.R_drew)); exact Kd.R_mono HO165.out (fun _ hk => ⟨⟨hk.1.1, hk.2⟩, hk.1.2⟩)) hg hat); have n2_ := Aside0.mk (Kd.R_after (ok := (fun k_ => some k_ ≠ (.slice Ao24 t153.length co24 : Value).ownBlock ∧ some k_ ≠ (.slice Ao28 t163.length co28 : Value).ownBlock)) (by (with_reducible repeat (first | apply Kd.R_alloc | apply Kd.R_drewN | apply Kd.R_drew)); exact Kd.R_mono HO175.out (fun _ hk => ⟨⟨hk.1.1.2, hk.1.2⟩, hk.2⟩)) hg hat); have n3_ := Aside0.mk (hb); have n4_ := Aside0.mk (ho); clear HO155; clear HO165; clear HO175; clear HB; clear HO168; have HO155 := n0_; have HO165 := n1_; have HO175 := n2_; have HB := n3_; have HO178 := n4_; clear n0_ n1_ n2_ n3_ n4_; clear ho hb hg hat))
                        go_ret
                        exact ⟨_, by first | rfl | (simp [errW_none, errW_some] <;> rfl) | (simp [*, errW_none, errW_some] <;> rfl), by (with_reducible repeat (first | apply Kd.R_alloc | apply Kd.R_drewN | apply Kd.R_drew)); exact Kd.R_mono HO178.out (fun _ hk => trivial), by repeat (first | (with_reducible first | exact HB.out | apply below_alloc | apply pw_below_drewN | apply below_drew1) | exact HB.out)⟩
                      · rw [if_neg c21] at H
                        exact absurd H (by simp)
                    · rw [if_neg c17] at H
                      exact absurd H (by simp)
                  · rw [if_neg c15] at H
                    exact absurd H (by simp)
                · rw [if_neg c14] at H
                  exact absurd H (by simp)
              · rw [if_neg c13] at H
                exact absurd H (by simp)

end Go.Proofs.Ytobdfehpbgcloaa.XTri

/- The document's Tree is treeG. -/
namespace Go.Proofs.Ytobdfehpbgcloaa.GL
open Go.RowKit Go.Proofs.YtobdfehpbgcloaaW.PrintWords Go.Proofs.YtobdfehpbgcloaaW.PrintMore Go.Proofs.Ytobdfehpbgcloaa.Q Go.Proofs.Ytobdfehpbgcloaa.XTri
set_option linter.unusedVariables false
set_option linter.unusedSimpArgs false
theorem tree_l0 {k : Nat} {ls : List Int} {d : Int} (hd : d = 63 - (k : Int)) (hk : k ≤ 63) (hl : ls.length ≤ 4096) (hok : OkT (k + 1) ls) (hu : U64s ls) (hb : ¬ ls.length < 2)
    (ih1 : Ev (fun r => loessref6_Tree.f r (ls.take (lead k ls)) (64 - (k : Int))) (treeG k (ls.take (lead k ls)))) (ih2 : Ev (fun r => loessref6_Tree.f r (ls.drop (lead k ls)) (64 - (k : Int))) (treeG k (ls.drop (lead k ls)))) :
    ∀ (e i : Nat), ls.length = i + e → Ev (fun r => loessref6_Tree.l0 r ls d ((min i (lead k ls) : Nat) : Int) (i : Int)) (treeG (k + 1) ls) := by
  have hs := lead_spec k ls
  have hd1 : Aside0 (wrap64 (d + 1) = 64 - (k : Int)) := ⟨by rw [w64 (by omega) (by omega)]; omega⟩
  have hsh : Aside0 (IntKind.u64.wrap (wrap64 (63 - d)) = (k : Int)) := ⟨by rw [w64 (by omega) (by omega), u64 (by omega) (by omega)]; omega⟩
  have hk0 : 0 ≤ (k : Int) := by omega
  intro e
  induction e with
  | zero =>
    intro i hi
    have hm : min i (lead k ls) = lead k ls := by omega
    rw [hm]
    obtain ⟨n, hn⟩ : ∃ n, n = lead k ls := ⟨_, rfl⟩
    rw [treeG_s hb]
    rw [← hn] at ih1 ih2 hs ⊢
    have hnl : n ≤ ls.length := hs.1
    have hg : Ev (fun r => loessref6_Gamma.f r ((n : Int) + 1)) (gammaBits ((n : Int) + 1)) := gamma_ev (by omega) (by omega)
    have hgl := gammaBits_le1 (x := (n : Int) + 1) (by omega) (by omega)
    have h1l := treeG_le k (ls.take n) (by rw [List.length_take]; omega)
    have h2l := treeG_le k (ls.drop n) (by rw [List.length_drop]; omega)
    have hb1 : k * (ls.take n).length ≤ 63 * 4096 := Nat.mul_le_mul hk (by rw [List.length_take]; omega)
    have hb2 : k * (ls.drop n).length ≤ 63 * 4096 := Nat.mul_le_mul hk (by rw [List.length_drop]; omega)
    obtain ⟨G, hG⟩ : ∃ G, G = gammaBits ((n : Int) + 1) := ⟨_, rfl⟩
    obtain ⟨T1, hT1⟩ : ∃ T, T = treeG k (ls.take n) := ⟨_, rfl⟩
    obtain ⟨T2, hT2⟩ : ∃ T, T = treeG k (ls.drop n) := ⟨_, rfl⟩
    rw [← hG] at hg hgl ⊢
    rw [← hT1] at ih1 h1l ⊢
    rw [← hT2] at ih2 h2l ⊢
    have hw : Aside0 (IntKind.u64.wrap (IntKind.u64.wrap (n : Int) + 1) = (n : Int) + 1) := ⟨by rw [u64 (x := (n : Int)) (by omega) (by omega), u64 (by omega) (by omega)]⟩
    have c1 : ([] : List Bool).length + G.length < 140737488355328 := by simp; omega
    have c2 : 0 ≤ (n : Int) := by omega
    have c3 : (n : Int) ≤ (ls.length : Int) := by omega
    have c4 : G.length + T1.length < 140737488355328 := by omega
    have c5 : (G ++ T1).length + T2.length < 140737488355328 := by rw [List.length_append]; omega
    have hend : ¬ (i : Int) < (ls.length : Int) := by omega
    clear hb1 hb2 h1l h2l hgl hm hs
    have hfin : Ev (fun r => (loessref6_Gamma.f r ((n : Int) + 1)).bind fun t153 => (if ([] : List Bool).length + t153.length < 140737488355328 then ((some (([] : List Bool) ++ t153 : List Bool)).bind fun y156 => (if 0 ≤ (n : Int) then (if (n : Int) ≤ (ls.length : Int) then ((loessref6_Tree.f r (ls.take (n : Int).toNat) (64 - (k : Int))).bind fun t163 => (if y156.length + t163.length < 140737488355328 then ((some (y156 ++ t163 : List Bool)).bind fun y166 => ((loessref6_Tree.f r (ls.drop (n : Int).toNat) (64 - (k : Int))).bind fun t173 => (if y166.length + t173.length < 140737488355328 then (some (y166 ++ t173)) else (none)))) else (none))) else (none)) else (none))) else (none))) (G ++ T1 ++ T2) := by
      refine Ev.bind hg ?_
      refine Ev.congr (f := fun r => (loessref6_Tree.f r (ls.take n) (64 - (k : Int))).bind fun t163 => (if G.length + t163.length < 140737488355328 then ((some (G ++ t163 : List Bool)).bind fun y166 => ((loessref6_Tree.f r (ls.drop n) (64 - (k : Int))).bind fun t173 => (if y166.length + t173.length < 140737488355328 then (some (y166 ++ t173)) else (none)))) else (none))) (fun r => ?_) ?_
      · rw [if_pos c1, Option.bind_some, if_pos c2, if_pos c3, Int.toNat_natCast, List.nil_append]
      · refine Ev.bind ih1 ?_
        refine Ev.congr (f := fun r => (loessref6_Tree.f r (ls.drop n) (64 - (k : Int))).bind fun t173 => (if (G ++ T1).length + t173.length < 140737488355328 then (some (G ++ T1 ++ t173)) else (none))) (fun r => ?_) ?_
        · rw [if_pos c4, Option.bind_some]
        · refine Ev.bind ih2 ?_
          refine Ev.congr (f := fun r => some (G ++ T1 ++ T2)) (fun r => ?_) (Ev.now _)
          rw [if_pos c5]
    refine Ev.step (fun r => ?_) hfin
    simp only [loessref6_Tree.l0]
    rw [if_neg hend, hw.out, hd1.out]
  | succ e ih =>
    intro i hi
    have hil : i < ls.length := by omega
    have hlt : (i : Int) < (ls.length : Int) := by omega
    have hi0 : 0 ≤ (i : Int) := by omega
    have hx := hu ls[i] (List.getElem_mem _)
    have hrd : Aside0 (rd ls (i : Int) = ls[i]) := ⟨by unfold rd; rw [Int.toNat_natCast, List.getD_eq_getElem?_getD, List.getElem?_eq_getElem hil, Option.getD_some]⟩
    have hsv : Aside0 (shr .u64 ls[i] (k : Int) = ls[i] / 2 ^ k) := ⟨by
      unfold shr
      rw [show IntKind.u64.bits = 64 from rfl, show min (k : Int).toNat 64 = k by omega]⟩
    have hand := and1_shr k hx.1 hx.2
    have hwi : Aside0 (wrap64 ((i : Int) + 1) = ((i + 1 : Nat) : Int)) := ⟨by rw [w64 (by omega) (by omega)]; rfl⟩
    have hwm : Aside0 (wrap64 (((min i (lead k ls) : Nat) : Int) + 1) = ((min i (lead k ls) + 1 : Nat) : Int)) := ⟨by rw [w64 (by omega) (by omega)]; rfl⟩
    have hnext := ih (i + 1) (by omega)
    by_cases hlead : i < lead k ls
    · have hbf := hs.2.1 i hlead
      rw [List.getD_eq_getElem?_getD, List.getElem?_eq_getElem hil, Option.getD_some] at hbf
      have hz : ls[i] / 2 ^ k % 2 = 0 := by
        have h1 : ¬ ls[i] / 2 ^ k % 2 = 1 := by simpa [bitT] using hbf
        omega
      have hm1 : min (i + 1) (lead k ls) = min i (lead k ls) + 1 := by omega
      rw [hm1] at hnext
      refine Ev.step (fun r => ?_) hnext
      simp only [loessref6_Tree.l0]
      rw [if_pos hlt, if_pos hi0, hsh.out, if_pos hk0, hrd.out, hsv.out, hand, if_pos hz, hwi.out, hwm.out]
    · have hbt := ok_bit hok hil (by omega)
      have hz : ¬ ls[i] / 2 ^ k % 2 = 0 := by
        have h1 : ls[i] / 2 ^ k % 2 = 1 := by simpa [bitT] using hbt
        omega
      have hm1 : min (i + 1) (lead k ls) = min i (lead k ls) := by omega
      rw [hm1] at hnext
      refine Ev.step (fun r => ?_) hnext
      simp only [loessref6_Tree.l0]
      rw [if_pos hlt, if_pos hi0, hsh.out, if_pos hk0, hrd.out, hsv.out, hand, if_neg hz, hwi.out]
theorem tree_ev : ∀ (k : Nat) (ls : List Int) (d : Int), d = 64 - (k : Int) → k ≤ 64 → ls.length ≤ 4096 → OkT k ls → U64s ls → Ev (fun r => loessref6_Tree.f r ls d) (treeG k ls) := by
  have hsmall : ∀ (ls : List Int) (d : Int), ls.length < 2 → Ev (fun r => loessref6_Tree.f r ls d) [] := by
    intro ls d h
    refine Ev.step (f := fun r => loessref6_Tree.j0 r ls d true) (fun r => ?_) ?_
    · simp only [loessref6_Tree.f]
      rw [if_pos (by omega)]
    · refine Ev.step (f := fun _ => some []) (fun r => ?_) (Ev.now _)
      simp only [loessref6_Tree.j0]
      exact if_pos trivial
  intro k
  induction k with
  | zero =>
    intro ls d _ _ _ hok _
    exact hsmall ls d hok.zero
  | succ k ih =>
    intro ls d hd hk hl hok hu
    by_cases h : ls.length < 2
    · rw [treeG_short _ h]
      exact hsmall ls d h
    · have hs := (lead_spec k ls).1
      have h1 := ih (ls.take (lead k ls)) (64 - (k : Int)) rfl (by omega) (by rw [List.length_take]; omega) hok.take (fun x hx => hu x (List.mem_of_mem_take hx))
      have h2 := ih (ls.drop (lead k ls)) (64 - (k : Int)) rfl (by omega) (by rw [List.length_drop]; omega) hok.drop (fun x hx => hu x (List.mem_of_mem_drop hx))
      have h3 := tree_l0 (d := d) (by omega) (by omega) hl hok hu h h1 h2 ls.length 0 (by omega)
      rw [Nat.zero_min] at h3
      refine Ev.step (f := fun r => loessref6_Tree.j0 r ls d false) (fun r => ?_) ?_
      · simp only [loessref6_Tree.f]
        rw [if_neg (by omega), decide_eq_false (by omega)]
      · refine Ev.step (fun r => ?_) h3
        simp only [loessref6_Tree.j0]
        exact if_neg (by decide)
end Go.Proofs.Ytobdfehpbgcloaa.GL

-- Written by wip/xprint.py, this session's wrapper round the kit's print program. Not trusted: Lean checks it.
namespace Go.Proofs.Ytobdfehpbgcloaa.XTri
open Go.RowKit Go.Proofs.Ytobdfehpbgcloaa.G Go.Proofs.YtobdfehpbgcloaaW.PrintWords Go.Proofs.YtobdfehpbgcloaaW.PrintLast Go.Proofs.YtobdfehpbgcloaaW.PrintMore
attribute [local go_sem] max2_int min2_int max_two min_two max_three min_three max_four min_four   -- for this text's walks alone
set_option linter.unusedVariables false
set_option linter.unusedSimpArgs false

/-! ### loessref6_Skip: function 12 -/
mutual
def loessref6_Skip.j0 : Nat → List Bool → Int → Int → Int → Int → Int → Bool → Option (Int × Bool)
  | 0, _, _, _, _, _, _, _ => none
  | k + 1, x0, x1, x2, x3, x10, x11, x35 => if x35 = true then (some (x1, false)) else ((loessref6_Skip.f k x0 x11 (wrap64 (IntKind.u64.wrap (x10 - 1))) (wrap64 (x3 + 1))).bind fun bt115 => (if bt115.2 = true then ((loessref6_Skip.f k x0 bt115.1 (wrap64 (x2 - (wrap64 (IntKind.u64.wrap (x10 - 1))))) (wrap64 (x3 + 1))).bind fun bt117 => (some (bt117.1, bt117.2))) else (some (x1, false))))
def loessref6_Skip.f : Nat → List Bool → Int → Int → Int → Option (Int × Bool)
  | 0, _, _, _, _ => none
  | k + 1, l0, a1, a2, a3 => if a2 ≤ 1 then (some (a1, true)) else (if a3 > 63 then (some (a1, false)) else ((loessref6_GetGamma.f k l0 a1).bind fun bt112 => (if bt112.2.2 = true then (loessref6_Skip.j0 k l0 a1 a2 a3 bt112.1 bt112.2.1 (decide (bt112.1 > (IntKind.u64.wrap ((IntKind.u64.wrap (a2)) + 1))))) else (loessref6_Skip.j0 k l0 a1 a2 a3 bt112.1 bt112.2.1 true))))
end
theorem loessref6_Skip.mono_l : ∀ k, (∀ y0 y1 y2 y3, LeO (loessref6_Skip.f k y0 y1 y2 y3) (loessref6_Skip.f (k + 1) y0 y1 y2 y3)) ∧ (∀ y0 y1 y2 y3 y4 y5 y6, LeO (loessref6_Skip.j0 k y0 y1 y2 y3 y4 y5 y6) (loessref6_Skip.j0 (k + 1) y0 y1 y2 y3 y4 y5 y6))
  | 0 => ⟨fun _ _ _ _ r h => by simp [loessref6_Skip.f] at h, fun _ _ _ _ _ _ _ r h => by simp [loessref6_Skip.j0] at h⟩
  | k + 1 => by
    obtain ⟨ih0, ih1⟩ := loessref6_Skip.mono_l k
    refine ⟨?_, ?_⟩
    · intro y0 y1 y2 y3
      unfold loessref6_Skip.f
      repeat' first
      | (with_reducible exact ih0 _ _ _ _)
      | (with_reducible exact ih1 _ _ _ _ _ _ _)
      | (with_reducible exact loessref6_GetGamma.mono _ _ _)
      | (with_reducible exact LeO.refl _)
      | (with_reducible exact LeO.none _)
      | (with_reducible refine LeO.ite ?_ ?_)
      | (with_reducible refine LeO.bind ?_ (fun _ => ?_))
      | exact ih0 _ _ _ _
      | exact ih1 _ _ _ _ _ _ _
      | exact loessref6_GetGamma.mono _ _ _
      | exact LeO.none _
      | refine LeO.ite ?_ ?_
      | refine LeO.bind ?_ (fun _ => ?_)
    · intro y0 y1 y2 y3 y4 y5 y6
      unfold loessref6_Skip.j0
      repeat' first
      | (with_reducible exact ih0 _ _ _ _)
      | (with_reducible exact ih1 _ _ _ _ _ _ _)
      | (with_reducible exact loessref6_GetGamma.mono _ _ _)
      | (with_reducible exact LeO.refl _)
      | (with_reducible exact LeO.none _)
      | (with_reducible refine LeO.ite ?_ ?_)
      | (with_reducible refine LeO.bind ?_ (fun _ => ?_))
      | exact ih0 _ _ _ _
      | exact ih1 _ _ _ _ _ _ _
      | exact loessref6_GetGamma.mono _ _ _
      | exact LeO.none _
      | refine LeO.ite ?_ ?_
      | refine LeO.bind ?_ (fun _ => ?_)
theorem loessref6_Skip.mono : ∀ a0 a1 a2 a3 k, LeO (loessref6_Skip.f k a0 a1 a2 a3) (loessref6_Skip.f (k + 1) a0 a1 a2 a3) := by
  intro a0 a1 a2 a3 k
  obtain ⟨ih0, ih1⟩ := loessref6_Skip.mono_l k
  exact ih0 a0 a1 a2 a3
set_option maxHeartbeats 8000000 in
set_option maxRecDepth 100000 in
theorem loessref6_Skip.calls (k : Nat) : ∀ (A0 : Option Addr) (c0 : Nat) (l0 : List Bool) (a1 : Int) (a2 : Int) (a3 : Int) (r1 : Int) (r2 : Bool) (w : World) (hr0 : Kd.C Kd.bool w A0 l0.length l0) (hc0 : l0.length ≤ c0) (h : loessref6_Skip.f k l0 a1 a2 a3 = some (r1, r2)),
    Calls Try.prog 12 #[.slice A0 l0.length c0, .int .i64 a1, .int .i64 a2, .int .i64 a3] w fun e w' => e = .returned (.tuple #[.int .i64 r1, .bool r2]) ∧ Drawn0 w w' := by
  induction k using Nat.strongRecOn with
  | _ k ih =>
  intro A0 c0 l0 a1 a2 a3 r1 r2 w hr0 hc0 h
  cases k with
  | zero => exact absurd h (by simp [loessref6_Skip.f])
  | succ k =>
  simp only [loessref6_Skip.f] at h
  have HR0 := Aside0.mk hr0
  have HC0 := Aside0.mk hc0
  clear hr0 hc0
  have H : (if a2 ≤ 1 then (some (a1, true)) else (if a3 > 63 then (some (a1, false)) else ((loessref6_GetGamma.f k l0 a1).bind fun bt112 => (if bt112.2.2 = true then (loessref6_Skip.j0 k l0 a1 a2 a3 bt112.1 bt112.2.1 (decide (bt112.1 > (IntKind.u64.wrap ((IntKind.u64.wrap (a2)) + 1))))) else (loessref6_Skip.j0 k l0 a1 a2 a3 bt112.1 bt112.2.1 true))))) = some (r1, r2) := h
  clear h
  by_cases c5 : a2 ≤ 1
  · rw [if_pos c5] at H
    have c5b0 : decide (a2 ≤ 1) = true := decide_eq_true c5
    clear c5
    simp only [Option.some.injEq, Prod.mk.injEq] at H
    obtain ⟨rfl, rfl⟩ := H
    go_enter Try.func12, Try.ntmps12
    go_wp2
    go_ret2
    exact ⟨by first | rfl | (simp; done) | (simp [*]; done), by repeat (first | exact Drawn0.refl _ | apply Drawn0.step)⟩
  · rw [if_neg c5] at H
    have c5b0 : decide (a2 ≤ 1) = false := decide_eq_false c5
    clear c5
    by_cases c6 : a3 > 63
    · rw [if_pos c6] at H
      have c6b0 : decide (63 < a3) = true := decide_eq_true c6
      clear c6
      simp only [Option.some.injEq, Prod.mk.injEq] at H
      obtain ⟨rfl, rfl⟩ := H
      go_enter Try.func12, Try.ntmps12
      go_wp2
      go_ret2
      exact ⟨by first | rfl | (simp; done) | (simp [*]; done), by repeat (first | exact Drawn0.refl _ | apply Drawn0.step)⟩
    · rw [if_neg c6] at H
      have c6b0 : decide (63 < a3) = false := decide_eq_false c6
      clear c6
      replace H := Option.bind_eq_some_iff.mp H
      obtain ⟨⟨t112, t113, t114⟩, A70, H⟩ := H
      replace H : (if t114 = true then (loessref6_Skip.j0 k l0 a1 a2 a3 t112 t113 (decide (t112 > (IntKind.u64.wrap ((IntKind.u64.wrap (a2)) + 1))))) else (loessref6_Skip.j0 k l0 a1 a2 a3 t112 t113 true)) = some (r1, r2) := H
      have A7 := Aside0.mk A70
      clear A70
      have HC8 := Aside0.mk H
      clear H
      go_enter Try.func12, Try.ntmps12
      go_upto_region 6 with (first | ((with_reducible refine gate_callee (f := 23) rfl ?_); refine goesL_ (some 23) rfl rfl Try.func23 (by kernel_rfl) rfl #[.slice A0 l0.length c0, .int .i64 a1] rfl (by (try simp only [List.map_toArray, List.map_cons, List.map_nil]); first | done | rfl | (simp only [List.length_drop, List.length_take]; rfl)) ?_; (with_reducible refine (loessref6_GetGamma.calls k _ _ l0 a1 t112 t113 t114 _ ?side1 ?side2 A7.out).mono ?_); (case side1 => repeat (first | exact HR0.out | (with_reducible refine Kd.C_alloc ?_ _) | (with_reducible refine Kd.C_drewN ?_ _) | (with_reducible refine Kd.C_drew ?_))); (case side2 => exact HC0.out); rintro e w' ⟨rfl, ⟨nd, rfl⟩⟩; refine ⟨_, rfl, ?_⟩))
      (try simp only [Act.put, List.setIfInBounds_toArray, List.set_cons_zero, List.set_cons_succ])
      go_cut [35] (fun v35 wc => ∃ (kq : Nat) (x35_7 : Bool), v35 = .bool x35_7 ∧ Aside0 (loessref6_Skip.j0 kq l0 a1 a2 a3 t112 t113 x35_7 = some (r1, r2)) ∧ Aside0 (kq ≤ k) ∧ Drawn0 w wc)
      case first =>
        have H := HC8.out
        clear HC8
        by_cases c9 : t114 = true
        · subst c9
          have H1 : (loessref6_Skip.j0 k l0 a1 a2 a3 t112 t113 (decide (t112 > (IntKind.u64.wrap ((IntKind.u64.wrap (a2)) + 1))))) = some (r1, r2) := by rw [if_pos rfl] at H; exact H
          clear H
          have H := H1
          clear H1
          have H' := Aside0.mk H
          clear H
          go_wp2
          go_meet
          case rel => exact ⟨_, (decide (t112 > (IntKind.u64.wrap ((IntKind.u64.wrap (a2)) + 1)))), (by first | rfl | (simp; done) | (simp [*]; done)), H', ⟨by first | omega | exact Nat.le_refl _⟩, by repeat (first | exact Drawn0.refl _ | apply Drawn0.step)⟩
        · replace c9 := Bool.eq_false_iff.mpr c9
          subst c9
          have H1 : (loessref6_Skip.j0 k l0 a1 a2 a3 t112 t113 true) = some (r1, r2) := by rw [if_neg (show ¬ (false = true) by decide)] at H; exact H
          clear H
          have H := H1
          clear H1
          have H' := Aside0.mk H
          clear H
          go_wp2
          go_meet
          case rel => exact ⟨_, (true), (by first | rfl | (simp; done) | (simp [*]; done)), H', ⟨by first | omega | exact Nat.le_refl _⟩, by repeat (first | exact Drawn0.refl _ | apply Drawn0.step)⟩
      case rest =>
        clear HC8
        try clear c1
        try clear c2
        try clear p2
        try clear c5
        try clear c5b0
        try clear c6
        try clear c6b0
        try clear c9
        obtain ⟨kq, x35_7, rfl, HA, HJ7, ⟨mc7, rfl⟩⟩ := hcut
        cases kq with
        | zero => exact absurd HA.out (by simp [loessref6_Skip.j0])
        | succ kj7 =>
          have H := HA.out
          clear HA
          simp only [loessref6_Skip.j0] at H
          by_cases c10 : x35_7 = true
          · subst c10
            have H1 : (some (a1, false)) = some (r1, r2) := by rw [if_pos rfl] at H; exact H
            clear H
            have H := H1
            clear H1
            simp only [Option.some.injEq, Prod.mk.injEq] at H
            obtain ⟨rfl, rfl⟩ := H
            go_wp2
            go_ret2
            exact ⟨by first | rfl | (simp; done) | (simp [*]; done), by repeat (first | exact Drawn0.refl _ | apply Drawn0.step)⟩
          · replace c10 := Bool.eq_false_iff.mpr c10
            subst c10
            have H1 : ((loessref6_Skip.f kj7 l0 t113 (wrap64 (IntKind.u64.wrap (t112 - 1))) (wrap64 (a3 + 1))).bind fun bt115 => (if bt115.2 = true then ((loessref6_Skip.f kj7 l0 bt115.1 (wrap64 (a2 - (wrap64 (IntKind.u64.wrap (t112 - 1))))) (wrap64 (a3 + 1))).bind fun bt117 => (some (bt117.1, bt117.2))) else (some (a1, false)))) = some (r1, r2) := by rw [if_neg (show ¬ (false = true) by decide)] at H; exact H
            clear H
            have H := H1
            clear H1
            replace H := Option.bind_eq_some_iff.mp H
            obtain ⟨⟨t115, t116⟩, A110, H⟩ := H
            replace H : (if t116 = true then ((loessref6_Skip.f kj7 l0 t115 (wrap64 (a2 - (wrap64 (IntKind.u64.wrap (t112 - 1))))) (wrap64 (a3 + 1))).bind fun bt117 => (some (bt117.1, bt117.2))) else (some (a1, false))) = some (r1, r2) := H
            have A11 := Aside0.mk A110
            clear A110
            by_cases c12 : t116 = true
            · subst c12
              have H1 : ((loessref6_Skip.f kj7 l0 t115 (wrap64 (a2 - (wrap64 (IntKind.u64.wrap (t112 - 1))))) (wrap64 (a3 + 1))).bind fun bt117 => (some (bt117.1, bt117.2))) = some (r1, r2) := by rw [if_pos rfl] at H; exact H
              clear H
              have H := H1
              clear H1
              replace H := Option.bind_eq_some_iff.mp H
              obtain ⟨⟨t117, t118⟩, A130, H⟩ := H
              replace H : (some (t117, t118)) = some (r1, r2) := H
              have A13 := Aside0.mk A130
              clear A130
              simp only [Option.some.injEq, Prod.mk.injEq] at H
              obtain ⟨rfl, rfl⟩ := H
              go_wp2_with (first | ((with_reducible refine gate_callee (f := 12) rfl ?_); refine goesL_ (some 46) rfl rfl Try.func12 (by kernel_rfl) rfl #[.slice A0 l0.length c0, .int .i64 t113, .int .i64 (wrap64 (IntKind.u64.wrap (t112 - 1))), .int .i64 (wrap64 (a3 + 1))] rfl (by (try simp only [List.map_toArray, List.map_cons, List.map_nil]); first | done | rfl | (simp only [List.length_drop, List.length_take]; rfl)) ?_; (with_reducible refine (ih kj7 (by have := HJ7.out; omega) _ _ l0 t113 (wrap64 (IntKind.u64.wrap (t112 - 1))) (wrap64 (a3 + 1)) t115 true _ ?side1 ?side2 A11.out).mono ?_); (case side1 => repeat (first | exact HR0.out | (with_reducible refine Kd.C_alloc ?_ _) | (with_reducible refine Kd.C_drewN ?_ _) | (with_reducible refine Kd.C_drew ?_))); (case side2 => exact HC0.out); rintro e w' ⟨rfl, ⟨nd, rfl⟩⟩; refine ⟨_, rfl, ?_⟩) | ((with_reducible refine gate_callee (f := 12) rfl ?_); refine goesL_ (some 59) rfl rfl Try.func12 (by kernel_rfl) rfl #[.slice A0 l0.length c0, .int .i64 t115, .int .i64 (wrap64 (a2 - (wrap64 (IntKind.u64.wrap (t112 - 1))))), .int .i64 (wrap64 (a3 + 1))] rfl (by (try simp only [List.map_toArray, List.map_cons, List.map_nil]); first | done | rfl | (simp only [List.length_drop, List.length_take]; rfl)) ?_; (with_reducible refine (ih kj7 (by have := HJ7.out; omega) _ _ l0 t115 (wrap64 (a2 - (wrap64 (IntKind.u64.wrap (t112 - 1))))) (wrap64 (a3 + 1)) t117 t118 _ ?side1 ?side2 A13.out).mono ?_); (case side1 => repeat (first | exact HR0.out | (with_reducible refine Kd.C_alloc ?_ _) | (with_reducible refine Kd.C_drewN ?_ _) | (with_reducible refine Kd.C_drew ?_))); (case side2 => exact HC0.out); rintro e w' ⟨rfl, ⟨nd, rfl⟩⟩; refine ⟨_, rfl, ?_⟩))
              go_ret2
              exact ⟨by first | rfl | (simp; done) | (simp [*]; done), by repeat (first | exact Drawn0.refl _ | apply Drawn0.step)⟩
            · replace c12 := Bool.eq_false_iff.mpr c12
              subst c12
              have H1 : (some (a1, false)) = some (r1, r2) := by rw [if_neg (show ¬ (false = true) by decide)] at H; exact H
              clear H
              have H := H1
              clear H1
              simp only [Option.some.injEq, Prod.mk.injEq] at H
              obtain ⟨rfl, rfl⟩ := H
              go_wp2_with (first | ((with_reducible refine gate_callee (f := 12) rfl ?_); refine goesL_ (some 46) rfl rfl Try.func12 (by kernel_rfl) rfl #[.slice A0 l0.length c0, .int .i64 t113, .int .i64 (wrap64 (IntKind.u64.wrap (t112 - 1))), .int .i64 (wrap64 (a3 + 1))] rfl (by (try simp only [List.map_toArray, List.map_cons, List.map_nil]); first | done | rfl | (simp only [List.length_drop, List.length_take]; rfl)) ?_; (with_reducible refine (ih kj7 (by have := HJ7.out; omega) _ _ l0 t113 (wrap64 (IntKind.u64.wrap (t112 - 1))) (wrap64 (a3 + 1)) t115 false _ ?side1 ?side2 A11.out).mono ?_); (case side1 => repeat (first | exact HR0.out | (with_reducible refine Kd.C_alloc ?_ _) | (with_reducible refine Kd.C_drewN ?_ _) | (with_reducible refine Kd.C_drew ?_))); (case side2 => exact HC0.out); rintro e w' ⟨rfl, ⟨nd, rfl⟩⟩; refine ⟨_, rfl, ?_⟩))
              go_ret2
              exact ⟨by first | rfl | (simp; done) | (simp [*]; done), by repeat (first | exact Drawn0.refl _ | apply Drawn0.step)⟩

end Go.Proofs.Ytobdfehpbgcloaa.XTri

-- Written by wip/xprint.py, this session's wrapper round the kit's print program. Not trusted: Lean checks it.
namespace Go.Proofs.Ytobdfehpbgcloaa.XTri
open Go.RowKit Go.Proofs.Ytobdfehpbgcloaa.G Go.Proofs.YtobdfehpbgcloaaW.PrintWords Go.Proofs.YtobdfehpbgcloaaW.PrintLast Go.Proofs.YtobdfehpbgcloaaW.PrintMore
attribute [local go_sem] max2_int min2_int max_two min_two max_three min_three max_four min_four   -- for this text's walks alone
set_option linter.unusedVariables false
set_option linter.unusedSimpArgs false

/-! ### loessref6_Rank: function 11 -/
mutual
def loessref6_Rank.l0 : Nat → List Bool → Int → Int → Int → Int → Int → Option (Int × Bool)
  | 0, _, _, _, _, _, _ => none
  | k + 1, x0, x1, x2, x8, x9, x10 => if x1 > 1 then (if x10 > 63 then (some (0, false)) else ((loessref6_GetGamma.f k x0 x8).bind fun bt119 => (if bt119.2.2 = true then (loessref6_Rank.j1 k x0 x1 x2 x9 x10 bt119.1 bt119.2.1 (decide (bt119.1 > (IntKind.u64.wrap ((IntKind.u64.wrap (x1)) + 1))))) else (loessref6_Rank.j1 k x0 x1 x2 x9 x10 bt119.1 bt119.2.1 true)))) else (if x1 < 1 then (some (0, false)) else (some (x9, true)))
def loessref6_Rank.j1 : Nat → List Bool → Int → Int → Int → Int → Int → Int → Bool → Option (Int × Bool)
  | 0, _, _, _, _, _, _, _, _ => none
  | k + 1, x0, x1, x2, x9, x10, x11, x12, x36 => if x36 = true then (some (0, false)) else (if 0 ≤ (IntKind.u64.wrap (wrap64 (63 - x10))) then (if (Go.bits .and .u64 (shr .u64 x2 (IntKind.u64.wrap (wrap64 (63 - x10)))) 1) = 0 then (loessref6_Rank.l0 k x0 (wrap64 (IntKind.u64.wrap (x11 - 1))) x2 x12 x9 (wrap64 (x10 + 1))) else ((loessref6_Skip.f k x0 x12 (wrap64 (IntKind.u64.wrap (x11 - 1))) (wrap64 (x10 + 1))).bind fun bt122 => (if bt122.2 = true then (loessref6_Rank.l0 k x0 (wrap64 (x1 - (wrap64 (IntKind.u64.wrap (x11 - 1))))) x2 bt122.1 (wrap64 (x9 + (wrap64 (IntKind.u64.wrap (x11 - 1))))) (wrap64 (x10 + 1))) else (some (0, false))))) else (none))
end
def loessref6_Rank.f (k : Nat) (l0 : List Bool) (a1 : Int) (a2 : Int) : Option (Int × Bool) := loessref6_Rank.l0 k l0 a1 a2 0 0 0
theorem loessref6_Rank.mono_l : ∀ k, (∀ y0 y1 y2 y3 y4 y5, LeO (loessref6_Rank.l0 k y0 y1 y2 y3 y4 y5) (loessref6_Rank.l0 (k + 1) y0 y1 y2 y3 y4 y5)) ∧ (∀ y0 y1 y2 y3 y4 y5 y6 y7, LeO (loessref6_Rank.j1 k y0 y1 y2 y3 y4 y5 y6 y7) (loessref6_Rank.j1 (k + 1) y0 y1 y2 y3 y4 y5 y6 y7))
  | 0 => ⟨fun _ _ _ _ _ _ r h => by simp [loessref6_Rank.l0] at h, fun _ _ _ _ _ _ _ _ r h => by simp [loessref6_Rank.j1] at h⟩
  | k + 1 => by
    obtain ⟨ih0, ih1⟩ := loessref6_Rank.mono_l k
    refine ⟨?_, ?_⟩
    · intro y0 y1 y2 y3 y4 y5
      unfold loessref6_Rank.l0
      repeat' first
      | (with_reducible exact ih0 _ _ _ _ _ _)
      | (with_reducible exact ih1 _ _ _ _ _ _ _ _)
      | (with_reducible exact loessref6_GetGamma.mono _ _ _)
      | (with_reducible exact loessref6_Skip.mono _ _ _ _ _)
      | (with_reducible exact LeO.refl _)
      | (with_reducible exact LeO.none _)
      | (with_reducible refine LeO.ite ?_ ?_)
      | (with_reducible refine LeO.bind ?_ (fun _ => ?_))
      | exact ih0 _ _ _ _ _ _
      | exact ih1 _ _ _ _ _ _ _ _
      | exact loessref6_GetGamma.mono _ _ _
      | exact loessref6_Skip.mono _ _ _ _ _
      | exact LeO.none _
      | refine LeO.ite ?_ ?_
      | refine LeO.bind ?_ (fun _ => ?_)
    · intro y0 y1 y2 y3 y4 y5 y6 y7
      unfold loessref6_Rank.j1
      repeat' first
      | (with_reducible exact ih0 _ _ _ _ _ _)
      | (with_reducible exact ih1 _ _ _ _ _ _ _ _)
      | (with_reducible exact loessref6_GetGamma.mono _ _ _)
      | (with_reducible exact loessref6_Skip.mono _ _ _ _ _)
      | (with_reducible exact LeO.refl _)
      | (with_reducible exact LeO.none _)
      | (with_reducible refine LeO.ite ?_ ?_)
      | (with_reducible refine LeO.bind ?_ (fun _ => ?_))
      | exact ih0 _ _ _ _ _ _
      | exact ih1 _ _ _ _ _ _ _ _
      | exact loessref6_GetGamma.mono _ _ _
      | exact loessref6_Skip.mono _ _ _ _ _
      | exact LeO.none _
      | refine LeO.ite ?_ ?_
      | refine LeO.bind ?_ (fun _ => ?_)
theorem loessref6_Rank.mono : ∀ a0 a1 a2 k, LeO (loessref6_Rank.f k a0 a1 a2) (loessref6_Rank.f (k + 1) a0 a1 a2) := by
  intro a0 a1 a2 k
  obtain ⟨ih0, ih1⟩ := loessref6_Rank.mono_l k
  unfold loessref6_Rank.f
  repeat' first
      | (with_reducible exact ih0 _ _ _ _ _ _)
      | (with_reducible exact ih1 _ _ _ _ _ _ _ _)
      | (with_reducible exact loessref6_GetGamma.mono _ _ _)
      | (with_reducible exact loessref6_Skip.mono _ _ _ _ _)
      | (with_reducible exact LeO.refl _)
      | (with_reducible exact LeO.none _)
      | (with_reducible refine LeO.ite ?_ ?_)
      | (with_reducible refine LeO.bind ?_ (fun _ => ?_))
      | exact ih0 _ _ _ _ _ _
      | exact ih1 _ _ _ _ _ _ _ _
      | exact loessref6_GetGamma.mono _ _ _
      | exact loessref6_Skip.mono _ _ _ _ _
      | exact LeO.none _
      | refine LeO.ite ?_ ?_
      | refine LeO.bind ?_ (fun _ => ?_)
set_option maxHeartbeats 8000000 in
set_option maxRecDepth 100000 in
theorem loessref6_Rank.calls (k : Nat) (A0 : Option Addr) (c0 : Nat) (l0 : List Bool) (a1 : Int) (a2 : Int) (r1 : Int) (r2 : Bool) (w : World) (hr0 : Kd.C Kd.bool w A0 l0.length l0) (hc0 : l0.length ≤ c0) (h : loessref6_Rank.f k l0 a1 a2 = some (r1, r2)) :
    Calls Try.prog 11 #[.slice A0 l0.length c0, .int .i64 a1, .int .u64 a2] w fun e w' => e = .returned (.tuple #[.int .i64 r1, .bool r2]) ∧ Drawn0 w w' := by
  have HR0 := Aside0.mk hr0
  have HC0 := Aside0.mk hc0
  clear hr0 hc0
  have H : (loessref6_Rank.l0 k l0 a1 a2 0 0 0) = some (r1, r2) := h
  clear h
  have H' := Aside0.mk H
  clear H
  go_enter Try.func11, Try.ntmps11
  go_wp2
  go_loopg [1, 8, 9, 10] k (fun kq v1 v8 v9 v10 w' => ∃ (x1_1 : Int) (x8_1 : Int) (x9_1 : Int) (x10_1 : Int), v1 = .int .i64 x1_1 ∧ v8 = .int .i64 x8_1 ∧ v9 = .int .i64 x9_1 ∧ v10 = .int .i64 x10_1 ∧ Aside0 (loessref6_Rank.l0 kq l0 x1_1 a2 x8_1 x9_1 x10_1 = some (r1, r2)) ∧ Aside0 (kq ≤ k) ∧ Drawn0 w w')
  case atStart => exact ⟨(a1), (0), (0), (0), (by first | rfl | (simp; done) | (simp [*]; done)), (by first | rfl | (simp; done) | (simp [*]; done)), (by first | rfl | (simp; done) | (simp [*]; done)), (by first | rfl | (simp; done) | (simp [*]; done)), H', ⟨Nat.le_refl _⟩, by repeat (first | exact Drawn0.refl _ | apply Drawn0.step)⟩
  case round =>
    clear H'
    try clear c1
    try clear p2
    obtain ⟨x1_1, x8_1, x9_1, x10_1, rfl, rfl, rfl, rfl, HA, HK1, ⟨m1, rfl⟩⟩ := hrel
    cases gk with
    | zero => exact absurd HA.out (by simp [loessref6_Rank.l0])
    | succ k1 =>
      have H := HA.out
      clear HA
      simp only [loessref6_Rank.l0] at H
      by_cases c4 : x1_1 > 1
      · rw [if_pos c4] at H
        have c4b0 : decide (1 < x1_1) = true := decide_eq_true c4
        clear c4
        by_cases c5 : x10_1 > 63
        · rw [if_pos c5] at H
          have c5b0 : decide (63 < x10_1) = true := decide_eq_true c5
          clear c5
          simp only [Option.some.injEq, Prod.mk.injEq] at H
          obtain ⟨rfl, rfl⟩ := H
          go_wp2
          go_ret2
          exact ⟨by first | rfl | (simp; done) | (simp [*]; done), by repeat (first | exact Drawn0.refl _ | apply Drawn0.step)⟩
        · rw [if_neg c5] at H
          have c5b0 : decide (63 < x10_1) = false := decide_eq_false c5
          clear c5
          replace H := Option.bind_eq_some_iff.mp H
          obtain ⟨⟨t119, t120, t121⟩, A60, H⟩ := H
          replace H : (if t121 = true then (loessref6_Rank.j1 k1 l0 x1_1 a2 x9_1 x10_1 t119 t120 (decide (t119 > (IntKind.u64.wrap ((IntKind.u64.wrap (x1_1)) + 1))))) else (loessref6_Rank.j1 k1 l0 x1_1 a2 x9_1 x10_1 t119 t120 true)) = some (r1, r2) := H
          have A6 := Aside0.mk A60
          clear A60
          have HC7 := Aside0.mk H
          clear H
          go_upto_region 8 with (first | ((with_reducible refine gate_callee (f := 23) rfl ?_); refine goesL_ (some 24) rfl rfl Try.func23 (by kernel_rfl) rfl #[.slice A0 l0.length c0, .int .i64 x8_1] rfl (by (try simp only [List.map_toArray, List.map_cons, List.map_nil]); first | done | rfl | (simp only [List.length_drop, List.length_take]; rfl)) ?_; (with_reducible refine (loessref6_GetGamma.calls k1 _ _ l0 x8_1 t119 t120 t121 _ ?side1 ?side2 A6.out).mono ?_); (case side1 => repeat (first | exact HR0.out | (with_reducible refine Kd.C_alloc ?_ _) | (with_reducible refine Kd.C_drewN ?_ _) | (with_reducible refine Kd.C_drew ?_))); (case side2 => exact HC0.out); rintro e w' ⟨rfl, ⟨nd, rfl⟩⟩; refine ⟨_, rfl, ?_⟩))
          (try simp only [Act.put, List.setIfInBounds_toArray, List.set_cons_zero, List.set_cons_succ])
          go_cut [36] (fun v36 wc => ∃ (kq : Nat) (x36_6 : Bool), v36 = .bool x36_6 ∧ Aside0 (loessref6_Rank.j1 kq l0 x1_1 a2 x9_1 x10_1 t119 t120 x36_6 = some (r1, r2)) ∧ Aside0 (kq ≤ k1) ∧ Drawn0 w wc)
          case first =>
            have H := HC7.out
            clear HC7
            by_cases c8 : t121 = true
            · subst c8
              have H1 : (loessref6_Rank.j1 k1 l0 x1_1 a2 x9_1 x10_1 t119 t120 (decide (t119 > (IntKind.u64.wrap ((IntKind.u64.wrap (x1_1)) + 1))))) = some (r1, r2) := by rw [if_pos rfl] at H; exact H
              clear H
              have H := H1
              clear H1
              have H' := Aside0.mk H
              clear H
              go_wp2
              go_meet
              case rel => exact ⟨_, (decide (t119 > (IntKind.u64.wrap ((IntKind.u64.wrap (x1_1)) + 1)))), (by first | rfl | (simp; done) | (simp [*]; done)), H', ⟨by have := HK1.out; first | omega | exact Nat.le_refl _⟩, by repeat (first | exact Drawn0.refl _ | apply Drawn0.step)⟩
            · replace c8 := Bool.eq_false_iff.mpr c8
              subst c8
              have H1 : (loessref6_Rank.j1 k1 l0 x1_1 a2 x9_1 x10_1 t119 t120 true) = some (r1, r2) := by rw [if_neg (show ¬ (false = true) by decide)] at H; exact H
              clear H
              have H := H1
              clear H1
              have H' := Aside0.mk H
              clear H
              go_wp2
              go_meet
              case rel => exact ⟨_, (true), (by first | rfl | (simp; done) | (simp [*]; done)), H', ⟨by have := HK1.out; first | omega | exact Nat.le_refl _⟩, by repeat (first | exact Drawn0.refl _ | apply Drawn0.step)⟩
          case rest =>
            clear HC7
            try clear c1
            try clear c2
            try clear p2
            try clear c4
            try clear c4b0
            try clear c5
            try clear c5b0
            try clear c8
            try clear p2
            obtain ⟨kq, x36_6, rfl, HA, HJ6, ⟨mc6, rfl⟩⟩ := hcut
            cases kq with
            | zero => exact absurd HA.out (by simp [loessref6_Rank.j1])
            | succ kj6 =>
              have H := HA.out
              clear HA
              simp only [loessref6_Rank.j1] at H
              by_cases c9 : x36_6 = true
              · subst c9
                have H1 : (some (0, false)) = some (r1, r2) := by rw [if_pos rfl] at H; exact H
                clear H
                have H := H1
                clear H1
                simp only [Option.some.injEq, Prod.mk.injEq] at H
                obtain ⟨rfl, rfl⟩ := H
                go_wp2
                go_ret2
                exact ⟨by first | rfl | (simp; done) | (simp [*]; done), by repeat (first | exact Drawn0.refl _ | apply Drawn0.step)⟩
              · replace c9 := Bool.eq_false_iff.mpr c9
                subst c9
                have H1 : (if 0 ≤ (IntKind.u64.wrap (wrap64 (63 - x10_1))) then (if (Go.bits .and .u64 (shr .u64 a2 (IntKind.u64.wrap (wrap64 (63 - x10_1)))) 1) = 0 then (loessref6_Rank.l0 kj6 l0 (wrap64 (IntKind.u64.wrap (t119 - 1))) a2 t120 x9_1 (wrap64 (x10_1 + 1))) else ((loessref6_Skip.f kj6 l0 t120 (wrap64 (IntKind.u64.wrap (t119 - 1))) (wrap64 (x10_1 + 1))).bind fun bt122 => (if bt122.2 = true then (loessref6_Rank.l0 kj6 l0 (wrap64 (x1_1 - (wrap64 (IntKind.u64.wrap (t119 - 1))))) a2 bt122.1 (wrap64 (x9_1 + (wrap64 (IntKind.u64.wrap (t119 - 1))))) (wrap64 (x10_1 + 1))) else (some (0, false))))) else (none)) = some (r1, r2) := by rw [if_neg (show ¬ (false = true) by decide)] at H; exact H
                clear H
                have H := H1
                clear H1
                obtain ⟨ji10, hji10⟩ : ∃ j_ : Int, (IntKind.u64.wrap (wrap64 (63 - x10_1))) = j_ := ⟨_, rfl⟩
                replace H : (if 0 ≤ (ji10) then (if (Go.bits .and .u64 (shr .u64 a2 (ji10)) 1) = 0 then (loessref6_Rank.l0 kj6 l0 (wrap64 (IntKind.u64.wrap (t119 - 1))) a2 t120 x9_1 (wrap64 (x10_1 + 1))) else ((loessref6_Skip.f kj6 l0 t120 (wrap64 (IntKind.u64.wrap (t119 - 1))) (wrap64 (x10_1 + 1))).bind fun bt122 => (if bt122.2 = true then (loessref6_Rank.l0 kj6 l0 (wrap64 (x1_1 - (wrap64 (IntKind.u64.wrap (t119 - 1))))) a2 bt122.1 (wrap64 (x9_1 + (wrap64 (IntKind.u64.wrap (t119 - 1))))) (wrap64 (x10_1 + 1))) else (some (0, false))))) else (none)) = some (r1, r2) := by first | (rw [hji10] at H; exact H) | (simp only [hji10] at H ⊢; exact H)
                by_cases c11 : 0 ≤ (ji10)
                · rw [if_pos c11] at H
                  have c11b0 := eq_true c11
                  have c11b1 : decide (0 ≤ (ji10)) = true := decide_eq_true c11
                  clear c11
                  obtain ⟨ji12, hji12⟩ : ∃ j_ : Int, (shr .u64 a2 (ji10)) = j_ := ⟨_, rfl⟩
                  replace H : (if (Go.bits .and .u64 (ji12) 1) = 0 then (loessref6_Rank.l0 kj6 l0 (wrap64 (IntKind.u64.wrap (t119 - 1))) a2 t120 x9_1 (wrap64 (x10_1 + 1))) else ((loessref6_Skip.f kj6 l0 t120 (wrap64 (IntKind.u64.wrap (t119 - 1))) (wrap64 (x10_1 + 1))).bind fun bt122 => (if bt122.2 = true then (loessref6_Rank.l0 kj6 l0 (wrap64 (x1_1 - (wrap64 (IntKind.u64.wrap (t119 - 1))))) a2 bt122.1 (wrap64 (x9_1 + (wrap64 (IntKind.u64.wrap (t119 - 1))))) (wrap64 (x10_1 + 1))) else (some (0, false))))) = some (r1, r2) := by first | (rw [hji12] at H; exact H) | (simp only [hji12] at H ⊢; exact H)
                  have hji12_ : (a2 / 2 ^ min (ji10).toNat 64) = ji12 := hji12
                  have hji12z : (ji10) ≤ 64 → (a2 / 2 ^ (ji10).toNat) = ji12 := shr_small hji12
                  by_cases c13 : (Go.bits .and .u64 (ji12) 1) = 0
                  · rw [if_pos c13] at H
                    have c13b0 : ((Go.bits .and .u64 (ji12) 1) == 0) = true := beq_iff_eq.mpr c13
                    have c13b1 : ((Go.bits .and .u64 (ji12) 1) != 0) = false := bne_eq_false_iff_eq.mpr c13
                    clear c13
                    have H' := Aside0.mk H
                    clear H
                    go_wp2
                    go_roundg kj6
                    case measure => have := HK1.out; have := HJ6.out; omega
                    case rel => exact ⟨(wrap64 (IntKind.u64.wrap (t119 - 1))), (t120), (x9_1), (wrap64 (x10_1 + 1)), (by first | rfl | (simp; done) | (simp [*]; done)), (by first | rfl | (simp; done) | (simp [*]; done)), (by first | rfl | (simp; done) | (simp [*]; done)), (by first | rfl | (simp; done) | (simp [*]; done)), H', ⟨by have := HK1.out; have := HJ6.out; omega⟩, by repeat (first | exact Drawn0.refl _ | apply Drawn0.step)⟩
                  · rw [if_neg c13] at H
                    have c13b0 : ((Go.bits .and .u64 (ji12) 1) == 0) = false := beq_eq_false_iff_ne.mpr c13
                    have c13b1 : ((Go.bits .and .u64 (ji12) 1) != 0) = true := bne_iff_ne.mpr c13
                    replace H := Option.bind_eq_some_iff.mp H
                    obtain ⟨⟨t122, t123⟩, A140, H⟩ := H
                    replace H : (if t123 = true then (loessref6_Rank.l0 kj6 l0 (wrap64 (x1_1 - (wrap64 (IntKind.u64.wrap (t119 - 1))))) a2 t122 (wrap64 (x9_1 + (wrap64 (IntKind.u64.wrap (t119 - 1))))) (wrap64 (x10_1 + 1))) else (some (0, false))) = some (r1, r2) := H
                    have A14 := Aside0.mk A140
                    clear A140
                    by_cases c15 : t123 = true
                    · subst c15
                      have H1 : (loessref6_Rank.l0 kj6 l0 (wrap64 (x1_1 - (wrap64 (IntKind.u64.wrap (t119 - 1))))) a2 t122 (wrap64 (x9_1 + (wrap64 (IntKind.u64.wrap (t119 - 1))))) (wrap64 (x10_1 + 1))) = some (r1, r2) := by rw [if_pos rfl] at H; exact H
                      clear H
                      have H := H1
                      clear H1
                      have H' := Aside0.mk H
                      clear H
                      go_wp2_with (first | ((with_reducible refine gate_callee (f := 12) rfl ?_); refine goesL_ (some 55) rfl rfl Try.func12 (by kernel_rfl) rfl #[.slice A0 l0.length c0, .int .i64 t120, .int .i64 (wrap64 (IntKind.u64.wrap (t119 - 1))), .int .i64 (wrap64 (x10_1 + 1))] rfl (by (try simp only [List.map_toArray, List.map_cons, List.map_nil]); first | done | rfl | (simp only [List.length_drop, List.length_take]; rfl)) ?_; (with_reducible refine (loessref6_Skip.calls kj6 _ _ l0 t120 (wrap64 (IntKind.u64.wrap (t119 - 1))) (wrap64 (x10_1 + 1)) t122 true _ ?side1 ?side2 A14.out).mono ?_); (case side1 => repeat (first | exact HR0.out | (with_reducible refine Kd.C_alloc ?_ _) | (with_reducible refine Kd.C_drewN ?_ _) | (with_reducible refine Kd.C_drew ?_))); (case side2 => exact HC0.out); rintro e w' ⟨rfl, ⟨nd, rfl⟩⟩; refine ⟨_, rfl, ?_⟩))
                      go_roundg kj6
                      case measure => have := HK1.out; have := HJ6.out; omega
                      case rel => exact ⟨(wrap64 (x1_1 - (wrap64 (IntKind.u64.wrap (t119 - 1))))), (t122), (wrap64 (x9_1 + (wrap64 (IntKind.u64.wrap (t119 - 1))))), (wrap64 (x10_1 + 1)), (by first | rfl | (simp; done) | (simp [*]; done)), (by first | rfl | (simp; done) | (simp [*]; done)), (by first | rfl | (simp; done) | (simp [*]; done)), (by first | rfl | (simp; done) | (simp [*]; done)), H', ⟨by have := HK1.out; have := HJ6.out; omega⟩, by repeat (first | exact Drawn0.refl _ | apply Drawn0.step)⟩
                    · replace c15 := Bool.eq_false_iff.mpr c15
                      subst c15
                      have H1 : (some (0, false)) = some (r1, r2) := by rw [if_neg (show ¬ (false = true) by decide)] at H; exact H
                      clear H
                      have H := H1
                      clear H1
                      simp only [Option.some.injEq, Prod.mk.injEq] at H
                      obtain ⟨rfl, rfl⟩ := H
                      go_wp2_with (first | ((with_reducible refine gate_callee (f := 12) rfl ?_); refine goesL_ (some 55) rfl rfl Try.func12 (by kernel_rfl) rfl #[.slice A0 l0.length c0, .int .i64 t120, .int .i64 (wrap64 (IntKind.u64.wrap (t119 - 1))), .int .i64 (wrap64 (x10_1 + 1))] rfl (by (try simp only [List.map_toArray, List.map_cons, List.map_nil]); first | done | rfl | (simp only [List.length_drop, List.length_take]; rfl)) ?_; (with_reducible refine (loessref6_Skip.calls kj6 _ _ l0 t120 (wrap64 (IntKind.u64.wrap (t119 - 1))) (wrap64 (x10_1 + 1)) t122 false _ ?side1 ?side2 A14.out).mono ?_); (case side1 => repeat (first | exact HR0.out | (with_reducible refine Kd.C_alloc ?_ _) | (with_reducible refine Kd.C_drewN ?_ _) | (with_reducible refine Kd.C_drew ?_))); (case side2 => exact HC0.out); rintro e w' ⟨rfl, ⟨nd, rfl⟩⟩; refine ⟨_, rfl, ?_⟩))
                      go_ret2
                      exact ⟨by first | rfl | (simp; done) | (simp only [← hji10, ← hji12] <;> (first | rfl | simp)) | (simp [*]; done), by repeat (first | exact Drawn0.refl _ | apply Drawn0.step)⟩
                · rw [if_neg c11] at H
                  exact absurd H (by simp)
      · rw [if_neg c4] at H
        have c4b0 : decide (1 < x1_1) = false := decide_eq_false c4
        clear c4
        by_cases c16 : x1_1 < 1
        · rw [if_pos c16] at H
          have c16b0 : decide (x1_1 < 1) = true := decide_eq_true c16
          clear c16
          simp only [Option.some.injEq, Prod.mk.injEq] at H
          obtain ⟨rfl, rfl⟩ := H
          go_wp2
          go_ret2
          exact ⟨by first | rfl | (simp; done) | (simp [*]; done), by repeat (first | exact Drawn0.refl _ | apply Drawn0.step)⟩
        · rw [if_neg c16] at H
          have c16b0 : decide (x1_1 < 1) = false := decide_eq_false c16
          clear c16
          simp only [Option.some.injEq, Prod.mk.injEq] at H
          obtain ⟨rfl, rfl⟩ := H
          go_wp2
          go_ret2
          exact ⟨by first | rfl | (simp; done) | (simp [*]; done), by repeat (first | exact Drawn0.refl _ | apply Drawn0.step)⟩

end Go.Proofs.Ytobdfehpbgcloaa.XTri

/- The document's Skip and Rank answer as skipT and rankT. -/
namespace Go.Proofs.Ytobdfehpbgcloaa.GL
open Go.RowKit Go.Proofs.YtobdfehpbgcloaaW.PrintWords Go.Proofs.YtobdfehpbgcloaaW.PrintMore Go.Proofs.Ytobdfehpbgcloaa.Q Go.Proofs.Ytobdfehpbgcloaa.XTri
set_option linter.unusedVariables false
set_option linter.unusedSimpArgs false
theorem evC {α : Type} {f g : Nat → Option α} {a : α} (h : ∀ r, f r = g r) (hg : Ev g a) : Ev f a := Ev.congr h hg
/-- What a Skip may answer. -/
def SkP (o : Option Int) (v : Int) : Prop := ∀ t, o = some t → v = t
theorem readT_none {L : List Bool} {at_ n : Int} (h : getG L at_ = none) : readT L at_ n = none := by unfold readT; rw [h]
theorem readT_some {L : List Bool} {at_ n x e : Int} (h : getG L at_ = some (x, e)) : readT L at_ n = if n < x - 1 then none else some (x - 1, e) := by unfold readT; rw [h]
theorem skipT_s {L : List Bool} {k : Nat} {at_ n : Int} (h : ¬ n < 2) : skipT L (k + 1) at_ n = match readT L at_ n with
    | none => none
    | some (l, e) => match skipT L k e l with
      | none => none
      | some t => skipT L k t (n - l) := if_neg h
theorem skip_bd {L : List Bool} : ∀ (k : Nat) (at_ n t : Int), at_ ≤ L.length ∨ n < 2 → skipT L k at_ n = some t → t = at_ ∨ t ≤ L.length := by
  intro k
  induction k with
  | zero =>
    intro at_ n t _ h
    rw [skipT] at h
    split at h
    · injection h with h; exact .inl h.symm
    · cases h
  | succ k ih =>
    intro at_ n t _ h
    by_cases h2 : n < 2
    · rw [skipT, if_pos h2] at h
      injection h with h
      exact .inl h.symm
    · rw [skipT_s h2] at h
      cases hr : readT L at_ n with
      | none => rw [hr] at h; cases h
      | some le =>
        obtain ⟨l, e⟩ := le
        rw [hr] at h
        have hsp := readT_spec hr
        cases hs : skipT L k e l with
        | none => simp only [hs] at h; cases h
        | some u =>
          simp only [hs] at h
          have h1 := ih e l u (.inl hsp.2.2.1) hs
          have hu : u ≤ L.length := by omega
          have h3 := ih u (n - l) t (.inl hu) h
          omega
theorem skip_ev (L : List Bool) (hl : L.length < 100000000000) : ∀ (k : Nat) (at_ n d : Int), d = 64 - (k : Int) → k ≤ 64 → at_ ≤ 100000000000 → 0 ≤ n → n ≤ 4096 →
    ∃ v, Ev (fun r => loessref6_Skip.f r L at_ n d) (v, (skipT L k at_ n).isSome) ∧ SkP (skipT L k at_ n) v := by
  intro k
  induction k with
  | zero =>
    intro at_ n d hd _ _ h0 h1
    refine ⟨at_, ?_, ?_⟩
    · by_cases h2 : n < 2
      · have e : skipT L 0 at_ n = some at_ := if_pos h2
        rw [e]
        refine Ev.step (f := fun _ => some (at_, true)) (fun r => ?_) (Ev.now _)
        simp only [loessref6_Skip.f]
        rw [if_pos (by omega)]
      · have e : skipT L 0 at_ n = none := if_neg h2
        rw [e]
        refine Ev.step (f := fun _ => some (at_, false)) (fun r => ?_) (Ev.now _)
        simp only [loessref6_Skip.f]
        rw [if_neg (by omega), if_pos (by omega)]
    · intro t ht
      rw [skipT] at ht
      split at ht
      · injection ht
      · cases ht
  | succ k ih =>
    intro at_ n d hd hk ha h0 h1
    by_cases h2 : n < 2
    · have e : skipT L (k + 1) at_ n = some at_ := by rw [skipT, if_pos h2]
      rw [e]
      refine ⟨at_, ?_, fun t ht => by injection ht⟩
      refine Ev.step (f := fun _ => some (at_, true)) (fun r => ?_) (Ev.now _)
      simp only [loessref6_Skip.f]
      rw [if_pos (by omega)]
    · have hu1 : Aside0 (IntKind.u64.wrap (IntKind.u64.wrap n + 1) = n + 1) := ⟨by rw [u64 (x := n) (by omega) (by omega), u64 (by omega) (by omega)]⟩
      have hd1 : Aside0 (wrap64 (d + 1) = 64 - (k : Int)) := ⟨by rw [w64 (by omega) (by omega)]; omega⟩
      have hbig : ¬ n ≤ 1 := by omega
      have hdeep : ¬ d > 63 := by omega
      have hno : ∀ (x e : Int) (t : Bool), Ev (fun r => loessref6_Skip.j0 r L at_ n d x e true) (at_, false) := by
        intro x e _
        refine Ev.step (f := fun _ => some (at_, false)) (fun r => ?_) (Ev.now _)
        simp only [loessref6_Skip.j0]
        exact if_pos trivial
      have hstep : ∀ v, Ev (fun r => (loessref6_GetGamma.f r L at_).bind fun bt => if bt.2.2 = true then loessref6_Skip.j0 r L at_ n d bt.1 bt.2.1 (decide (bt.1 > n + 1)) else loessref6_Skip.j0 r L at_ n d bt.1 bt.2.1 true) v → Ev (fun r => loessref6_Skip.f r L at_ n d) v := by
        intro v hv
        refine Ev.step (fun r => ?_) hv
        simp only [loessref6_Skip.f]
        rw [if_neg hbig, if_neg hdeep, hu1.out]
      cases hg : getG L at_ with
      | none =>
        have e : skipT L (k + 1) at_ n = none := by rw [skipT_s h2, readT_none hg]
        rw [e]
        refine ⟨at_, hstep _ (Ev.bind (getGamma_ev L at_ hl (by omega)) ?_), fun t ht => by cases ht⟩
        rw [hg]
        exact evC (fun r => if_neg (by show ¬ (false : Bool) = true; decide)) (hno 0 at_ true)
      | some xe =>
        obtain ⟨x, e⟩ := xe
        have hsp := getG_spec hg
        by_cases hx : n < x - 1
        · have e' : skipT L (k + 1) at_ n = none := by rw [skipT_s h2, readT_some hg, if_pos hx]
          rw [e']
          refine ⟨at_, hstep _ (Ev.bind (getGamma_ev L at_ hl (by omega)) ?_), fun t ht => by cases ht⟩
          rw [hg]
          refine evC (g := fun r => loessref6_Skip.j0 r L at_ n d x e true) (fun r => ?_) (hno x e true)
          show (if true = true then loessref6_Skip.j0 r L at_ n d x e (decide (x > n + 1)) else loessref6_Skip.j0 r L at_ n d x e true) = _
          rw [if_pos rfl, decide_eq_true (show x > n + 1 by omega)]
        · have hrd : readT L at_ n = some (x - 1, e) := by rw [readT_some hg, if_neg hx]
          have hw : Aside0 (wrap64 (IntKind.u64.wrap (x - 1)) = x - 1) := ⟨by rw [u64 (by omega) (by omega), w64 (by omega) (by omega)]⟩
          have hw2 : Aside0 (wrap64 (n - (x - 1)) = n - (x - 1)) := ⟨w64 (by omega) (by omega)⟩
          have hgo : ∀ v, Ev (fun r => (loessref6_Skip.f r L e (x - 1) (64 - (k : Int))).bind fun bt => if bt.2 = true then ((loessref6_Skip.f r L bt.1 (n - (x - 1)) (64 - (k : Int))).bind fun bt117 => (some (bt117.1, bt117.2))) else some (at_, false)) v → Ev (fun r => loessref6_Skip.f r L at_ n d) v := by
            intro v hv
            refine hstep _ (Ev.bind (getGamma_ev L at_ hl (by omega)) ?_)
            rw [hg]
            refine evC (g := fun r => loessref6_Skip.j0 r L at_ n d x e false) (fun r => ?_) ?_
            · show (if true = true then loessref6_Skip.j0 r L at_ n d x e (decide (x > n + 1)) else loessref6_Skip.j0 r L at_ n d x e true) = _
              rw [if_pos rfl, decide_eq_false (show ¬ x > n + 1 by omega)]
            · refine Ev.step (fun r => ?_) hv
              simp only [loessref6_Skip.j0]
              rw [if_neg (by simp), hw.out, hw2.out, hd1.out]
          obtain ⟨v1, he1, hv1⟩ := ih e (x - 1) (64 - (k : Int)) rfl (by omega) (by omega) (by omega) (by omega)
          cases hs : skipT L k e (x - 1) with
          | none =>
            have e' : skipT L (k + 1) at_ n = none := by rw [skipT_s h2, hrd]; simp only [hs]
            rw [hs] at he1
            rw [e']
            refine ⟨at_, hgo _ (Ev.bind he1 ?_), fun t ht => by cases ht⟩
            exact evC (fun r => if_neg (by show ¬ (false : Bool) = true; decide)) (Ev.now _)
          | some t =>
            have e' : skipT L (k + 1) at_ n = skipT L k t (n - (x - 1)) := by rw [skipT_s h2, hrd]; simp only [hs]
            have hvt := hv1 t hs
            subst hvt
            rw [hs] at he1
            have hbd := skip_bd k e (x - 1) v1 (.inl hsp.2.2.1) hs
            obtain ⟨v2, he2, hv2⟩ := ih v1 (n - (x - 1)) (64 - (k : Int)) rfl (by omega) (by omega) (by omega) (by omega)
            rw [e']
            refine ⟨v2, hgo _ (Ev.bind he1 ?_), hv2⟩
            refine evC (g := fun r => (loessref6_Skip.f r L v1 (n - (x - 1)) (64 - (k : Int))).bind fun bt117 => (some (bt117.1, bt117.2))) (fun r => if_pos rfl) (Ev.bind he2 (Ev.now _))
theorem rank_ev (L : List Bool) (h : Int) (hl : L.length < 100000000000) (hh0 : 0 ≤ h) (hh1 : h < 18446744073709551616) : ∀ (k : Nat) (at_ n a d : Int), d = 64 - (k : Int) → k ≤ 64 → at_ ≤ 100000000000 → 0 ≤ n → n ≤ 4096 → 0 ≤ a → a ≤ 4096 * (65 - (k : Int)) →
    Ev (fun r => loessref6_Rank.l0 r L n h at_ a d) (numP (rankT L h k at_ n a)) := by
  intro k
  induction k with
  | zero =>
    intro at_ n a d hd _ _ h0 h1 _ _
    by_cases hz : n = 0
    · subst hz
      rw [rankT_0]
      refine Ev.step (f := fun _ => some (0, false)) (fun r => ?_) (Ev.now _)
      simp only [loessref6_Rank.l0]
      rw [if_neg (by omega), if_pos (by omega)]
    · by_cases ho : n = 1
      · subst ho
        rw [rankT_1]
        refine Ev.step (f := fun _ => some (a, true)) (fun r => ?_) (Ev.now _)
        simp only [loessref6_Rank.l0]
        rw [if_neg (by omega), if_neg (by omega)]
      · rw [rankT_e (by omega)]
        refine Ev.step (f := fun _ => some (0, false)) (fun r => ?_) (Ev.now _)
        simp only [loessref6_Rank.l0]
        rw [if_pos (by omega), if_pos (by omega)]
  | succ k ih =>
    intro at_ n a d hd hk ha h0 h1 ha0 ha1
    by_cases hz : n = 0
    · subst hz
      rw [rankT_0]
      refine Ev.step (f := fun _ => some (0, false)) (fun r => ?_) (Ev.now _)
      simp only [loessref6_Rank.l0]
      rw [if_neg (by omega), if_pos (by omega)]
    · by_cases ho : n = 1
      · subst ho
        rw [rankT_1]
        refine Ev.step (f := fun _ => some (a, true)) (fun r => ?_) (Ev.now _)
        simp only [loessref6_Rank.l0]
        rw [if_neg (by omega), if_neg (by omega)]
      · have hu1 : Aside0 (IntKind.u64.wrap (IntKind.u64.wrap n + 1) = n + 1) := ⟨by rw [u64 (x := n) (by omega) (by omega), u64 (by omega) (by omega)]⟩
        have hd1 : Aside0 (wrap64 (d + 1) = 64 - (k : Int)) := ⟨by rw [w64 (by omega) (by omega)]; omega⟩
        have hsh : Aside0 (IntKind.u64.wrap (wrap64 (63 - d)) = (k : Int)) := ⟨by rw [w64 (by omega) (by omega), u64 (by omega) (by omega)]; omega⟩
        have hs : Aside0 (shr .u64 h (k : Int) = h / 2 ^ k) := ⟨by
          unfold shr
          rw [show IntKind.u64.bits = 64 from rfl, show min (k : Int).toNat 64 = k by omega]⟩
        have hbig : n > 1 := by omega
        have hdeep : ¬ d > 63 := by omega
        have hno : ∀ (x e : Int), Ev (fun r => loessref6_Rank.j1 r L n h a d x e true) (0, false) := by
          intro x e
          refine Ev.step (f := fun _ => some (0, false)) (fun r => ?_) (Ev.now _)
          simp only [loessref6_Rank.j1]
          exact if_pos trivial
        have hstep : ∀ v, Ev (fun r => (loessref6_GetGamma.f r L at_).bind fun bt => if bt.2.2 = true then loessref6_Rank.j1 r L n h a d bt.1 bt.2.1 (decide (bt.1 > n + 1)) else loessref6_Rank.j1 r L n h a d bt.1 bt.2.1 true) v → Ev (fun r => loessref6_Rank.l0 r L n h at_ a d) v := by
          intro v hv
          refine Ev.step (fun r => ?_) hv
          simp only [loessref6_Rank.l0]
          rw [if_pos hbig, if_neg hdeep, hu1.out]
        rw [rankT_s (by omega)]
        cases hg : getG L at_ with
        | none =>
          rw [readT_none hg]
          refine hstep _ (Ev.bind (getGamma_ev L at_ hl (by omega)) ?_)
          rw [hg]
          exact evC (fun r => if_neg (by show ¬ (false : Bool) = true; decide)) (hno 0 at_)
        | some xe =>
          obtain ⟨x, e⟩ := xe
          have hsp := getG_spec hg
          by_cases hx : n < x - 1
          · rw [readT_some hg, if_pos hx]
            refine hstep _ (Ev.bind (getGamma_ev L at_ hl (by omega)) ?_)
            rw [hg]
            refine evC (g := fun r => loessref6_Rank.j1 r L n h a d x e true) (fun r => ?_) (hno x e)
            show (if true = true then loessref6_Rank.j1 r L n h a d x e (decide (x > n + 1)) else loessref6_Rank.j1 r L n h a d x e true) = _
            rw [if_pos rfl, decide_eq_true (show x > n + 1 by omega)]
          · rw [readT_some hg, if_neg hx]
            have hw : Aside0 (wrap64 (IntKind.u64.wrap (x - 1)) = x - 1) := ⟨by rw [u64 (by omega) (by omega), w64 (by omega) (by omega)]⟩
            have hw2 : Aside0 (wrap64 (n - (x - 1)) = n - (x - 1)) := ⟨w64 (by omega) (by omega)⟩
            have hw3 : Aside0 (wrap64 (a + (x - 1)) = a + (x - 1)) := ⟨w64 (by omega) (by omega)⟩
            have hkk : 0 ≤ (k : Int) := by omega
            have hgo : ∀ v, Ev (fun r => if h / 2 ^ k % 2 = 0 then loessref6_Rank.l0 r L (x - 1) h e a (64 - (k : Int)) else (loessref6_Skip.f r L e (x - 1) (64 - (k : Int))).bind fun bt => if bt.2 = true then loessref6_Rank.l0 r L (n - (x - 1)) h bt.1 (a + (x - 1)) (64 - (k : Int)) else some (0, false)) v → Ev (fun r => loessref6_Rank.l0 r L n h at_ a d) v := by
              intro v hv
              refine hstep _ (Ev.bind (getGamma_ev L at_ hl (by omega)) ?_)
              rw [hg]
              refine evC (g := fun r => loessref6_Rank.j1 r L n h a d x e false) (fun r => ?_) ?_
              · show (if true = true then loessref6_Rank.j1 r L n h a d x e (decide (x > n + 1)) else loessref6_Rank.j1 r L n h a d x e true) = _
                rw [if_pos rfl, decide_eq_false (show ¬ x > n + 1 by omega)]
              · refine Ev.step (fun r => ?_) hv
                simp only [loessref6_Rank.j1]
                rw [if_neg (by simp), hsh.out, if_pos hkk, hs.out, and1_shr k hh0 hh1, hw.out, hw2.out, hw3.out, hd1.out]
            show Ev _ (numP (if bitT h k = true then (match skipT L k e (x - 1) with
              | none => none
              | some t => rankT L h k t (n - (x - 1)) (a + (x - 1))) else rankT L h k e (x - 1) a))
            by_cases hb : h / 2 ^ k % 2 = 0
            · have hbt : ¬ bitT h k = true := by unfold bitT; rw [hb]; decide
              rw [if_neg hbt]
              refine hgo _ (evC (fun r => if_pos hb) ?_)
              exact ih e (x - 1) a (64 - (k : Int)) rfl (by omega) (by omega) (by omega) (by omega) ha0 (by omega)
            · have hbt : bitT h k = true := by
                unfold bitT
                have : h / 2 ^ k % 2 = 1 := by omega
                rw [this]
                rfl
              rw [if_pos hbt]
              refine hgo _ (evC (fun r => if_neg hb) ?_)
              obtain ⟨v1, he1, hv1⟩ := skip_ev L hl k e (x - 1) (64 - (k : Int)) rfl (by omega) (by omega) (by omega) (by omega)
              cases hs2 : skipT L k e (x - 1) with
              | none =>
                rw [hs2] at he1
                refine Ev.bind he1 ?_
                exact evC (fun r => if_neg (by show ¬ (false : Bool) = true; decide)) (Ev.now _)
              | some t =>
                have hvt := hv1 t hs2
                subst hvt
                rw [hs2] at he1
                have hbd := skip_bd k e (x - 1) v1 (.inl hsp.2.2.1) hs2
                refine Ev.bind he1 ?_
                refine evC (g := fun r => loessref6_Rank.l0 r L (n - (x - 1)) h v1 (a + (x - 1)) (64 - (k : Int))) (fun r => if_pos rfl) ?_
                exact ih v1 (n - (x - 1)) (a + (x - 1)) (64 - (k : Int)) rfl (by omega) (by omega) (by omega) (by omega) (by omega) (by omega)
theorem rankF_ev (L : List Bool) (h n : Int) (hl : L.length < 100000000000) (hh0 : 0 ≤ h) (hh1 : h < 18446744073709551616) (h0 : 0 ≤ n) (h1 : n ≤ 4096) : Ev (fun r => loessref6_Rank.f r L n h) (numP (rankI L h n)) := by
  unfold loessref6_Rank.f rankI
  rw [if_neg (by omega)]
  exact rank_ev L h hl hh0 hh1 64 0 n 0 0 rfl (by omega) (by decide) h0 h1 (by decide) (by decide)
end Go.Proofs.Ytobdfehpbgcloaa.GL

/- Rows of structs and struct parameters, opened: what an argument's datum says of its cells, kind by kind. -/
set_option linter.unusedVariables false
set_option linter.unusedSimpArgs false
namespace Go.Proofs.Ytobdfehpbgcloaa.O
open Go.RowKit Go.ChangeShapes Go.WideShapes Go.Deep Go.Proofs.YtobdfehpbgcloaaW.PrintWords Go.Proofs.YtobdfehpbgcloaaW.PrintMore
section
variable {H : Type} {enc : TypeId × Value → H} {P : Program}
/-- What the cells of a type's value are: a value of the kind d, of which ok holds. -/
def El (enc : TypeId × Value → H) (P : Program) (e : TypeId) {α : Type} (d : Kd α) (ok : α → Prop) : Prop :=
  ∀ (w : World) (base : Nat) (spare : Nat → Bool) (held : Bool) (n : Nat) (cs : List Value) (x : DataW H × List MemPlace), DataW.trod enc P w base spare held n e cs = some x → ∃ a, d.K w a cs ∧ ok a
theorem el_int {k : IntKind} {e : TypeId} (he : P.underlying e = some (.int k)) : El enc P e (Kd.int k) (fun n => (Lit.int k n).wf = true) := by
  intro w base spare held n cs x h
  obtain ⟨m, h1, h2, h3⟩ := DataW.trod_int he h
  exact ⟨m, h1, h3⟩
theorem el_bool {e : TypeId} (he : P.underlying e = some .bool) : El enc P e Kd.bool (fun _ => True) := by
  intro w base spare held n cs x h
  obtain ⟨m, h1, h2⟩ := DataW.trod_bool he h
  exact ⟨m, h1, trivial⟩
theorem el_string {e : TypeId} (he : P.underlying e = some .string) : El enc P e Kd.string (fun s => s.size ≤ 9223372036854775807) := by
  intro w base spare held n cs x h
  obtain ⟨m, h1, h2, h3⟩ := DataW.trod_string he h
  exact ⟨m, h1, h3⟩
theorem el_struct2 {e : TypeId} {f0 f1 : Field} {α β : Type} {a : Kd α} {b : Kd β} {oka : α → Prop} {okb : β → Prop} (he : P.underlying e = some (.struct #[f0, f1])) (hc : P.cellsOf e = a.sz + b.sz) (o0 : f0.offset = 0) (o1 : f1.offset = a.sz) (c0 : P.cellsOf f0.type = a.sz) (c1 : P.cellsOf f1.type = b.sz)
    (h0 : El enc P f0.type a oka) (h1 : El enc P f1.type b okb) : El enc P e (Kd.pair a b) (fun x => oka x.1 ∧ okb x.2) := by
  intro w base spare held n cs x h
  obtain ⟨y0, y1, m, hx, hl, g0, g1⟩ := trod_struct2 he h
  obtain ⟨x0, k0, q0⟩ := h0 _ _ _ _ _ _ _ g0
  obtain ⟨x1, k1, q1⟩ := h1 _ _ _ _ _ _ _ g1
  refine ⟨(x0, x1), ⟨_, _, ?_, k0, k1⟩, q0, q1⟩
  rw [o0, o1, c0, c1, List.drop_zero]
  rw [List.take_of_length_le (l := cs.drop a.sz) (by rw [List.length_drop]; omega), List.take_append_drop]
theorem el_struct3 {e : TypeId} {f0 f1 f2 : Field} {α β γ : Type} {a : Kd α} {b : Kd β} {c : Kd γ} {oka : α → Prop} {okb : β → Prop} {okc : γ → Prop} (he : P.underlying e = some (.struct #[f0, f1, f2])) (hc : P.cellsOf e = a.sz + (b.sz + c.sz))
    (o0 : f0.offset = 0) (o1 : f1.offset = a.sz) (o2 : f2.offset = a.sz + b.sz) (c0 : P.cellsOf f0.type = a.sz) (c1 : P.cellsOf f1.type = b.sz) (c2 : P.cellsOf f2.type = c.sz)
    (h0 : El enc P f0.type a oka) (h1 : El enc P f1.type b okb) (h2 : El enc P f2.type c okc) : El enc P e (Kd.pair a (Kd.pair b c)) (fun x => oka x.1 ∧ okb x.2.1 ∧ okc x.2.2) := by
  intro w base spare held n cs x h
  obtain ⟨y0, y1, y2, m, hx, hl, g0, g1, g2⟩ := trod_struct3 he h
  obtain ⟨x0, k0, q0⟩ := h0 _ _ _ _ _ _ _ g0
  obtain ⟨x1, k1, q1⟩ := h1 _ _ _ _ _ _ _ g1
  obtain ⟨x2, k2, q2⟩ := h2 _ _ _ _ _ _ _ g2
  refine ⟨(x0, x1, x2), ⟨_, _, ?_, k0, _, _, rfl, k1, k2⟩, q0, q1, q2⟩
  rw [o0, o1, o2, c0, c1, c2, List.drop_zero, ← List.drop_drop]
  rw [List.take_of_length_le (l := (cs.drop a.sz).drop b.sz) (by rw [List.length_drop, List.length_drop]; omega), List.take_append_drop, List.take_append_drop]
theorem el_iso {e : TypeId} {α β : Type} {d : Kd α} {ok : α → Prop} (f : β → α) (g : α → β) (hfg : ∀ x, f (g x) = x) (h : El enc P e d ok) : El enc P e (Kd.iso d f) (fun x => ok (f x)) := by
  intro w base spare held n cs x hx
  obtain ⟨a, h1, h2⟩ := h _ _ _ _ _ _ _ hx
  refine ⟨g a, ?_, ?_⟩
  · show d.K w (f (g a)) cs
    rw [hfg]; exact h1
  · show ok (f (g a))
    rw [hfg]; exact h2
def IsRows {α : Type} (d : Kd α) (ok : α → Prop) (w : World) (A : Option Addr) (len cap : Nat) (xs : List α) : Prop :=
  xs.length = len ∧ len ≤ cap ∧ cap ≤ 9223372036854775807 ∧ d.C w A len xs ∧ ∀ a ∈ xs, ok a
/-- A slice that came in, as a row of its element's kind. -/
theorem open_rows {t e : TypeId} {α : Type} [Inhabited α] {d : Kd α} {ok : α → Prop} {w : World} {base : Nat} {spare : Nat → Bool} {held : Bool} {fuel : Nat} {A : Option Addr} {len cap : Nat} {x : DataW H × List MemPlace} (ht : P.underlying t = some (.slice e)) (hc : P.cellsOf e = d.sz)
    (hE : El enc P e d ok) (h : DataW.trod enc P w base spare held fuel t (Value.slice A len cap).cells.toList = some x) :
    ∃ xs : List α, IsRows d ok w A len cap xs := by
  have hcs : (Value.slice A len cap).cells.toList = [.slice A len cap] := rfl
  rw [hcs] at h
  rcases open_slice ht h with ⟨h1, _⟩ | ⟨a, l, c, m, n, D, Pl, h1, hb, hl, hm, hmm, _, hx⟩
  · simp at h1
    obtain ⟨rfl, rfl, rfl⟩ := h1
    exact ⟨[], rfl, by omega, by omega, Kd.C_nil d w, by simp⟩
  · simp at h1
    obtain ⟨rfl, rfl, rfl⟩ := h1
    have hlm : len ≤ m := by rw [hmm]; split <;> omega
    have each : ∀ i, i < len → ∃ y : α, (∃ cs', w.cells? base (a.add (i * P.cellsOf e)) (P.cellsOf e) = some cs' ∧ d.K w y cs') ∧ ok y := fun i hi => by
      obtain ⟨cs', h2, h3⟩ := hx i (by omega)
      obtain ⟨y, h4, h5⟩ := hE _ _ _ _ _ _ _ h3
      exact ⟨y, ⟨cs', h2, h4⟩, h5⟩
    obtain ⟨f, hf⟩ := choose_lt each
    have hmax : maxLen = 9223372036854775807 := rfl
    refine ⟨(List.range len).map f, by simp, hl, by omega, ⟨by simp, by omega, fun _ => ⟨a, rfl, fun j p hj => ?_⟩⟩, fun y hy => ?_⟩
    · obtain ⟨h6, h7⟩ := List.getElem?_eq_some_iff.1 hj
      simp at h6 h7
      subst h7
      obtain ⟨cs', h2, h4⟩ := (hf j h6).1
      obtain ⟨_, hlen, hcell⟩ := World.cells?_some h2
      refine ⟨cs', by rw [hlen, hc], h4, fun i u hu => ?_⟩
      have hi : i < P.cellsOf e := by rw [← hlen]; exact (List.getElem?_eq_some_iff.1 hu).1
      have h8 := hcell i hi
      rw [hu] at h8
      rw [← h8, ← hc]
      congr 1
      exact (Go.Deep.add_add _ _ _).symm
    · simp at hy
      obtain ⟨i, hi, rfl⟩ := hy
      exact (hf i hi).2
end
end Go.Proofs.Ytobdfehpbgcloaa.O

/- The law TrieAll, walked by hand. -/
namespace Go.Proofs.Ytobdfehpbgcloaa.GL
open Go.RowKit Go.Proofs.YtobdfehpbgcloaaW.PrintWords Go.Proofs.YtobdfehpbgcloaaW.PrintLast Go.Proofs.YtobdfehpbgcloaaW.PrintMore Go.Proofs.Ytobdfehpbgcloaa.Q Go.Proofs.Ytobdfehpbgcloaa.XTri Go.Proofs.Ytobdfehpbgcloaa.G
set_option linter.unusedVariables false
set_option linter.unusedSimpArgs false
theorem rankI_found {ls : List Int} {i : Nat} {y : Int} (hy : ls[i]? = some y) (hl : ls.length ≤ 4096) (hp : ls.Pairwise (· < ·)) (hu : U64s ls) : rankI (treeG 64 ls) y (ls.length : Int) = some (i : Int) := by
  have h4 := rank_tree 64 ls [] [] i 0 y hy hl (OkT.all hp hu)
  unfold rankI
  rw [if_neg (by omega)]
  simpa using h4
def RkPost (w : World) (o : Option Int) (e : Ending) (w' : World) : Prop := e = .returned (skipR o) ∧ Drawn0 w w'
theorem ref_Rank {w : World} {A : Option Addr} {c m : Nat} {L : List Bool} (n h : Int) (hm : m = L.length) (hC : Kd.C Kd.bool w A m L) (hc : m ≤ c) (hl : L.length < 100000000000) (hh0 : 0 ≤ h) (hh1 : h < 18446744073709551616) (h0 : 0 ≤ n) (h1 : n ≤ 4096) :
    Calls Try.prog 11 #[.slice A m c, .int .i64 n, .int .u64 h] w (RkPost w (rankI L h n)) := by
  subst hm
  obtain ⟨k, hk⟩ := (rankF_ev L h n hl hh0 hh1 h0 h1).rounds
  have := loessref6_Rank.calls k A c L n h (numP (rankI L h n)).1 (numP (rankI L h n)).2 w hC hc hk
  refine this.mono ?_
  rintro e w' ⟨rfl, hd⟩
  refine ⟨?_, hd⟩
  cases rankI L h n <;> rfl
set_option maxRecDepth 1000000 in
set_option maxHeartbeats 8000000 in
theorem TrieAll.core (A0 : Option Addr) (len0 c0 : Nat) (l : List Int) (near : Bool) (ask : Int) (w : World) (hlen : len0 = l.length) (hC0 : Kd.C (Kd.int .u64) w A0 len0 l) (hcm : len0 < 100000000000000) (hU0 : U64s l) (hx : 0 ≤ ask ∧ ask < 18446744073709551616) :
    Calls Try.prog 7 #[.slice A0 len0 c0, .bool near, .int .u64 ask] w fun e w' => e = .returned (.bool true) ∧ Below w.heap.size w w' := by
  have HB := Aside0.mk (Below.refl w.heap.size w)
  have HLEN := Aside0.mk hlen
  have HC := Aside0.mk hC0
  have HCM := Aside0.mk hcm
  have HU := Aside0.mk hU0
  have HAB := Aside0.mk hx
  clear hlen hC0 hcm hU0 hx
  go_enter Try.func7, Try.ntmps7
  go_wp2_with (first | (go_at_call 8; refine (law21_begun _).mono ?_; rintro e w11 ⟨rfl, hb⟩; have m2_ := Aside0.mk (below_step HB.out hb); clear HB; have HB := m2_; clear m2_ hb))
  (first | go_at_call 16 | skip)
  refine (law_Sorted near HLEN.out (Kd.C_below HC.out HB.out) HCM.out HU.out).mono ?_
  rintro e w2 ⟨v, S, rfl, hR, hS, hl, hb⟩
  obtain ⟨A, c, rfl, hnc, hC⟩ := Kd.R_reads hR
  have HB2 := Aside0.mk (below_step HB.out hb)
  clear HB
  have HB := HB2
  clear HB2
  obtain ⟨M, hM⟩ : ∃ M, M = S.length := ⟨_, rfl⟩
  rw [← hM] at hnc hC ⊢
  obtain ⟨T, hT⟩ : ∃ T, T = treeG 64 S := ⟨_, rfl⟩
  have HM := Aside0.mk hM
  have HCS := Aside0.mk hC
  have HNC := Aside0.mk hnc
  have HS := Aside0.mk hS
  have HUS := Aside0.mk hS.2
  have HMB := Aside0.mk (show M < 1000000000 by omega)
  have HBT := Aside0.mk (show buildT S = some T by rw [hT]; exact if_pos ⟨by omega, hS.1⟩)
  have HTL := Aside0.mk (show T.length < 100000000000 by
    have := treeG_le 64 S (by omega)
    rw [hT]
    omega)
  have HCH := Aside0.mk (show checkT T (M : Int) = true by rw [hT, hM]; exact check_tree (by omega) hS.1 hS.2)
  have HFD := Aside0.mk (fun (i : Nat) (y : Int) (hy : S[i]? = some y) => (show rankI T y (M : Int) = some (i : Int) by rw [hT, hM]; exact rankI_found hy (by omega) hS.1 hS.2))
  obtain ⟨kt, hkt⟩ := (tree_ev 64 S 0 rfl (by omega) (by omega) (OkT.all hS.1 hS.2) hS.2).rounds
  rw [← hT] at hkt
  have HKT := Aside0.mk hkt
  have HM0 := Aside0.mk (show (0 : Int) ≤ (M : Int) by omega)
  have HM4 := Aside0.mk (show (M : Int) ≤ 4096 by omega)
  have HM40 := Aside0.mk (show M ≤ 40 by omega)
  have hmz : (M : Int) ≤ 40 := by omega
  obtain ⟨rk, hrk⟩ : ∃ r, r = rankI T ask (M : Int) := ⟨_, rfl⟩
  have HRK := Aside0.mk hrk.symm
  clear hR hS hl hb hnc hC hM hT hkt hrk
  go_wp2_with (first
    | (go_at_call 14; refine (trie_Build HM.out HCS.out HNC.out HMB.out HUS.out).mono ?_; rw [HBT.out]; rintro e w3 ⟨hb, p, rfl, hO⟩; have HBO := Aside0.mk hO.toP; have m1_ := Aside0.mk (Kd.C_below HCS.out hb); have n1_ := Aside0.mk (below_step HB.out hb); clear HB HCS hO hb; have HB := n1_; have HCS := m1_; clear n1_ m1_)
    | (go_at_call 17; (have hcall := loessref6_Tree.calls kt A c S 0 T _ (by rw [← HM.out]; exact HCS.out) (by rw [← HM.out]; exact HNC.out) HKT.out); rw [← HM.out] at hcall; refine hcall.mono ?_; clear hcall; rintro e w9 ⟨v9, rfl, hR, hb⟩; obtain ⟨A9, c9, rfl, hn9, hC9⟩ := Kd.R_reads hR; have HC9 := Aside0.mk hC9; have HN9 := Aside0.mk hn9; have m0_ := Aside0.mk (HBO.out.below hb); have m1_ := Aside0.mk (Kd.C_below HCS.out hb); have n1_ := Aside0.mk (below_step HB.out hb); clear HB HCS HBO hR hb hC9 hn9; have HB := n1_; have HCS := m1_; have HBO := m0_; clear n1_ m1_ m0_)
    | (go_at_call 18; refine (law_Same rfl HBO.out HC9.out HN9.out HTL.out).mono ?_; rintro e w5 ⟨rfl, hb⟩; have m0_ := Aside0.mk (HBO.out.below hb); have m1_ := Aside0.mk (Kd.C_below HCS.out hb); have m2_ := Aside0.mk (Kd.C_below HC9.out hb); have n1_ := Aside0.mk (below_step HB.out hb); clear HB HCS HBO HC9 hb; have HB := n1_; have HCS := m1_; have HBO := m0_; have HC9 := m2_; clear n1_ m1_ m0_ m2_)
    | (go_at_call 13; refine (trie_Check _ HBO.out HTL.out).mono ?_; rw [HCH.out]; rintro e w' ⟨rfl, rfl⟩))
  go_loop [11] (fun v11 => ∃ (i : Nat), v11 = .int .i64 i ∧ i ≤ M) (fun v => M - (intOf v).toNat)
  case atStart => exact ⟨0, by first | rfl | go_num, Nat.zero_le _⟩
  case round =>
    obtain ⟨i, rfl, hi⟩ := hrel
    by_cases hlt : i < M
    · have hlz : (i : Int) < (M : Int) := by omega
      have h1 := decide_eq_true hlz
      have h2 := decide_eq_true hlt
      have hi40 : (i : Int) < 40 := by omega
      obtain ⟨ad, e, hx⟩ := Kd.at_int HCS.out (i : Int) (Int.natCast_nonneg _) hlz
      cases e
      obtain ⟨y, hy⟩ : ∃ y, y = S.getD i 0 := ⟨_, rfl⟩
      replace hx : w5.cell? (ad.add i) = some (.int .u64 y) := by rw [hy]; exact hx
      have hil : i < S.length := by rw [← HM.out]; exact hlt
      have hyg : S[i]? = some y := by rw [hy, List.getD_eq_getElem?_getD, List.getElem?_eq_getElem hil]; rfl
      have HRF := Aside0.mk (HFD.out i y hyg)
      have HYB := Aside0.mk (HUS.out y (List.mem_of_getElem? hyg))
      have hbb : ((i : Int) == (i : Int)) = true := beq_self_eq_true _
      have HLT := Aside0.mk hlt
      clear hy hil hyg hlt hi
      go_wp2_with (first
        | (go_at_call 10; refine (trie_Rank (h := y) _ HBO.out HTL.out HYB.out.1 HYB.out.2).mono ?_; rw [HRF.out]; rintro e w' ⟨rfl, rfl⟩; simp only [skipR]))
      go_round
      case rel => exact ⟨i + 1, by first | rfl | go_num, HLT.out⟩
      case measure => have := HLT.out; simp [intOf]; omega
    · have h1 : decide ((i : Int) < (M : Int)) = false := decide_eq_false (by omega)
      have h2 := decide_eq_false hlt
      clear hlt hi
      rcases rk with _ | r
      · skip
        go_wp2_with (first
          | (go_at_call 10; refine (trie_Rank (h := ask) _ HBO.out HTL.out HAB.out.1 HAB.out.2).mono ?_; rw [HRK.out]; rintro e w' ⟨rfl, rfl⟩; simp only [skipR])
          | (go_at_call 11; refine (ref_Rank _ _ rfl HC9.out HN9.out HTL.out HAB.out.1 HAB.out.2 HM0.out HM4.out).mono ?_; rw [HRK.out]; rintro e w' ⟨rfl, ⟨nd, rfl⟩⟩; simp only [skipR]))
        go_ret
        exact ⟨rfl, pw_below_drewN HB.out _⟩
      · skip
        go_wp2_with (first
          | (go_at_call 10; refine (trie_Rank (h := ask) _ HBO.out HTL.out HAB.out.1 HAB.out.2).mono ?_; rw [HRK.out]; rintro e w' ⟨rfl, rfl⟩; simp only [skipR])
          | (go_at_call 11; refine (ref_Rank _ _ rfl HC9.out HN9.out HTL.out HAB.out.1 HAB.out.2 HM0.out HM4.out).mono ?_; rw [HRK.out]; rintro e w' ⟨rfl, ⟨nd, rfl⟩⟩; simp only [skipR]))
        go_ret
        exact ⟨rfl, pw_below_drewN HB.out _⟩
theorem TrieAll.walk (P : True) (a0 : Option Addr) (len0 cap0 : Nat) (z0 : List Int) (near : Bool) (ask : Int) (w : World) (w0 : (a0 = none ∧ len0 = 0 ∧ cap0 = 0 ∧ z0 = []) ∨ ∃ x, a0 = some x ∧ len0 ≤ cap0 ∧ cap0 ≤ maxLen ∧ z0.length = cap0 ∧ (∀ i, i < z0.length → w.cell? (x.add i) = some (.int .u64 (z0.getD i 0))) ∧ ∀ n ∈ z0, (Lit.int .u64 n).wf = true) (y0 : len0 * 8 ≤ 140737488351232) (w2 : (Lit.int .u64 ask).wf = true) :
    Calls Try.prog 7 #[.slice a0 len0 cap0, .bool near, .int .u64 ask] w fun e w' => e = .returned (.bool true) ∧ Below w.heap.size w w' := by
  obtain ⟨l0, rfl, hr0, hm0, hw0, hc0⟩ := ReadsInt.ofRowC w0
  exact TrieAll.core _ _ _ l0 near ask w rfl (Kd.C_of_reads (d := (0 : Int)) (h1 := fun _ => rfl) hr0) (by omega) (fun x hx => wfU64 (hw0 x hx)) (wfU64 w2)
end Go.Proofs.Ytobdfehpbgcloaa.GL
