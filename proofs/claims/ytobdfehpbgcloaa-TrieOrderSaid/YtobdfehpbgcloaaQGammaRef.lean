/- The document's bits and small numbers in plain Lean: Bits.Num, GetGamma of the references answer as numAt, getG. -/
import Derived.Test.YtobdfehpbgcloaaGGamma
import Derived.Test.YtobdfehpbgcloaaXTrix17
import Derived.Test.YtobdfehpbgcloaaXTrix18
set_option linter.unusedVariables false
set_option linter.unusedSimpArgs false
namespace Go.Proofs.Ytobdfehpbgcloaa.GL
open Go.RowKit Go.Proofs.YtobdfehpbgcloaaW.PrintWords Go.Proofs.YtobdfehpbgcloaaW.PrintMore Go.Proofs.Ytobdfehpbgcloaa.Q Go.Proofs.Ytobdfehpbgcloaa.XTri
def numP (o : Option Int) : Int × Bool := (o.getD 0, o.isSome)
theorem num_l0 (L : List Bool) (i n : Nat) (hl : L.length < 100000000000) (hn : n ≤ 64) (hi : i + n ≤ L.length) :
    ∀ d k, n = k + d → Ev (fun r => loessref6_Bits_Num.l0 r L (i : Int) (n : Int) (numOf ((L.drop i).take k)) (k : Int)) (numOf ((L.drop i).take n), true) := by
  intro d
  induction d with
  | zero =>
    intro k hk
    obtain rfl : n = k := hk
    refine Ev.step (f := fun _ => some (numOf ((L.drop i).take n), true)) (fun r => ?_) (Ev.now _)
    simp only [loessref6_Bits_Num.l0]
    rw [if_neg (by omega)]
  | succ d ih =>
    intro k hk
    have hkl : k < (L.drop i).length := by rw [List.length_drop]; omega
    have hbd := numOf_bd k ((L.drop i).take k) (by rw [List.length_take]; omega)
    have h2p : (2 : Int) ^ k ≤ 2 ^ 63 := by have := Nat.pow_le_pow_right (n := 2) (by decide) (show k ≤ 63 by omega); exact_mod_cast this
    have e63 : (2 : Int) ^ 63 = 9223372036854775808 := rfl
    have hw : wrap64 ((i : Int) + (k : Int)) = ((i + k : Nat) : Int) := by rw [w64 (by omega) (by omega)]; rfl
    have hw1 : wrap64 ((k : Int) + 1) = ((k + 1 : Nat) : Int) := by rw [w64 (by omega) (by omega)]; rfl
    have hsh : IntKind.u64.wrap (numOf ((L.drop i).take k) * 2) = numOf ((L.drop i).take k) * 2 := u64 (by omega) (by omega)
    have hsh1 : IntKind.u64.wrap (numOf ((L.drop i).take k) * 2 + 1) = numOf ((L.drop i).take k) * 2 + 1 := u64 (by omega) (by omega)
    have hrd : rdOf false L ((i + k : Nat) : Int) = (L.drop i)[k] := by
      unfold rdOf
      rw [Int.toNat_natCast, List.getElem_drop, List.getD_eq_getElem?_getD, List.getElem?_eq_getElem (by omega)]
      rfl
    have hs : numOf ((L.drop i).take (k + 1)) = 2 * numOf ((L.drop i).take k) + if (L.drop i)[k] = true then 1 else 0 := by
      rw [List.take_succ_eq_append_getElem hkl, numOf_snoc]
    refine Ev.step (f := fun r => loessref6_Bits_Num.l0 r L (i : Int) (n : Int) (numOf ((L.drop i).take (k + 1))) ((k + 1 : Nat) : Int)) (fun r => ?_) (ih (k + 1) (by omega))
    simp only [loessref6_Bits_Num.l0]
    rw [if_pos (by omega), hw, if_pos (by omega), if_pos (by omega), hrd, hw1, hsh, hsh1, hs]
    cases (L.drop i)[k]
    · rw [if_neg (by simp)]
      simp only [Bool.false_eq_true, if_false, Int.add_zero]
      rw [Int.mul_comm]
    · rw [if_pos rfl]
      simp only [if_true]
      rw [Int.mul_comm]
theorem num_ev (L : List Bool) (i n : Int) (hl : L.length < 100000000000) : Ev (fun r => loessref6_Bits_Num.f r L i n) (numP (numAt L i n)) := by
  unfold loessref6_Bits_Num.f
  have hbad : ∀ {i n : Int}, numAt L i n = none → Ev (fun r => loessref6_Bits_Num.j0 r L i n true) (numP (numAt L i n)) := by
    intro i n h
    rw [h]
    refine Ev.step (f := fun _ => some (0, false)) (fun r => ?_) (Ev.now _)
    simp only [loessref6_Bits_Num.j0]
    exact if_pos trivial
  by_cases h1 : i < 0
  · simp only [if_pos h1]
    exact hbad (if_neg (by omega))
  · simp only [if_neg h1]
    by_cases h2 : n < 0
    · simp only [if_pos h2]
      exact hbad (if_neg (by omega))
    · simp only [if_neg h2]
      by_cases h3 : n > 64
      · simp only [if_pos h3]
        exact hbad (if_neg (by omega))
      · simp only [if_neg h3]
        by_cases h4 : i > (L.length : Int)
        · simp only [if_pos h4]
          exact hbad (if_neg (by omega))
        · simp only [if_neg h4]
          have hw : wrap64 ((L.length : Int) - i) = (L.length : Int) - i := w64 (by omega) (by omega)
          rw [hw]
          by_cases h5 : n > (L.length : Int) - i
          · rw [decide_eq_true h5]
            exact hbad (if_neg (by omega))
          · rw [decide_eq_false h5]
            obtain ⟨i, rfl⟩ := Int.eq_ofNat_of_zero_le (show 0 ≤ i by omega)
            obtain ⟨n, rfl⟩ := Int.eq_ofNat_of_zero_le (show 0 ≤ n by omega)
            have e : numAt L (i : Int) (n : Int) = some (numOf ((L.drop i).take n)) := if_pos ⟨by omega, by omega, by omega, by omega⟩
            rw [e]
            refine Ev.step (f := fun r => loessref6_Bits_Num.l0 r L (i : Int) (n : Int) 0 0) (fun r => ?_) ?_
            · simp only [loessref6_Bits_Num.j0]
              rw [if_neg (by simp)]
            · have := num_l0 L i n hl (by omega) (by omega) n 0 (by omega)
              exact this
def getP (at_ : Int) : Option (Int × Int) → Int × Int × Bool
  | some (x, e) => (x, e, true)
  | none => (0, at_, false)
theorem numOf_pos (L : List Bool) (i n : Nat) (hn : 0 < n) (hb : L.getD i false = true) (hi : i < L.length) : 0 < numOf ((L.drop i).take n) := by
  obtain ⟨m, rfl⟩ : ∃ m, n = m + 1 := ⟨n - 1, by omega⟩
  clear hn
  induction m with
  | zero =>
    rw [List.drop_eq_getElem_cons hi]
    rw [List.getD_eq_getElem?_getD, List.getElem?_eq_getElem hi] at hb
    simp at hb
    simp [numOf, hb]
  | succ m ih =>
    by_cases h : m + 1 < (L.drop i).length
    · rw [List.take_succ_eq_append_getElem h, numOf_snoc]
      split <;> omega
    · rw [List.take_of_length_le (by omega)]
      rw [List.take_of_length_le (by omega)] at ih
      exact ih
theorem get_j1 (L : List Bool) (i z : Nat) (hl : L.length < 100000000000) (hi : i < L.length) (hz : z = zeros (L.drop i) 64) :
    Ev (fun r => loessref6_GetGamma.j1 r L (i : Int) (z : Int)) (getP i (getG L i)) := by
  have hsp := zeros_spec (L.drop i) 64
  rw [← hz] at hsp
  have hg : getG L i = if z = 64 then none else (numAt L ((i : Int) + (z : Int)) ((z : Int) + 1)).map fun x => (x, (i : Int) + 2 * (z : Int) + 1) := by
    unfold getG
    rw [if_neg (by omega), Int.toNat_natCast, ← hz]
  have hzl : z ≤ L.length - i := by rw [← List.length_drop]; exact hsp.2.1
  by_cases h64 : z = 64
  · rw [hg, if_pos h64]
    refine Ev.step (f := fun _ => some (0, (i : Int), false)) (fun r => ?_) (Ev.now _)
    simp only [loessref6_GetGamma.j1]
    rw [if_pos (by omega)]
  · have hw : Aside0 (wrap64 ((i : Int) + (z : Int)) = (i : Int) + (z : Int)) := ⟨w64 (by omega) (by omega)⟩
    have hw1 : Aside0 (wrap64 ((z : Int) + 1) = (z : Int) + 1) := ⟨w64 (by omega) (by omega)⟩
    have hw2 : Aside0 (wrap64 (2 * (z : Int)) = 2 * (z : Int)) := ⟨w64 (by omega) (by omega)⟩
    have hw3 : Aside0 (wrap64 ((i : Int) + 2 * (z : Int)) = (i : Int) + 2 * (z : Int)) := ⟨w64 (by omega) (by omega)⟩
    have hw4 : Aside0 (wrap64 ((i : Int) + 2 * (z : Int) + 1) = (i : Int) + 2 * (z : Int) + 1) := ⟨w64 (by omega) (by omega)⟩
    refine Ev.step (f := fun r => (loessref6_Bits_Num.f r L ((i : Int) + (z : Int)) ((z : Int) + 1)).bind fun bt => if bt.2 = true then (if bt.1 = 0 then some (0, (i : Int), false) else some (bt.1, (i : Int) + 2 * (z : Int) + 1, true)) else some (0, (i : Int), false)) (fun r => ?_) ?_
    · simp only [loessref6_GetGamma.j1]
      rw [if_neg (by omega), hw.out, hw1.out, hw2.out, hw3.out, hw4.out]
    · refine Ev.bind (num_ev L _ _ hl) ?_
      rw [hg, if_neg h64]
      cases hn : numAt L ((i : Int) + (z : Int)) ((z : Int) + 1) with
      | none => exact Ev.now _
      | some x =>
        have hx : 0 < x := by
          unfold numAt at hn
          split at hn
          · rename_i hc
            injection hn with hn
            rw [← hn]
            have e1 : ((i : Int) + (z : Int)).toNat = i + z := by omega
            have e2 : ((z : Int) + 1).toNat = z + 1 := by omega
            rw [e1, e2]
            refine numOf_pos L (i + z) (z + 1) (by omega) ?_ (by omega)
            have := hsp.2.2.2 (by omega) (by rw [List.length_drop]; omega)
            rw [List.getD_eq_getElem?_getD, List.getElem?_drop, ← List.getD_eq_getElem?_getD] at this
            exact this
          · cases hn
        refine Ev.congr (f := fun _ => some (getP i (Option.map (fun x => (x, (i : Int) + 2 * (z : Int) + 1)) (some x)))) (fun r => ?_) (Ev.now _)
        have h0 : ¬ (numP (some x)).1 = 0 := by show ¬ x = 0; omega
        have h1 : (numP (some x)).2 = true := rfl
        rw [if_pos h1, if_neg h0]
        rfl
theorem get_l0 (L : List Bool) (i z : Nat) (hl : L.length < 100000000000) (hi : i < L.length) (hz : z = zeros (L.drop i) 64) :
    ∀ d k, z = k + d → Ev (fun r => loessref6_GetGamma.l0 r L (i : Int) (k : Int)) (getP i (getG L i)) := by
  have hsp := zeros_spec (L.drop i) 64
  rw [← hz] at hsp
  have hzl : z ≤ L.length - i := by rw [← List.length_drop]; exact hsp.2.1
  intro d
  induction d with
  | zero =>
    intro k hk
    obtain rfl : z = k := hk
    have hw : Aside0 (wrap64 ((i : Int) + (z : Int)) = ((i + z : Nat) : Int)) := ⟨by rw [w64 (by omega) (by omega)]; rfl⟩
    refine Ev.step (f := fun r => loessref6_GetGamma.j1 r L (i : Int) (z : Int)) (fun r => ?_) (get_j1 L i z hl hi hz)
    simp only [loessref6_GetGamma.l0]
    by_cases h64 : (z : Int) < 64
    · rw [if_pos h64, hw.out]
      by_cases hend : ((i + z : Nat) : Int) < (L.length : Int)
      · rw [if_pos hend, if_pos (by omega)]
        have := hsp.2.2.2 (by omega) (by rw [List.length_drop]; omega)
        rw [List.getD_eq_getElem?_getD, List.getElem?_drop, ← List.getD_eq_getElem?_getD] at this
        rw [if_pos (show rdOf false L ((i + z : Nat) : Int) = true from this)]
      · rw [if_neg hend]
    · rw [if_neg h64]
  | succ d ih =>
    intro k hk
    have hw : Aside0 (wrap64 ((i : Int) + (k : Int)) = ((i + k : Nat) : Int)) := ⟨by rw [w64 (by omega) (by omega)]; rfl⟩
    have hw1 : Aside0 (wrap64 ((k : Int) + 1) = ((k + 1 : Nat) : Int)) := ⟨by rw [w64 (by omega) (by omega)]; rfl⟩
    refine Ev.step (f := fun r => loessref6_GetGamma.l0 r L (i : Int) ((k + 1 : Nat) : Int)) (fun r => ?_) (ih (k + 1) (by omega))
    simp only [loessref6_GetGamma.l0]
    have := hsp.2.2.1 k (by omega)
    rw [List.getD_eq_getElem?_getD, List.getElem?_drop, ← List.getD_eq_getElem?_getD] at this
    have hrd : rdOf false L ((i + k : Nat) : Int) = false := this
    rw [if_pos (by omega), hw.out, if_pos (by omega), if_pos (by omega), hrd, if_neg (by simp), hw1.out]
theorem getGamma_ev (L : List Bool) (at_ : Int) (hl : L.length < 100000000000) (h1 : at_ < 9223372036854775808) : Ev (fun r => loessref6_GetGamma.f r L at_) (getP at_ (getG L at_)) := by
  unfold loessref6_GetGamma.f
  by_cases h0 : at_ < 0
  · simp only [if_pos h0]
    have e : getG L at_ = none := if_pos h0
    rw [e]
    exact Ev.now _
  · simp only [if_neg h0]
    by_cases hi : at_ < (L.length : Int)
    · obtain ⟨i, rfl⟩ := Int.eq_ofNat_of_zero_le (show 0 ≤ at_ by omega)
      exact get_l0 L i _ hl (by omega) rfl (zeros (L.drop i) 64) 0 (by omega)
    · have e : getG L at_ = none := by
        unfold getG
        rw [if_neg h0, List.drop_of_length_le (by omega)]
        have e : zeros ([] : List Bool) 64 = 0 := rfl
        rw [e, if_neg (by decide), numAt_none (by omega)]
        rfl
      rw [e]
      have hw : Aside0 (wrap64 (at_ + 0) = at_) := ⟨by rw [w64 (by omega) (by omega)]; omega⟩
      have hw1 : Aside0 (wrap64 (0 + 1) = 1) := ⟨w64 (by decide) (by decide)⟩
      refine Ev.step (f := fun r => loessref6_GetGamma.j1 r L at_ 0) (fun r => ?_) ?_
      · simp only [loessref6_GetGamma.l0]
        rw [if_pos (by decide), hw.out, if_neg hi]
      · refine Ev.step (f := fun r => (loessref6_Bits_Num.f r L at_ 1).bind fun bt => if bt.2 = true then (if bt.1 = 0 then some (0, at_, false) else some (bt.1, wrap64 (wrap64 (at_ + wrap64 (2 * 0)) + 1), true)) else some (0, at_, false)) (fun r => ?_) ?_
        · simp only [loessref6_GetGamma.j1]
          rw [if_neg (by decide), hw.out, hw1.out]
        · refine Ev.bind (num_ev L _ _ hl) ?_
          rw [numAt_none (by omega)]
          exact Ev.now _
end Go.Proofs.Ytobdfehpbgcloaa.GL
