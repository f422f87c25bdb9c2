/- The law HashRunes' pure statement, with no condition of its own: two texts of the same runes have one hash, whatever their bytes are. -/
import Derived.Test.YtoachfoaknlemaaQHashBegun
import Derived.Test.YtoachfoaknlemaaXHashx15
set_option linter.unusedVariables false
set_option linter.unusedSimpArgs false
namespace Go.Proofs.Ytoachfoaknlemaa.Pure
open Go.RowKit Go.Proofs.YtoachfoaknlemaaW.PrintWords Go.Proofs.YtoachfoaknlemaaW.PrintMore Go.Proofs.Ytoachfoaknlemaa.G Go.Proofs.Ytoachfoaknlemaa.XHash Go.Proofs.Ytoachfoaknlemaa.Q
/-- Behind bytes stands one that goes on with no rune: it turns none of theirs. -/
theorem dec_stop {l : List Int} (hl : 0 < l.length) {c : Int} (hc : ¬ Cont c) (m : List Int) : dec (l ++ c :: m) = dec l := by
  by_cases h1 : (dec l).2.2 = true
  · exact dec_append h1 hl _
  · have hb := dec_bad (by simpa using h1)
    rw [hb]
    by_cases h2 : (dec (l ++ c :: m)).2.2 = true
    · exfalso
      by_cases h3 : (dec (l ++ c :: m)).2.1 ≤ l.length
      · have e := dec_take h2 (by simp only [List.length_append, List.length_cons]; omega) (l.drop (dec (l ++ c :: m)).2.1)
        rw [List.take_append_of_le_length h3, List.take_append_drop] at e
        rw [← e] at h2
        exact h1 h2
      · have g : (l ++ c :: m).getD l.length 0 = c := by simp [List.getD_eq_getElem?_getD]
        have hlt : l.length < (dec (l ++ c :: m)).2.1 := by omega
        rcases dec_cases (l ++ c :: m) with h4 | ⟨_, h4 | h4 | h4 | h4⟩
        · rw [h4] at h2; cases h2
        · omega
        · have : l.length = 1 := by omega
          rw [this] at g
          rw [g] at h4
          exact hc h4.2.2.2.2.1
        · rcases (show l.length = 1 ∨ l.length = 2 by omega) with h | h <;> rw [h] at g <;> rw [g] at h4
          · exact hc h4.2.2.2.2.1
          · exact hc h4.2.2.2.2.2.1
        · rcases (show l.length = 1 ∨ l.length = 2 ∨ l.length = 3 by omega) with h | h | h <;> rw [h] at g <;> rw [g] at h4
          · exact hc h4.2.2.2.2.1
          · exact hc h4.2.2.2.2.2.1
          · exact hc h4.2.2.2.2.2.2.1
    · exact dec_bad (by simpa using h2)
theorem ds_stop {c : Int} (hc : ¬ Cont c) (m : List Int) (hb : dec (c :: m) = bad) : ∀ (n : Nat) (l : List Int), l.length ≤ n → ds (l ++ c :: m) = ds l ++ bad :: ds m := by
  intro n
  induction n with
  | zero =>
    intro l hl
    obtain rfl : l = [] := List.eq_nil_of_length_eq_zero (by omega)
    rw [List.nil_append, ds_nil, ds_cons (by simp), hb]
    rfl
  | succ n ih =>
    intro l hl
    by_cases h : l = []
    · subst h
      rw [List.nil_append, ds_nil, ds_cons (by simp), hb]
      rfl
    · have h0 := List.length_pos_iff.2 h
      have h1 := dec_width l
      have h2 := dec_fits h0
      rw [ds_cons (show l ++ c :: m ≠ [] by simp), dec_stop h0 hc, List.drop_append_of_le_length h2, ih _ (by simp only [List.length_drop]; omega)]
      conv => rhs; rw [ds_cons h]
      rfl
theorem bad_ff (m : List Int) : dec (255 :: m) = bad := by
  unfold dec
  simp only [List.getD_cons_zero]
  rw [if_neg (by omega), if_neg (by omega), if_neg (by omega), if_neg (by omega)]
theorem bad_c0 (c : Int) (hc : c = 192 ∨ c = 193) (m : List Int) : dec (c :: m) = bad := by
  unfold dec
  simp only [List.getD_cons_zero]
  rw [if_neg (by omega), if_pos (by omega)]
  split
  · rename_i h
    unfold Cont at h
    unfold fin
    rw [if_pos (by omega)]
  · rfl
theorem HashRunes : loesslaw9_HashRunes.Pure := by
  intro a at_ x ha hat hx
  have hat' := wfI64 hat
  have hx' := wfU8 hx
  obtain ⟨s, hs, hs1, hs2⟩ := cut3_eq a 30
  refine Ev.rounds ?_
  unfold loesslaw9_HashRunes.f
  refine hash_then ?_
  rw [show ((30 : Int)) = ((30 : Nat) : Int) from rfl, hs]
  simp only [Option.bind_some]
  have hj : ∀ k, (if at_ < 0 then loesslaw9_HashRunes.j0 k s at_ x true else loesslaw9_HashRunes.j0 k s at_ x (decide (at_ > (s.size : Int)))) = loesslaw9_HashRunes.j0 k s at_ x (decide (at_ < 0 ∨ at_ > (s.size : Int))) := by
    intro k
    by_cases h : at_ < 0
    · rw [if_pos h]; congr 1; simp [h]
    · rw [if_neg h]; congr 1; simp [h]
  refine Ev.congr hj ?_
  by_cases h : at_ < 0 ∨ at_ > (s.size : Int)
  · refine Ev.step (f := fun _ => some true) (fun k => ?_) (Ev.now _)
    simp only [loesslaw9_HashRunes.j0]
    rw [if_pos (by simp [h])]
  · obtain ⟨i, rfl⟩ := Int.eq_ofNat_of_zero_le (show 0 ≤ at_ by omega)
    have hand : Go.bits .and .u8 x 1 = x % 2 := bits_mask .u8 8 (by decide) wraps_u8 1 (by decide) x hx'.1 (by omega)
    have hor : Go.bits .or .u8 192 (x % 2) = 192 + x % 2 := u8_or192 _ (by omega) (by omega)
    have z1 : (s.extract 0 i).size ≤ 30 := by rw [ByteArray.size_extract]; omega
    have z2 : (s.extract i s.size).size ≤ 30 := by rw [ByteArray.size_extract]; omega
    have zc : ∀ c : Int, (strOfNums [c]).size = 1 := fun c => by rw [strOfNums_size]; rfl
    have zz : ∀ p q : ByteArray, (p ++ q).size = p.size + q.size := fun p q => by rw [size_of_bytes, bytesOf_append, List.length_append, ← size_of_bytes, ← size_of_bytes]
    have hD : ∀ c : Int, 0 ≤ c → c < 256 → ¬ Cont c → (∀ m, dec (c :: m) = bad) → D (s.extract 0 i ++ strOfNums [c] ++ s.extract i s.size) = ds (bytesOf (s.extract 0 i)) ++ bad :: ds (bytesOf (s.extract i s.size)) := by
      intro c h0 h1 hc hb
      unfold D
      rw [bytesOf_append, bytesOf_append, bytesOf_str (Byt.cons h0 h1 Byt.nil), List.append_assoc]
      exact ds_stop hc _ (hb _) _ _ (Nat.le_refl _)
    have hDa := hD 255 (by omega) (by omega) (by unfold Cont; omega) bad_ff
    have hDb := hD (192 + x % 2) (by omega) (by omega) (by unfold Cont; omega) (bad_c0 _ (by omega))
    have hab : H (s.extract 0 i ++ strOfNums [192 + x % 2] ++ s.extract i s.size) = H (s.extract 0 i ++ strOfNums [255] ++ s.extract i s.size) := by unfold H; rw [hDa, hDb]
    have ga := hash_ev (s := s.extract 0 i ++ strOfNums [255] ++ s.extract i s.size) (by rw [zz, zz, zc]; omega)
    have gb := hash_ev (s := s.extract 0 i ++ strOfNums [192 + x % 2] ++ s.extract i s.size) (by rw [zz, zz, zc]; omega)
    have gr := refHash_ev (s := s.extract 0 i ++ strOfNums [255] ++ s.extract i s.size) (by rw [zz, zz, zc]; omega)
    rw [hab] at gb
    refine Ev.step (f := fun k => (hash_Of.f k (s.extract 0 i ++ strOfNums [255] ++ s.extract i s.size)).bind fun p => (hash_Of.f k (s.extract 0 i ++ strOfNums [192 + x % 2] ++ s.extract i s.size)).bind fun q => if p = q then ((hash_Of.f k (s.extract 0 i ++ strOfNums [255] ++ s.extract i s.size)).bind fun u => (loessref6_Hash.f k (s.extract 0 i ++ strOfNums [255] ++ s.extract i s.size)).bind fun v => some (u == v)) else some false) (fun k => ?_) ?_
    · simp only [loesslaw9_HashRunes.j0, Option.bind_some]
      rw [if_neg (by simpa using h), if_pos (by omega), if_pos (by omega), hand, hor, Int.toNat_natCast]
      rw [if_pos (by rw [zc]; omega), if_pos (by rw [zz, zc]; omega), if_pos (by rw [zc]; omega), if_pos (by rw [zz, zc]; omega)]
    · refine Ev.bind ga (Ev.bind gb ?_)
      refine Ev.congr (fun k => if_pos rfl) (Ev.bind ga (Ev.bind gr (evC ?_)))
      simp
end Go.Proofs.Ytoachfoaknlemaa.Pure
