/- Runes of bytes, in plain Lean: what begins where; what is written of a rune; texts joined and cut. -/
import Derived.Test.YtbeoegdkoodlfaaQBase
import Derived.Laws.RangeAny
set_option linter.unusedVariables false
set_option linter.unusedSimpArgs false
namespace Go.Proofs.Ytbeoegdkoodlfaa.Q
open Go.RowKit Go.Proofs.YtbeoegdkoodlfaaW.PrintWords Go.Proofs.YtbeoegdkoodlfaaW.PrintMore
abbrev Rn := Int × Nat × Bool
def bad : Rn := (65533, 1, false)
def fin (x low : Int) (n : Nat) : Rn := if x < low ∨ x > 1114111 ∨ (55296 ≤ x ∧ x < 57344) then bad else (x, n, true)
def Cont (c : Int) : Prop := 128 ≤ c ∧ c ≤ 191
instance (c : Int) : Decidable (Cont c) := inferInstanceAs (Decidable (_ ∧ _))
/-- The first rune of bytes, how many bytes it has, and whether one begins. -/
def dec (l : List Int) : Rn :=
  if l.getD 0 0 < 128 then (l.getD 0 0, 1, true)
  else if 192 ≤ l.getD 0 0 ∧ l.getD 0 0 < 224 then (if 2 ≤ l.length ∧ Cont (l.getD 1 0) then fin ((l.getD 0 0 - 192) * 64 + (l.getD 1 0 - 128)) 128 2 else bad)
  else if 224 ≤ l.getD 0 0 ∧ l.getD 0 0 < 240 then (if 3 ≤ l.length ∧ Cont (l.getD 1 0) ∧ Cont (l.getD 2 0) then fin (((l.getD 0 0 - 224) * 64 + (l.getD 1 0 - 128)) * 64 + (l.getD 2 0 - 128)) 2048 3 else bad)
  else if 240 ≤ l.getD 0 0 ∧ l.getD 0 0 < 248 then (if 4 ≤ l.length ∧ Cont (l.getD 1 0) ∧ Cont (l.getD 2 0) ∧ Cont (l.getD 3 0) then fin ((((l.getD 0 0 - 240) * 64 + (l.getD 1 0 - 128)) * 64 + (l.getD 2 0 - 128)) * 64 + (l.getD 3 0 - 128)) 65536 4 else bad)
  else bad
theorem fin_cases (x low : Int) (n : Nat) : fin x low n = bad ∨ (fin x low n = (x, n, true) ∧ low ≤ x ∧ x ≤ 1114111 ∧ ¬ (55296 ≤ x ∧ x < 57344)) := by
  unfold fin
  split
  · exact .inl rfl
  · exact .inr ⟨rfl, by omega⟩
/-- What begins with bytes, by its width. -/
theorem dec_cases (l : List Int) : dec l = bad ∨ (dec l).2.2 = true ∧
    ((dec l).2.1 = 1 ∧ l.getD 0 0 < 128 ∧ (dec l).1 = l.getD 0 0 ∨
     (dec l).2.1 = 2 ∧ 2 ≤ l.length ∧ 192 ≤ l.getD 0 0 ∧ l.getD 0 0 < 224 ∧ Cont (l.getD 1 0) ∧ (dec l).1 = (l.getD 0 0 - 192) * 64 + (l.getD 1 0 - 128) ∧ 128 ≤ (dec l).1 ∨
     (dec l).2.1 = 3 ∧ 3 ≤ l.length ∧ 224 ≤ l.getD 0 0 ∧ l.getD 0 0 < 240 ∧ Cont (l.getD 1 0) ∧ Cont (l.getD 2 0) ∧ (dec l).1 = ((l.getD 0 0 - 224) * 64 + (l.getD 1 0 - 128)) * 64 + (l.getD 2 0 - 128) ∧ 2048 ≤ (dec l).1 ∧ ¬ (55296 ≤ (dec l).1 ∧ (dec l).1 < 57344) ∨
     (dec l).2.1 = 4 ∧ 4 ≤ l.length ∧ 240 ≤ l.getD 0 0 ∧ l.getD 0 0 < 248 ∧ Cont (l.getD 1 0) ∧ Cont (l.getD 2 0) ∧ Cont (l.getD 3 0) ∧ (dec l).1 = (((l.getD 0 0 - 240) * 64 + (l.getD 1 0 - 128)) * 64 + (l.getD 2 0 - 128)) * 64 + (l.getD 3 0 - 128) ∧ 65536 ≤ (dec l).1 ∧ (dec l).1 ≤ 1114111) := by
  by_cases h0 : l.getD 0 0 < 128
  · right
    have e : dec l = (l.getD 0 0, 1, true) := by unfold dec; rw [if_pos h0]
    rw [e]
    exact ⟨rfl, .inl ⟨rfl, h0, rfl⟩⟩
  · by_cases h2 : 192 ≤ l.getD 0 0 ∧ l.getD 0 0 < 224
    · by_cases hc : 2 ≤ l.length ∧ Cont (l.getD 1 0)
      · have e : dec l = fin ((l.getD 0 0 - 192) * 64 + (l.getD 1 0 - 128)) 128 2 := by unfold dec; rw [if_neg h0, if_pos h2, if_pos hc]
        rw [e]
        rcases fin_cases ((l.getD 0 0 - 192) * 64 + (l.getD 1 0 - 128)) 128 2 with h | ⟨h, h3⟩
        · exact .inl h
        · rw [h]; exact .inr ⟨rfl, .inr (.inl ⟨rfl, hc.1, h2.1, h2.2, hc.2, rfl, h3.1⟩)⟩
      · left; unfold dec; rw [if_neg h0, if_pos h2, if_neg hc]
    · by_cases h3 : 224 ≤ l.getD 0 0 ∧ l.getD 0 0 < 240
      · by_cases hc : 3 ≤ l.length ∧ Cont (l.getD 1 0) ∧ Cont (l.getD 2 0)
        · have e : dec l = fin (((l.getD 0 0 - 224) * 64 + (l.getD 1 0 - 128)) * 64 + (l.getD 2 0 - 128)) 2048 3 := by unfold dec; rw [if_neg h0, if_neg h2, if_pos h3, if_pos hc]
          rw [e]
          rcases fin_cases (((l.getD 0 0 - 224) * 64 + (l.getD 1 0 - 128)) * 64 + (l.getD 2 0 - 128)) 2048 3 with h | ⟨h, h4⟩
          · exact .inl h
          · rw [h]; exact .inr ⟨rfl, .inr (.inr (.inl ⟨rfl, hc.1, h3.1, h3.2, hc.2.1, hc.2.2, rfl, h4.1, h4.2.2⟩))⟩
        · left; unfold dec; rw [if_neg h0, if_neg h2, if_pos h3, if_neg hc]
      · by_cases h4 : 240 ≤ l.getD 0 0 ∧ l.getD 0 0 < 248
        · by_cases hc : 4 ≤ l.length ∧ Cont (l.getD 1 0) ∧ Cont (l.getD 2 0) ∧ Cont (l.getD 3 0)
          · have e : dec l = fin ((((l.getD 0 0 - 240) * 64 + (l.getD 1 0 - 128)) * 64 + (l.getD 2 0 - 128)) * 64 + (l.getD 3 0 - 128)) 65536 4 := by unfold dec; rw [if_neg h0, if_neg h2, if_neg h3, if_pos h4, if_pos hc]
            rw [e]
            rcases fin_cases ((((l.getD 0 0 - 240) * 64 + (l.getD 1 0 - 128)) * 64 + (l.getD 2 0 - 128)) * 64 + (l.getD 3 0 - 128)) 65536 4 with h | ⟨h, h5⟩
            · exact .inl h
            · rw [h]; exact .inr ⟨rfl, .inr (.inr (.inr ⟨rfl, hc.1, h4.1, h4.2, hc.2.1, hc.2.2.1, hc.2.2.2, rfl, h5.1, h5.2.1⟩))⟩
          · left; unfold dec; rw [if_neg h0, if_neg h2, if_neg h3, if_pos h4, if_neg hc]
        · left; unfold dec; rw [if_neg h0, if_neg h2, if_neg h3, if_neg h4]
theorem dec_width (l : List Int) : 1 ≤ (dec l).2.1 := by
  rcases dec_cases l with h | ⟨_, h | h | h | h⟩
  · rw [h]; exact Nat.le_refl _
  all_goals omega
theorem dec_fits {l : List Int} (hl : 0 < l.length) : (dec l).2.1 ≤ l.length := by
  rcases dec_cases l with h | ⟨_, h | h | h | h⟩
  · rw [h]; exact hl
  all_goals omega
theorem dec_bad {l : List Int} (h : (dec l).2.2 = false) : dec l = bad := by
  rcases dec_cases l with h1 | ⟨h1, _⟩
  · exact h1
  · rw [h1] at h; cases h
/-- None begins just where the odd rune has one byte. -/
theorem dec_ok_iff (l : List Int) (hb : Byt l) : (dec l).2.2 = false ↔ ((dec l).1 = 65533 ∧ (dec l).2.1 = 1) := by
  constructor
  · intro h; rw [dec_bad h]; exact ⟨rfl, rfl⟩
  · rintro ⟨h1, h2⟩
    rcases dec_cases l with h | ⟨_, h | h | h | h⟩
    · rw [h]; rfl
    · omega
    all_goals omega
/-- A rune hangs on its own bytes alone. -/
theorem dec_take {l : List Int} (h : (dec l).2.2 = true) (hl : 0 < l.length) (m : List Int) : dec (l.take (dec l).2.1 ++ m) = dec l := by
  have g : ∀ k, k < (dec l).2.1 → (l.take (dec l).2.1 ++ m).getD k 0 = l.getD k 0 := by
    intro k hk
    have := dec_fits hl
    simp only [List.getD_eq_getElem?_getD]
    rw [List.getElem?_append_left (by simp only [List.length_take]; omega), List.getElem?_take]
    rw [if_pos hk]
  have gl : (dec l).2.1 ≤ (l.take (dec l).2.1 ++ m).length := by
    have := dec_fits hl
    simp only [List.length_append, List.length_take]
    omega
  generalize hL : l.take (dec l).2.1 ++ m = L at g gl
  rcases dec_cases l with h1 | ⟨_, h1 | h1 | h1 | h1⟩
  · rw [h1] at h; cases h
  · rw [h1.1] at g gl
    have g0 := g 0 (by decide)
    have e : dec L = (l.getD 0 0, 1, true) := by unfold dec; rw [g0, if_pos h1.2.1]
    rw [e]
    ext1 <;> simp_all
    ext1 <;> simp_all
  · obtain ⟨w, w1, w2, w3, w4, w5, w6⟩ := h1
    rw [w] at g gl
    have g0 := g 0 (by decide)
    have g1 := g 1 (by decide)
    have e : dec L = fin ((l.getD 0 0 - 192) * 64 + (l.getD 1 0 - 128)) 128 2 := by unfold dec; rw [g0, g1, if_neg (by omega), if_pos ⟨w2, w3⟩, if_pos ⟨gl, w4⟩]
    have e2 : dec l = fin ((l.getD 0 0 - 192) * 64 + (l.getD 1 0 - 128)) 128 2 := by unfold dec; rw [if_neg (by omega), if_pos ⟨w2, w3⟩, if_pos ⟨w1, w4⟩]
    rw [e, e2]
  · obtain ⟨w, w1, w2, w3, w4, w5, w6, w7⟩ := h1
    rw [w] at g gl
    have g0 := g 0 (by decide)
    have g1 := g 1 (by decide)
    have g2 := g 2 (by decide)
    have e : dec L = fin (((l.getD 0 0 - 224) * 64 + (l.getD 1 0 - 128)) * 64 + (l.getD 2 0 - 128)) 2048 3 := by unfold dec; rw [g0, g1, g2, if_neg (by omega), if_neg (by omega), if_pos ⟨w2, w3⟩, if_pos ⟨gl, w4, w5⟩]
    have e2 : dec l = fin (((l.getD 0 0 - 224) * 64 + (l.getD 1 0 - 128)) * 64 + (l.getD 2 0 - 128)) 2048 3 := by unfold dec; rw [if_neg (by omega), if_neg (by omega), if_pos ⟨w2, w3⟩, if_pos ⟨w1, w4, w5⟩]
    rw [e, e2]
  · obtain ⟨w, w1, w2, w3, w4, w5, w6, w7⟩ := h1
    rw [w] at g gl
    have g0 := g 0 (by decide)
    have g1 := g 1 (by decide)
    have g2 := g 2 (by decide)
    have g3 := g 3 (by decide)
    have e : dec L = fin ((((l.getD 0 0 - 240) * 64 + (l.getD 1 0 - 128)) * 64 + (l.getD 2 0 - 128)) * 64 + (l.getD 3 0 - 128)) 65536 4 := by unfold dec; rw [g0, g1, g2, g3, if_neg (by omega), if_neg (by omega), if_neg (by omega), if_pos ⟨w2, w3⟩, if_pos ⟨gl, w4, w5, w6⟩]
    have e2 : dec l = fin ((((l.getD 0 0 - 240) * 64 + (l.getD 1 0 - 128)) * 64 + (l.getD 2 0 - 128)) * 64 + (l.getD 3 0 - 128)) 65536 4 := by unfold dec; rw [if_neg (by omega), if_neg (by omega), if_neg (by omega), if_pos ⟨w2, w3⟩, if_pos ⟨w1, w4, w5, w6⟩]
    rw [e, e2]
theorem dec_append {l : List Int} (h : (dec l).2.2 = true) (hl : 0 < l.length) (m : List Int) : dec (l ++ m) = dec l := by
  have e : l ++ m = l.take (dec l).2.1 ++ (l.drop (dec l).2.1 ++ m) := by rw [← List.append_assoc, List.take_append_drop]
  rw [e, dec_take h hl]
/-- All runes of bytes. -/
def ds (l : List Int) : List Rn := if h : l = [] then [] else dec l :: ds (l.drop (dec l).2.1)
termination_by l.length
decreasing_by
  have := dec_width l
  have := List.length_pos_iff.2 h
  simp only [List.length_drop]
  omega
theorem ds_nil : ds [] = [] := by rw [ds, dif_pos rfl]
theorem ds_cons {l : List Int} (h : l ≠ []) : ds l = dec l :: ds (l.drop (dec l).2.1) := by rw [ds, dif_neg h]
def wd (d : List Rn) : Nat := (d.map (·.2.1)).sum
/-- What of bytes comes by the runes' widths: nothing is left over. -/
theorem ds_wd : ∀ (n : Nat) (l : List Int), l.length ≤ n → wd (ds l) = l.length := by
  intro n
  induction n with
  | zero => intro l hl; have : l = [] := List.eq_nil_of_length_eq_zero (by omega); subst this; rw [ds_nil]; rfl
  | succ n ih =>
    intro l hl
    by_cases h : l = []
    · subst h; rw [ds_nil]; rfl
    · have h1 := dec_width l
      have h2 := dec_fits (List.length_pos_iff.2 h)
      rw [ds_cons h]
      have := ih (l.drop (dec l).2.1) (by simp only [List.length_drop]; omega)
      simp only [wd, List.map_cons, List.sum_cons, List.length_drop] at this ⊢
      omega
theorem ds_len_le : ∀ (n : Nat) (l : List Int), l.length ≤ n → (ds l).length ≤ l.length := by
  intro n
  induction n with
  | zero => intro l hl; have : l = [] := List.eq_nil_of_length_eq_zero (by omega); subst this; rw [ds_nil]; exact Nat.le_refl _
  | succ n ih =>
    intro l hl
    by_cases h : l = []
    · subst h; rw [ds_nil]; exact Nat.le_refl _
    · have h1 := dec_width l
      have h2 := dec_fits (List.length_pos_iff.2 h)
      rw [ds_cons h]
      have := ih (l.drop (dec l).2.1) (by simp only [List.length_drop]; omega)
      simp only [List.length_cons, List.length_drop] at this ⊢
      omega
theorem ds_append : ∀ (n : Nat) (l m : List Int), l.length ≤ n → (ds l).all (·.2.2) = true → ds (l ++ m) = ds l ++ ds m := by
  intro n
  induction n with
  | zero => intro l m hl _; have : l = [] := List.eq_nil_of_length_eq_zero (by omega); subst this; rw [ds_nil]; rfl
  | succ n ih =>
    intro l m hl ha
    by_cases h : l = []
    · subst h; rw [ds_nil]; rfl
    · have h0 := List.length_pos_iff.2 h
      have h1 := dec_width l
      have h2 := dec_fits h0
      rw [ds_cons h] at ha ⊢
      simp only [List.all_cons, Bool.and_eq_true] at ha
      have hne : l ++ m ≠ [] := by simp [h]
      rw [ds_cons hne, dec_append ha.1 h0 m, List.drop_append_of_le_length h2, ih _ m (by simp only [List.length_drop]; omega) ha.2]
      rfl
theorem ds_drop : ∀ (k : Nat) (l : List Int), ds (l.drop (wd ((ds l).take k))) = (ds l).drop k := by
  intro k
  induction k with
  | zero => intro l; simp [wd]
  | succ k ih =>
    intro l
    by_cases h : l = []
    · subst h; rw [ds_nil]; simp [wd, ds_nil]
    · have e := ih (l.drop (dec l).2.1)
      rw [ds_cons h]
      simp only [List.take_succ_cons, List.drop_succ_cons, wd, List.map_cons, List.sum_cons]
      rw [← e, List.drop_drop]
      rfl
/-- The runes of the first bytes, cut between runes. -/
theorem ds_take : ∀ (k : Nat) (l : List Int), ds (l.take (wd ((ds l).take k))) = (ds l).take k := by
  intro k
  induction k with
  | zero => intro l; simp [wd, ds_nil]
  | succ k ih =>
    intro l
    by_cases h : l = []
    · subst h; simp [ds_nil]
    · have h0 := List.length_pos_iff.2 h
      have h1 := dec_width l
      have h2 := dec_fits h0
      have e := ih (l.drop (dec l).2.1)
      have hw : wd ((ds l).take (k + 1)) = (dec l).2.1 + wd ((ds (l.drop (dec l).2.1)).take k) := by
        rw [ds_cons h]
        simp only [List.take_succ_cons, wd, List.map_cons, List.sum_cons]
      have hsplit : l.take (wd ((ds l).take (k + 1))) = l.take (dec l).2.1 ++ (l.drop (dec l).2.1).take (wd ((ds (l.drop (dec l).2.1)).take k)) := by
        rw [hw, List.take_add]
      have hne : l.take (wd ((ds l).take (k + 1))) ≠ [] := by
        intro hh
        have := congrArg List.length hh
        simp only [List.length_take, List.length_nil] at this
        omega
      have hd : dec (l.take (wd ((ds l).take (k + 1)))) = dec l := by
        rw [hsplit]
        by_cases hok : (dec l).2.2 = true
        · exact dec_take hok h0 _
        · have hb := dec_bad (by simpa using hok)
          by_cases hok2 : (dec (l.take (dec l).2.1 ++ (l.drop (dec l).2.1).take (wd ((ds (l.drop (dec l).2.1)).take k)))).2.2 = true
          · have happ := dec_append hok2 (by simp only [List.length_append, List.length_take]; omega) (l.drop (wd ((ds l).take (k + 1))))
            rw [← hsplit, List.take_append_drop] at happ
            rw [hsplit] at happ
            rw [← happ] at hok2
            exact absurd hok2 hok
          · exact (dec_bad (by simpa using hok2)).trans hb.symm
      rw [ds_cons hne, hd]
      conv => rhs; rw [ds_cons h, List.take_succ_cons]
      congr 1
      rw [hsplit, List.drop_append_of_le_length (by simp only [List.length_take]; omega), List.drop_take, Nat.sub_self, List.take_zero, List.nil_append]
      exact e
theorem wd_take_le (d : List Rn) (k : Nat) : wd (d.take k) ≤ wd d := by
  induction d generalizing k with
  | nil => simp [wd]
  | cons a d ih =>
    cases k with
    | zero => simp [wd]
    | succ k => have := ih k; simp only [wd, List.take_succ_cons, List.map_cons, List.sum_cons] at this ⊢; omega
theorem wd_append (a b : List Rn) : wd (a ++ b) = wd a + wd b := by simp [wd]
/-- The model's own decode tells the same. -/
theorem get_byte (s : ByteArray) (p k : Nat) (h : p + k < s.size) : ((bytesOf s).drop p).getD k 0 = ((s.get! (p + k)).toNat : Int) := by
  have e : s.get! (p + k) = s.data[p + k]'h := by simp [ByteArray.get!, getElem!_pos, h]
  have hd : p + k < s.data.toList.length := by rw [Array.length_toList]; exact h
  rw [e]
  simp only [List.getD_eq_getElem?_getD, List.getElem?_drop, bytesOf, List.getElem?_map]
  rw [List.getElem?_eq_getElem hd]
  simp
/-- The model's decode over the numbers that it reads. -/
def mdec (sz p x0 x1 x2 x3 : Nat) : Nat × Nat :=
  if x0 < 128 then (x0, 1)
  else if x0 / 32 == 6 && (decide (p + 1 < sz) && x1 / 64 == 2) then
    (if 128 ≤ x0 % 32 * 64 + x1 % 64 then (x0 % 32 * 64 + x1 % 64, 2) else (65533, 1))
  else if x0 / 16 == 14 && (decide (p + 1 < sz) && x1 / 64 == 2) && (decide (p + 2 < sz) && x2 / 64 == 2) then
    (if decide (2048 ≤ x0 % 16 * 4096 + x1 % 64 * 64 + x2 % 64) && Utf8.valid ((x0 % 16 * 4096 + x1 % 64 * 64 + x2 % 64 : Nat) : Int) then (x0 % 16 * 4096 + x1 % 64 * 64 + x2 % 64, 3) else (65533, 1))
  else if x0 / 8 == 30 && (decide (p + 1 < sz) && x1 / 64 == 2) && (decide (p + 2 < sz) && x2 / 64 == 2) && (decide (p + 3 < sz) && x3 / 64 == 2) then
    (if decide (65536 ≤ x0 % 8 * 262144 + x1 % 64 * 4096 + x2 % 64 * 64 + x3 % 64) && Utf8.valid ((x0 % 8 * 262144 + x1 % 64 * 4096 + x2 % 64 * 64 + x3 % 64 : Nat) : Int) then (x0 % 8 * 262144 + x1 % 64 * 4096 + x2 % 64 * 64 + x3 % 64, 4) else (65533, 1))
  else (65533, 1)
theorem decode_mdec (s : ByteArray) (p : Nat) : Utf8.decode s p = mdec s.size p (s.get! (p + 0)).toNat (s.get! (p + 1)).toNat (s.get! (p + 2)).toNat (s.get! (p + 3)).toNat := rfl
/-- The spec's decode over the numbers that it reads. -/
def qdec (n : Nat) (y0 y1 y2 y3 : Int) : Rn :=
  if y0 < 128 then (y0, 1, true)
  else if 192 ≤ y0 ∧ y0 < 224 then (if 2 ≤ n ∧ Cont y1 then fin ((y0 - 192) * 64 + (y1 - 128)) 128 2 else bad)
  else if 224 ≤ y0 ∧ y0 < 240 then (if 3 ≤ n ∧ Cont y1 ∧ Cont y2 then fin (((y0 - 224) * 64 + (y1 - 128)) * 64 + (y2 - 128)) 2048 3 else bad)
  else if 240 ≤ y0 ∧ y0 < 248 then (if 4 ≤ n ∧ Cont y1 ∧ Cont y2 ∧ Cont y3 then fin ((((y0 - 240) * 64 + (y1 - 128)) * 64 + (y2 - 128)) * 64 + (y3 - 128)) 65536 4 else bad)
  else bad
theorem dec_qdec (l : List Int) : dec l = qdec l.length (l.getD 0 0) (l.getD 1 0) (l.getD 2 0) (l.getD 3 0) := rfl
theorem mdec_prop (sz p x0 x1 x2 x3 : Nat) : mdec sz p x0 x1 x2 x3 =
    if x0 < 128 then (x0, 1)
    else if x0 / 32 = 6 ∧ p + 1 < sz ∧ x1 / 64 = 2 then (if 128 ≤ x0 % 32 * 64 + x1 % 64 then (x0 % 32 * 64 + x1 % 64, 2) else (65533, 1))
    else if (x0 / 16 = 14 ∧ p + 1 < sz ∧ x1 / 64 = 2) ∧ p + 2 < sz ∧ x2 / 64 = 2 then
      (if 2048 ≤ x0 % 16 * 4096 + x1 % 64 * 64 + x2 % 64 ∧ (x0 % 16 * 4096 + x1 % 64 * 64 + x2 % 64 < 55296 ∨ (57344 ≤ x0 % 16 * 4096 + x1 % 64 * 64 + x2 % 64 ∧ x0 % 16 * 4096 + x1 % 64 * 64 + x2 % 64 ≤ 1114111)) then (x0 % 16 * 4096 + x1 % 64 * 64 + x2 % 64, 3) else (65533, 1))
    else if ((x0 / 8 = 30 ∧ p + 1 < sz ∧ x1 / 64 = 2) ∧ p + 2 < sz ∧ x2 / 64 = 2) ∧ p + 3 < sz ∧ x3 / 64 = 2 then
      (if 65536 ≤ x0 % 8 * 262144 + x1 % 64 * 4096 + x2 % 64 * 64 + x3 % 64 ∧ (x0 % 8 * 262144 + x1 % 64 * 4096 + x2 % 64 * 64 + x3 % 64 < 55296 ∨ (57344 ≤ x0 % 8 * 262144 + x1 % 64 * 4096 + x2 % 64 * 64 + x3 % 64 ∧ x0 % 8 * 262144 + x1 % 64 * 4096 + x2 % 64 * 64 + x3 % 64 ≤ 1114111)) then (x0 % 8 * 262144 + x1 % 64 * 4096 + x2 % 64 * 64 + x3 % 64, 4) else (65533, 1))
    else (65533, 1) := by
  have hval : ∀ x : Nat, Utf8.valid (x : Int) = true ↔ (x < 55296 ∨ (57344 ≤ x ∧ x ≤ 1114111)) := by
    intro x
    simp only [Utf8.valid, Bool.or_eq_true, Bool.and_eq_true, decide_eq_true_eq]
    omega
  unfold mdec
  simp only [Bool.and_eq_true, decide_eq_true_eq, beq_iff_eq, hval, and_assoc]
theorem mdec_qdec (sz p n x0 x1 x2 x3 : Nat) (y0 y1 y2 y3 : Int) (h : p < sz) (hlen : n = sz - p) (g0 : y0 = x0) (g1 : p + 1 < sz → y1 = x1) (g2 : p + 2 < sz → y2 = x2) (g3 : p + 3 < sz → y3 = x3)
    (b0 : x0 < 256) (b1 : x1 < 256) (b2 : x2 < 256) (b3 : x3 < 256) : (((mdec sz p x0 x1 x2 x3).1 : Int), (mdec sz p x0 x1 x2 x3).2) = ((qdec n y0 y1 y2 y3).1, (qdec n y0 y1 y2 y3).2.1) := by
  have fb : ∀ {x low : Int} {n : Nat}, (x < low ∨ x > 1114111 ∨ (55296 ≤ x ∧ x < 57344)) → fin x low n = bad := fun h => by unfold fin; rw [if_pos h]
  have fg : ∀ {x low : Int} {n : Nat}, ¬ (x < low ∨ x > 1114111 ∨ (55296 ≤ x ∧ x < 57344)) → fin x low n = (x, n, true) := fun h => by unfold fin; rw [if_neg h]
  by_cases h0 : x0 < 128
  · have hm : mdec sz p x0 x1 x2 x3 = (x0, 1) := by rw [mdec_prop, if_pos h0]
    have hq : qdec n y0 y1 y2 y3 = (y0, 1, true) := by unfold qdec; rw [if_pos (by omega)]
    rw [hm, hq, g0]
  have h0' : ¬ y0 < 128 := by omega
  by_cases h1 : x0 / 32 = 6
  · have h1' : 192 ≤ y0 ∧ y0 < 224 := by omega
    by_cases hc : p + 1 < sz ∧ x1 / 64 = 2
    · have e1 := g1 hc.1
      have hc' : 2 ≤ n ∧ Cont y1 := by unfold Cont; omega
      have hq0 : qdec n y0 y1 y2 y3 = fin ((y0 - 192) * 64 + (y1 - 128)) 128 2 := by unfold qdec; rw [if_neg h0', if_pos h1', if_pos hc']
      by_cases hv : 128 ≤ x0 % 32 * 64 + x1 % 64
      · have hm : mdec sz p x0 x1 x2 x3 = (x0 % 32 * 64 + x1 % 64, 2) := by rw [mdec_prop, if_neg h0, if_pos ⟨h1, hc⟩, if_pos hv]
        rw [hm, hq0, fg (by omega)]
        refine Prod.ext ?_ rfl
        show ((x0 % 32 * 64 + x1 % 64 : Nat) : Int) = (y0 - 192) * 64 + (y1 - 128)
        omega
      · have hm : mdec sz p x0 x1 x2 x3 = (65533, 1) := by rw [mdec_prop, if_neg h0, if_pos ⟨h1, hc⟩, if_neg hv]
        rw [hm, hq0, fb (by omega)]
        rfl
    · have e1 : ¬ (2 ≤ n ∧ Cont y1) := by
        unfold Cont
        intro hh
        have := g1 (by omega)
        omega
      have hm : mdec sz p x0 x1 x2 x3 = (65533, 1) := by rw [mdec_prop, if_neg h0, if_neg (fun hh => hc hh.2), if_neg (by omega), if_neg (by omega)]
      have hq : qdec n y0 y1 y2 y3 = bad := by unfold qdec; rw [if_neg h0', if_pos h1', if_neg e1]
      rw [hm, hq]
      rfl
  have h1' : ¬ (192 ≤ y0 ∧ y0 < 224) := by omega
  by_cases h2 : x0 / 16 = 14
  · have h2' : 224 ≤ y0 ∧ y0 < 240 := by omega
    by_cases hc : (p + 1 < sz ∧ x1 / 64 = 2) ∧ (p + 2 < sz ∧ x2 / 64 = 2)
    · have e1 := g1 hc.1.1
      have e2 := g2 hc.2.1
      have hc' : 3 ≤ n ∧ Cont y1 ∧ Cont y2 := by unfold Cont; omega
      have hq0 : qdec n y0 y1 y2 y3 = fin (((y0 - 224) * 64 + (y1 - 128)) * 64 + (y2 - 128)) 2048 3 := by unfold qdec; rw [if_neg h0', if_neg h1', if_pos h2', if_pos hc']
      by_cases hv : 2048 ≤ x0 % 16 * 4096 + x1 % 64 * 64 + x2 % 64 ∧ (x0 % 16 * 4096 + x1 % 64 * 64 + x2 % 64 < 55296 ∨ (57344 ≤ x0 % 16 * 4096 + x1 % 64 * 64 + x2 % 64 ∧ x0 % 16 * 4096 + x1 % 64 * 64 + x2 % 64 ≤ 1114111))
      · have hm : mdec sz p x0 x1 x2 x3 = (x0 % 16 * 4096 + x1 % 64 * 64 + x2 % 64, 3) := by rw [mdec_prop, if_neg h0, if_neg (fun hh => h1 hh.1), if_pos ⟨⟨h2, hc.1⟩, hc.2⟩, if_pos hv]
        rw [hm, hq0, fg (by omega)]
        refine Prod.ext ?_ rfl
        show ((x0 % 16 * 4096 + x1 % 64 * 64 + x2 % 64 : Nat) : Int) = ((y0 - 224) * 64 + (y1 - 128)) * 64 + (y2 - 128)
        omega
      · have hm : mdec sz p x0 x1 x2 x3 = (65533, 1) := by rw [mdec_prop, if_neg h0, if_neg (fun hh => h1 hh.1), if_pos ⟨⟨h2, hc.1⟩, hc.2⟩, if_neg hv]
        rw [hm, hq0, fb (by omega)]
        rfl
    · have e1 : ¬ (3 ≤ n ∧ Cont y1 ∧ Cont y2) := by
        unfold Cont
        intro hh
        have := g1 (by omega)
        have := g2 (by omega)
        omega
      have hm : mdec sz p x0 x1 x2 x3 = (65533, 1) := by rw [mdec_prop, if_neg h0, if_neg (fun hh => h1 hh.1), if_neg (fun hh => hc ⟨hh.1.2, hh.2⟩), if_neg (by omega)]
      have hq : qdec n y0 y1 y2 y3 = bad := by unfold qdec; rw [if_neg h0', if_neg h1', if_pos h2', if_neg e1]
      rw [hm, hq]
      rfl
  have h2' : ¬ (224 ≤ y0 ∧ y0 < 240) := by omega
  by_cases h3 : x0 / 8 = 30
  · have h3' : 240 ≤ y0 ∧ y0 < 248 := by omega
    by_cases hc : ((p + 1 < sz ∧ x1 / 64 = 2) ∧ (p + 2 < sz ∧ x2 / 64 = 2)) ∧ (p + 3 < sz ∧ x3 / 64 = 2)
    · have e1 := g1 hc.1.1.1
      have e2 := g2 hc.1.2.1
      have e3 := g3 hc.2.1
      have hc' : 4 ≤ n ∧ Cont y1 ∧ Cont y2 ∧ Cont y3 := by unfold Cont; omega
      have hq0 : qdec n y0 y1 y2 y3 = fin ((((y0 - 240) * 64 + (y1 - 128)) * 64 + (y2 - 128)) * 64 + (y3 - 128)) 65536 4 := by unfold qdec; rw [if_neg h0', if_neg h1', if_neg h2', if_pos h3', if_pos hc']
      by_cases hv : 65536 ≤ x0 % 8 * 262144 + x1 % 64 * 4096 + x2 % 64 * 64 + x3 % 64 ∧ (x0 % 8 * 262144 + x1 % 64 * 4096 + x2 % 64 * 64 + x3 % 64 < 55296 ∨ (57344 ≤ x0 % 8 * 262144 + x1 % 64 * 4096 + x2 % 64 * 64 + x3 % 64 ∧ x0 % 8 * 262144 + x1 % 64 * 4096 + x2 % 64 * 64 + x3 % 64 ≤ 1114111))
      · have hm : mdec sz p x0 x1 x2 x3 = (x0 % 8 * 262144 + x1 % 64 * 4096 + x2 % 64 * 64 + x3 % 64, 4) := by rw [mdec_prop, if_neg h0, if_neg (fun hh => h1 hh.1), if_neg (fun hh => h2 hh.1.1), if_pos ⟨⟨⟨h3, hc.1.1⟩, hc.1.2⟩, hc.2⟩, if_pos hv]
        rw [hm, hq0, fg (by omega)]
        refine Prod.ext ?_ rfl
        show ((x0 % 8 * 262144 + x1 % 64 * 4096 + x2 % 64 * 64 + x3 % 64 : Nat) : Int) = (((y0 - 240) * 64 + (y1 - 128)) * 64 + (y2 - 128)) * 64 + (y3 - 128)
        omega
      · have hm : mdec sz p x0 x1 x2 x3 = (65533, 1) := by rw [mdec_prop, if_neg h0, if_neg (fun hh => h1 hh.1), if_neg (fun hh => h2 hh.1.1), if_pos ⟨⟨⟨h3, hc.1.1⟩, hc.1.2⟩, hc.2⟩, if_neg hv]
        rw [hm, hq0, fb (by omega)]
        rfl
    · have e1 : ¬ (4 ≤ n ∧ Cont y1 ∧ Cont y2 ∧ Cont y3) := by
        unfold Cont
        intro hh
        have := g1 (by omega)
        have := g2 (by omega)
        have := g3 (by omega)
        omega
      have hm : mdec sz p x0 x1 x2 x3 = (65533, 1) := by rw [mdec_prop, if_neg h0, if_neg (fun hh => h1 hh.1), if_neg (fun hh => h2 hh.1.1), if_neg (fun hh => hc ⟨⟨hh.1.1.2, hh.1.2⟩, hh.2⟩)]
      have hq : qdec n y0 y1 y2 y3 = bad := by unfold qdec; rw [if_neg h0', if_neg h1', if_neg h2', if_pos h3', if_neg e1]
      rw [hm, hq]
      rfl
  have hm : mdec sz p x0 x1 x2 x3 = (65533, 1) := by rw [mdec_prop, if_neg h0, if_neg (fun hh => h1 hh.1), if_neg (fun hh => h2 hh.1.1), if_neg (fun hh => h3 hh.1.1.1)]
  have hq : qdec n y0 y1 y2 y3 = bad := by unfold qdec; rw [if_neg h0', if_neg h1', if_neg h2', if_neg (by omega)]
  rw [hm, hq]
  rfl
theorem decode_eq (s : ByteArray) (p : Nat) (h : p < s.size) : (((Utf8.decode s p).1 : Int), (Utf8.decode s p).2) = ((dec ((bytesOf s).drop p)).1, (dec ((bytesOf s).drop p)).2.1) := by
  rw [decode_mdec, dec_qdec]
  refine mdec_qdec _ _ _ _ _ _ _ _ _ _ _ h (by rw [List.length_drop, bytesOf_length]) (get_byte s p 0 (by omega)) (get_byte s p 1) (get_byte s p 2) (get_byte s p 3) ?_ ?_ ?_ ?_ <;> exact UInt8.toNat_lt _
end Go.Proofs.Ytbeoegdkoodlfaa.Q
