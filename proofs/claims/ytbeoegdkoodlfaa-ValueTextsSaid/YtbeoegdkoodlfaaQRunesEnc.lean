/- A rune written: its bytes are told as that rune again; what is told as a rune is what is written of it. -/
import Derived.Test.YtbeoegdkoodlfaaQRunes
set_option linter.unusedVariables false
set_option linter.unusedSimpArgs false
namespace Go.Proofs.Ytbeoegdkoodlfaa.Q
open Go.RowKit Go.Proofs.YtbeoegdkoodlfaaW.PrintWords Go.Proofs.YtbeoegdkoodlfaaW.PrintMore
def encL (c : Nat) : List Int :=
  if c < 128 then [(c : Int)]
  else if c < 2048 then [((192 + c / 64 : Nat) : Int), ((128 + c % 64 : Nat) : Int)]
  else if c < 65536 then [((224 + c / 4096 : Nat) : Int), ((128 + c / 64 % 64 : Nat) : Int), ((128 + c % 64 : Nat) : Int)]
  else [((240 + c / 262144 : Nat) : Int), ((128 + c / 4096 % 64 : Nat) : Int), ((128 + c / 64 % 64 : Nat) : Int), ((128 + c % 64 : Nat) : Int)]
def Vc (c : Nat) : Prop := c < 55296 ∨ (57344 ≤ c ∧ c ≤ 1114111)
theorem valid_iff (r : Int) : Utf8.valid r = true ↔ (0 ≤ r ∧ Vc r.toNat) := by
  unfold Vc
  simp only [Utf8.valid, Bool.or_eq_true, Bool.and_eq_true, decide_eq_true_eq]
  omega
def vrune (r : Int) : Nat := if Utf8.valid r then r.toNat else 65533
theorem vrune_ok (r : Int) : Vc (vrune r) := by
  unfold vrune
  split
  · rename_i h; exact ((valid_iff r).1 h).2
  · unfold Vc; omega
theorem ub {c : Nat} (h : c < 256) : ((UInt8.ofNat c).toNat : Int) = (c : Int) := by rw [UInt8.toNat_ofNat', Nat.mod_eq_of_lt h]
theorem enc_eq (r : Int) : bytesOf (Utf8.encode r) = encL (vrune r) := by
  have hv := vrune_ok r
  have e : Utf8.encode r = (let c := vrune r; let b (n : Nat) : UInt8 := UInt8.ofNat n
    if c < 0x80 then (⟨#[b c]⟩ : ByteArray)
    else if c < 0x800 then ⟨#[b (0xC0 + c / 64), b (0x80 + c % 64)]⟩
    else if c < 0x10000 then ⟨#[b (0xE0 + c / 4096), b (0x80 + c / 64 % 64), b (0x80 + c % 64)]⟩
    else ⟨#[b (0xF0 + c / 262144), b (0x80 + c / 4096 % 64), b (0x80 + c / 64 % 64), b (0x80 + c % 64)]⟩) := rfl
  rw [e]
  generalize vrune r = c at *
  unfold Vc at hv
  unfold encL
  simp only
  by_cases h1 : c < 128
  · rw [if_pos h1, if_pos h1]
    simp only [bytesOf, List.map_cons, List.map_nil]
    rw [ub (by omega)]
  rw [if_neg h1, if_neg h1]
  by_cases h2 : c < 2048
  · rw [if_pos h2, if_pos h2]
    simp only [bytesOf, List.map_cons, List.map_nil]
    rw [ub (by omega), ub (by omega)]
  rw [if_neg h2, if_neg h2]
  by_cases h3 : c < 65536
  · rw [if_pos h3, if_pos h3]
    simp only [bytesOf, List.map_cons, List.map_nil]
    rw [ub (by omega), ub (by omega), ub (by omega)]
  rw [if_neg h3, if_neg h3]
  simp only [bytesOf, List.map_cons, List.map_nil]
  rw [ub (by omega), ub (by omega), ub (by omega), ub (by omega)]
theorem encL_len (c : Nat) : 1 ≤ (encL c).length ∧ (encL c).length ≤ 4 := by
  unfold encL
  split
  · simp
  · split
    · simp
    · split <;> simp
theorem encL_ne (c : Nat) : encL c ≠ [] := by intro h; have := (encL_len c).1; rw [h] at this; simp at this
theorem dec_enc {c : Nat} (hv : Vc c) (m : List Int) : dec (encL c ++ m) = ((c : Int), (encL c).length, true) := by
  unfold Vc at hv
  unfold encL
  by_cases h1 : c < 128
  · rw [if_pos h1]
    unfold dec
    simp only [List.cons_append, List.nil_append, List.getD_cons_zero]
    rw [if_pos (by omega)]
    rfl
  rw [if_neg h1]
  by_cases h2 : c < 2048
  · rw [if_pos h2]
    unfold dec
    simp only [List.cons_append, List.nil_append, List.getD_cons_zero, List.getD_cons_succ, List.length_cons]
    rw [if_neg (by omega), if_pos (by omega), if_pos (by unfold Cont; omega)]
    unfold fin
    rw [if_neg (by omega)]
    simp only [List.length_nil, Prod.mk.injEq, and_true]
    omega
  rw [if_neg h2]
  by_cases h3 : c < 65536
  · rw [if_pos h3]
    unfold dec
    simp only [List.cons_append, List.nil_append, List.getD_cons_zero, List.getD_cons_succ, List.length_cons]
    rw [if_neg (by omega), if_neg (by omega), if_pos (by omega), if_pos (by unfold Cont; omega)]
    unfold fin
    rw [if_neg (by omega)]
    simp only [List.length_nil, Prod.mk.injEq, and_true]
    omega
  rw [if_neg h3]
  unfold dec
  simp only [List.cons_append, List.nil_append, List.getD_cons_zero, List.getD_cons_succ, List.length_cons]
  rw [if_neg (by omega), if_neg (by omega), if_neg (by omega), if_pos (by omega), if_pos (by unfold Cont; omega)]
  unfold fin
  rw [if_neg (by omega)]
  simp only [List.length_nil, Prod.mk.injEq, and_true]
  omega
theorem getD_cases1 {l : List Int} (h : 1 ≤ l.length) : l.take 1 = [l.getD 0 0] := by
  match l, h with
  | a :: r, _ => rfl
theorem getD_cases2 {l : List Int} (h : 2 ≤ l.length) : l.take 2 = [l.getD 0 0, l.getD 1 0] := by
  match l, h with
  | a :: b :: r, _ => rfl
theorem getD_cases3 {l : List Int} (h : 3 ≤ l.length) : l.take 3 = [l.getD 0 0, l.getD 1 0, l.getD 2 0] := by
  match l, h with
  | a :: b :: c :: r, _ => rfl
theorem getD_cases4 {l : List Int} (h : 4 ≤ l.length) : l.take 4 = [l.getD 0 0, l.getD 1 0, l.getD 2 0, l.getD 3 0] := by
  match l, h with
  | a :: b :: c :: d :: r, _ => rfl
theorem getD_byt {l : List Int} (hb : Byt l) (i : Nat) : 0 ≤ l.getD i 0 ∧ l.getD i 0 < 256 := by
  rw [List.getD_eq_getElem?_getD]
  by_cases h : i < l.length
  · rw [List.getElem?_eq_getElem h]; exact hb _ (List.getElem_mem h)
  · rw [List.getElem?_eq_none (by omega)]; simp
/-- The runes that are told are ones that can be written. -/
theorem dec_vc {l : List Int} (hb : Byt l) : 0 ≤ (dec l).1 ∧ Vc (dec l).1.toNat := by
  unfold Vc
  have b0 := getD_byt hb 0
  rcases dec_cases l with h | ⟨_, h | h | h | h⟩
  · rw [h]; simp [bad]
  · omega
  · unfold Cont at h; omega
  · unfold Cont at h; omega
  · unfold Cont at h; omega
theorem enc_dec {l : List Int} (hb : Byt l) (hl : 0 < l.length) (h : (dec l).2.2 = true) : l.take (dec l).2.1 = encL (dec l).1.toNat := by
  have b0 := getD_byt hb 0
  rcases dec_cases l with h1 | ⟨_, h1 | h1 | h1 | h1⟩
  · rw [h1] at h; cases h
  · obtain ⟨w, w1, w2⟩ := h1
    rw [w, w2, getD_cases1 hl]
    unfold encL
    rw [if_pos (by omega)]
    simp only [List.cons.injEq, and_true]
    omega
  · obtain ⟨w, w1, w2, w3, w4, w5, w6⟩ := h1
    unfold Cont at w4
    rw [w, getD_cases2 w1]
    unfold encL
    rw [if_neg (by omega), if_pos (by omega)]
    simp only [List.cons.injEq, and_true]
    omega
  · obtain ⟨w, w1, w2, w3, w4, w5, w6, w7, w8⟩ := h1
    unfold Cont at w4 w5
    rw [w, getD_cases3 w1]
    unfold encL
    rw [if_neg (by omega), if_neg (by omega), if_pos (by omega)]
    simp only [List.cons.injEq, and_true]
    omega
  · obtain ⟨w, w1, w2, w3, w4, w5, w6, w7, w8, w9⟩ := h1
    unfold Cont at w4 w5 w6
    rw [w, getD_cases4 w1]
    unfold encL
    rw [if_neg (by omega), if_neg (by omega), if_neg (by omega)]
    simp only [List.cons.injEq, and_true]
    omega
/-- Runes written one by one. -/
def encAll (rs : List Int) : List Int := rs.flatMap fun x => encL x.toNat
def Vrs (rs : List Int) : Prop := ∀ x ∈ rs, 0 ≤ x ∧ Vc x.toNat
theorem ds_encAll : ∀ (rs : List Int), Vrs rs → ds (encAll rs) = rs.map fun x => (x, (encL x.toNat).length, true) := by
  intro rs
  induction rs with
  | nil => intro _; exact ds_nil
  | cons x r ih =>
    intro h
    have hx := h x List.mem_cons_self
    have hne : encAll (x :: r) ≠ [] := by
      intro hh
      have := congrArg List.length hh
      simp only [encAll, List.flatMap_cons, List.length_append, List.length_nil] at this
      have := (encL_len x.toNat).1
      omega
    have hd : dec (encAll (x :: r)) = (x, (encL x.toNat).length, true) := by
      show dec (encL x.toNat ++ encAll r) = _
      rw [dec_enc hx.2]
      congr 1
      omega
    rw [ds_cons hne, hd]
    show _ :: ds ((encL x.toNat ++ encAll r).drop (encL x.toNat).length) = _
    rw [List.drop_left, ih (fun y hy => h y (List.mem_cons_of_mem _ hy))]
    rfl
theorem ds_vrs : ∀ (n : Nat) (l : List Int), l.length ≤ n → Byt l → Vrs ((ds l).map (·.1)) := by
  intro n
  induction n with
  | zero => intro l hl _; have : l = [] := List.eq_nil_of_length_eq_zero (by omega); subst this; rw [ds_nil]; intro x hx; cases hx
  | succ n ih =>
    intro l hl hb
    by_cases h : l = []
    · subst h; rw [ds_nil]; intro x hx; cases hx
    · have h1 := dec_width l
      have h2 := List.length_pos_iff.2 h
      rw [ds_cons h]
      intro x hx
      simp only [List.map_cons, List.mem_cons] at hx
      rcases hx with rfl | hx
      · exact dec_vc hb
      · exact ih (l.drop (dec l).2.1) (by simp only [List.length_drop]; omega) (hb.drop _) x hx
theorem encAll_ds : ∀ (n : Nat) (l : List Int), l.length ≤ n → Byt l → (ds l).all (·.2.2) = true → encAll ((ds l).map (·.1)) = l := by
  intro n
  induction n with
  | zero => intro l hl _ _; have : l = [] := List.eq_nil_of_length_eq_zero (by omega); subst this; rw [ds_nil]; rfl
  | succ n ih =>
    intro l hl hb ha
    by_cases h : l = []
    · subst h; rw [ds_nil]; rfl
    · have h1 := dec_width l
      have h2 := List.length_pos_iff.2 h
      rw [ds_cons h] at ha ⊢
      simp only [List.all_cons, Bool.and_eq_true] at ha
      simp only [List.map_cons, encAll, List.flatMap_cons]
      have := ih (l.drop (dec l).2.1) (by simp only [List.length_drop]; omega) (hb.drop _) ha.2
      unfold encAll at this
      rw [this, ← enc_dec hb h2 ha.1, List.take_append_drop]
theorem encL_byt (c : Nat) (h : Vc c) : Byt (encL c) := by
  unfold Vc at h
  unfold encL
  intro x hx
  split at hx
  · simp only [List.mem_singleton] at hx; omega
  · split at hx
    · simp only [List.mem_cons, List.not_mem_nil, or_false] at hx; omega
    · split at hx
      · simp only [List.mem_cons, List.not_mem_nil, or_false] at hx; omega
      · simp only [List.mem_cons, List.not_mem_nil, or_false] at hx; omega
theorem vrune_of {x : Int} (h : 0 ≤ x ∧ Vc x.toNat) : vrune x = x.toNat := by unfold vrune; rw [if_pos ((valid_iff x).2 h)]
end Go.Proofs.Ytbeoegdkoodlfaa.Q
