/- The reference's runes tell what QRunes says. -/
import Derived.Test.YtbeoegdkoodlfaaQRunes
import Derived.Test.YtbeoegdkoodlfaaXVabx6
import Derived.Test.YtbeoegdkoodlfaaXVabx7
set_option linter.unusedVariables false
set_option linter.unusedSimpArgs false
namespace Go.Proofs.Ytbeoegdkoodlfaa.Q
open Go.RowKit Go.Proofs.YtbeoegdkoodlfaaW.PrintWords Go.Proofs.YtbeoegdkoodlfaaW.PrintMore Go.Proofs.Ytbeoegdkoodlfaa.XVab
theorem bt_bytes (s : ByteArray) (i : Nat) : bt s (i : Int) = (bytesOf s).getD i 0 := by
  rw [← rd_bytesOf]
  simp [rd]
theorem w32 {x : Int} (h0 : -2147483648 ≤ x) (h1 : x < 2147483648) : wrap32 x = x := by unfold wrap32; omega
/-- How the reference reads what goes on behind the first byte. -/
def rl (n : Nat) (low : Int) : Nat → Int → List Int → Rn
  | 0, r, _ => fin r low n
  | _ + 1, _, [] => bad
  | d + 1, r, c :: t => if Cont c then rl n low d (r * 64 + (c - 128)) t else bad
def tri (x : Rn) : Int × Int × Bool := (x.1, (x.2.1 : Int), x.2.2)
theorem getD_drop0 {l : List Int} {i : Nat} (h : i < l.length) : l.drop i = l.getD i 0 :: l.drop (i + 1) := by
  rw [List.drop_eq_getElem_cons h]
  congr 1
  rw [List.getD_eq_getElem?_getD, List.getElem?_eq_getElem h]
  rfl
theorem refDecode_l (s : ByteArray) (n : Nat) (low : Int) (hn : n ≤ s.size) (hs : s.size < 4611686018427387904) : ∀ (d i : Nat) (r : Int), i + d = n → 1 ≤ i → 0 ≤ r → (r + 1) * 64 ^ d ≤ 2097152 →
    Ev (fun k => loessref1_Decode.l0 k s (n : Int) low r (i : Int)) (tri (rl n low d r ((bytesOf s).drop i))) := by
  intro d
  induction d with
  | zero =>
    intro i r hi h1 h0 hr
    rw [Int.pow_zero, Int.mul_one] at hr
    refine Ev.step (f := fun _ => some (tri (fin r low n))) (fun k => ?_) (Ev.now _)
    simp only [loessref1_Decode.l0]
    rw [if_neg (by omega)]
    unfold fin
    by_cases h2 : r < low
    · rw [if_pos h2, if_pos (.inl h2)]; rfl
    · rw [if_neg h2]
      by_cases h3 : r > 1114111
      · rw [if_pos h3, if_pos (.inr (.inl h3))]; rfl
      · rw [if_neg h3]
        by_cases h4 : r ≥ 55296
        · rw [if_pos h4]
          by_cases h5 : r < 57344
          · rw [if_pos h5, if_pos (.inr (.inr ⟨h4, h5⟩))]; rfl
          · rw [if_neg h5, if_neg (by omega)]; rfl
        · rw [if_neg h4, if_neg (by omega)]; rfl
  | succ d ih =>
    intro i r hi h1 h0 hr
    have hlt : i < (bytesOf s).length := by rw [bytesOf_length]; omega
    have hb := (byt_bytesOf s) ((bytesOf s).getD i 0) (by
      rw [List.getD_eq_getElem?_getD, List.getElem?_eq_getElem hlt]
      exact List.getElem_mem hlt)
    rw [getD_drop0 hlt]
    have hp : (0 : Int) < 64 ^ d := by
      have := Nat.pow_pos (n := d) (show 0 < 64 by decide)
      exact_mod_cast this
    have hr2 : (r + 1) * 64 * 64 ^ d ≤ 2097152 := by rw [Int.mul_assoc, Int.mul_comm 64 (64 ^ d), ← Int.pow_succ]; exact hr
    have hr3 : (r + 1) * 64 ≤ 2097152 := by
      have := Int.mul_le_mul_of_nonneg_left (show (1 : Int) ≤ 64 ^ d by omega) (show 0 ≤ (r + 1) * 64 by omega)
      omega
    by_cases hc : Cont ((bytesOf s).getD i 0)
    · have hc' := hc
      unfold Cont at hc'
      refine Ev.step (f := fun k => loessref1_Decode.l0 k s (n : Int) low (r * 64 + ((bytesOf s).getD i 0 - 128)) ((i + 1 : Nat) : Int)) (fun k => ?_) (evEq (ih (i + 1) (r * 64 + ((bytesOf s).getD i 0 - 128)) (by omega) (by omega) (by omega) ?_) ?_)
      · simp only [loessref1_Decode.l0]
        rw [if_pos (by omega), if_pos (by omega), if_pos (by omega), bt_bytes, if_neg (by omega), if_neg (by omega)]
        rw [w32 (x := r * 64) (by omega) (by omega), w32 (x := (bytesOf s).getD i 0) (by omega) (by omega), w32 (x := r * 64 + (bytesOf s).getD i 0) (by omega) (by omega), w32 (by omega) (by omega), w64 (by omega) (by omega)]
        rw [show r * 64 + (bytesOf s).getD i 0 - 128 = r * 64 + ((bytesOf s).getD i 0 - 128) by omega]
        rfl
      · refine Int.le_trans (Int.mul_le_mul_of_nonneg_right ?_ (Int.le_of_lt hp)) hr2
        omega
      · show _ = tri (if Cont ((bytesOf s).getD i 0) then rl n low d (r * 64 + ((bytesOf s).getD i 0 - 128)) ((bytesOf s).drop (i + 1)) else bad)
        rw [if_pos hc]
    · have hc' := hc
      unfold Cont at hc'
      refine Ev.step (f := fun _ => some (tri bad)) (fun k => ?_) (evEq (Ev.now _) ?_)
      · simp only [loessref1_Decode.l0]
        rw [if_pos (by omega), if_pos (by omega), if_pos (by omega), bt_bytes]
        by_cases h2 : (bytesOf s).getD i 0 < 128
        · rw [if_pos h2]; rfl
        · rw [if_neg h2, if_pos (by omega)]; rfl
      · unfold rl
        rw [if_neg hc]
theorem dec_rl {l : List Int} (h : l ≠ []) : dec l =
    if l.getD 0 0 < 128 then (l.getD 0 0, 1, true)
    else if 192 ≤ l.getD 0 0 ∧ l.getD 0 0 < 224 then (if l.length < 2 then bad else rl 2 128 1 (l.getD 0 0 - 192) (l.drop 1))
    else if 224 ≤ l.getD 0 0 ∧ l.getD 0 0 < 240 then (if l.length < 3 then bad else rl 3 2048 2 (l.getD 0 0 - 224) (l.drop 1))
    else if 240 ≤ l.getD 0 0 ∧ l.getD 0 0 < 248 then (if l.length < 4 then bad else rl 4 65536 3 (l.getD 0 0 - 240) (l.drop 1))
    else bad := by
  unfold dec
  by_cases h0 : l.getD 0 0 < 128
  · rw [if_pos h0, if_pos h0]
  rw [if_neg h0, if_neg h0]
  by_cases h1 : 192 ≤ l.getD 0 0 ∧ l.getD 0 0 < 224
  · rw [if_pos h1, if_pos h1]
    by_cases hl : l.length < 2
    · rw [if_neg (by omega), if_pos hl]
    · rw [if_neg hl]
      rw [getD_drop0 (i := 1) (by omega)]
      unfold rl
      by_cases hc : Cont (l.getD 1 0)
      · rw [if_pos ⟨by omega, hc⟩, if_pos hc]; rfl
      · rw [if_neg (fun hh => hc hh.2), if_neg hc]
  rw [if_neg h1, if_neg h1]
  by_cases h2 : 224 ≤ l.getD 0 0 ∧ l.getD 0 0 < 240
  · rw [if_pos h2, if_pos h2]
    by_cases hl : l.length < 3
    · rw [if_neg (by omega), if_pos hl]
    · rw [if_neg hl]
      rw [getD_drop0 (i := 1) (by omega), getD_drop0 (i := 2) (by omega)]
      unfold rl
      by_cases hc : Cont (l.getD 1 0)
      · rw [if_pos hc]
        unfold rl
        by_cases hc2 : Cont (l.getD 2 0)
        · rw [if_pos ⟨by omega, hc, hc2⟩, if_pos hc2]; rfl
        · rw [if_neg (fun hh => hc2 hh.2.2), if_neg hc2]
      · rw [if_neg (fun hh => hc hh.2.1), if_neg hc]
  rw [if_neg h2, if_neg h2]
  by_cases h3 : 240 ≤ l.getD 0 0 ∧ l.getD 0 0 < 248
  · rw [if_pos h3, if_pos h3]
    by_cases hl : l.length < 4
    · rw [if_neg (by omega), if_pos hl]
    · rw [if_neg hl]
      rw [getD_drop0 (i := 1) (by omega), getD_drop0 (i := 2) (by omega), getD_drop0 (i := 3) (by omega)]
      unfold rl
      by_cases hc : Cont (l.getD 1 0)
      · rw [if_pos hc]
        unfold rl
        by_cases hc2 : Cont (l.getD 2 0)
        · rw [if_pos hc2]
          unfold rl
          by_cases hc3 : Cont (l.getD 3 0)
          · rw [if_pos ⟨by omega, hc, hc2, hc3⟩, if_pos hc3]; rfl
          · rw [if_neg (fun hh => hc3 hh.2.2.2), if_neg hc3]
        · rw [if_neg (fun hh => hc2 hh.2.2.1), if_neg hc2]
      · rw [if_neg (fun hh => hc hh.2.1), if_neg hc]
  rw [if_neg h3, if_neg h3]
theorem refDecode_ev {s : ByteArray} (h0 : 0 < s.size) (hs : s.size < 4611686018427387904) : Ev (fun k => loessref1_Decode.f k s) (tri (dec (bytesOf s))) := by
  have hlen := bytesOf_length s
  have hne : bytesOf s ≠ [] := by intro hh; rw [hh] at hlen; simp at hlen; omega
  have hlt : 0 < (bytesOf s).length := by omega
  have hb := (byt_bytesOf s) ((bytesOf s).getD 0 0) (by
    rw [List.getD_eq_getElem?_getD, List.getElem?_eq_getElem hlt]
    exact List.getElem_mem hlt)
  have hbt : bt s 0 = (bytesOf s).getD 0 0 := bt_bytes s 0
  -- the three ways on
  have hj2 : ∀ (n : Nat) (low r : Int), 2 ≤ n → n ≤ 4 → 0 ≤ r → (r + 1) * 64 ^ (n - 1) ≤ 2097152 →
      Ev (fun k => loessref1_Decode.j2 k s (n : Int) low r) (tri (if (bytesOf s).length < n then bad else rl n low (n - 1) r ((bytesOf s).drop 1))) := by
    intro n low r hn2 hn4 hr0 hr
    by_cases hl : (bytesOf s).length < n
    · rw [if_pos hl]
      refine Ev.step (f := fun _ => some (tri bad)) (fun k => ?_) (Ev.now _)
      simp only [loessref1_Decode.j2]
      rw [if_pos (by omega)]
      rfl
    · rw [if_neg hl]
      refine Ev.step (fun k => ?_) (refDecode_l s n low (by omega) hs (n - 1) 1 r (by omega) (by omega) hr0 hr)
      simp only [loessref1_Decode.j2]
      rw [if_neg (by omega)]
      rfl
  rw [dec_rl hne]
  generalize hc : (bytesOf s).getD 0 0 = c at *
  unfold loessref1_Decode.f
  refine Ev.congr (fun k => if_pos (by omega)) ?_
  rw [hbt]
  by_cases c0 : c < 128
  · refine Ev.congr (fun k => if_pos c0) ?_
    rw [if_pos c0, w32 (by omega) (by omega)]
    exact Ev.now _
  rw [if_neg c0]
  refine Ev.congr (fun k => if_neg c0) ?_
  -- to j0 with a bool
  have hj0 : ∀ k, (if c ≥ 192 then loessref1_Decode.j0 k s c (decide (c < 224)) else loessref1_Decode.j0 k s c false) = loessref1_Decode.j0 k s c (decide (192 ≤ c ∧ c < 224)) := by
    intro k
    by_cases h : c ≥ 192
    · rw [if_pos h]; congr 1; simp [h]
    · rw [if_neg h]; congr 1; simp; omega
  refine Ev.congr hj0 ?_
  by_cases c1 : 192 ≤ c ∧ c < 224
  · rw [if_pos c1]
    refine Ev.step (fun k => ?_) (hj2 2 128 (c - 192) (by omega) (by omega) (by omega) (by simp; omega))
    simp only [loessref1_Decode.j0]
    rw [if_pos (by simp [c1]), w32 (x := c) (by omega) (by omega), w32 (by omega) (by omega)]
    rfl
  rw [if_neg c1]
  have hj1 : ∀ k, loessref1_Decode.j0 (k + 1) s c (decide (192 ≤ c ∧ c < 224)) = loessref1_Decode.j1 k s c (decide (224 ≤ c ∧ c < 240)) := by
    intro k
    simp only [loessref1_Decode.j0]
    rw [if_neg (by simpa using fun h => by omega)]
    by_cases h : c ≥ 224
    · rw [if_pos h]; congr 1; simp [h]
    · rw [if_neg h]; congr 1; simp; omega
  refine Ev.step hj1 ?_
  by_cases c2 : 224 ≤ c ∧ c < 240
  · rw [if_pos c2]
    refine Ev.step (fun k => ?_) (hj2 3 2048 (c - 224) (by omega) (by omega) (by omega) (by simp; omega))
    simp only [loessref1_Decode.j1]
    rw [if_pos (by simp [c2]), w32 (x := c) (by omega) (by omega), w32 (by omega) (by omega)]
    rfl
  rw [if_neg c2]
  by_cases c3 : 240 ≤ c ∧ c < 248
  · rw [if_pos c3]
    refine Ev.step (fun k => ?_) (hj2 4 65536 (c - 240) (by omega) (by omega) (by omega) (by simp; omega))
    simp only [loessref1_Decode.j1]
    rw [if_neg (by simpa using fun h => by omega), if_pos (by omega), if_pos (by omega), w32 (x := c) (by omega) (by omega), w32 (by omega) (by omega)]
    rfl
  · rw [if_neg c3]
    refine Ev.step (f := fun _ => some (tri bad)) (fun k => ?_) (Ev.now _)
    simp only [loessref1_Decode.j1]
    rw [if_neg (by simpa using fun h => by omega)]
    by_cases h : c ≥ 240
    · rw [if_pos h, if_neg (by omega)]; rfl
    · rw [if_neg h]; rfl
/-- Where the runes begin, as the reference lists them. -/
def begins : List Rn → Nat → List Int
  | [], _ => []
  | d :: r, p => (p : Int) :: begins r (p + d.2.1)
theorem begins_len (d : List Rn) (p : Nat) : (begins d p).length = d.length := by
  induction d generalizing p with
  | nil => rfl
  | cons a d ih => simp [begins, ih]
theorem begins_get (d : List Rn) (p i : Nat) (h : i < d.length) : (begins d p).getD i 0 = ((p + wd (d.take i) : Nat) : Int) := by
  induction d generalizing p i with
  | nil => simp at h
  | cons a d ih =>
    cases i with
    | zero => simp [begins, wd]
    | succ i =>
      simp only [List.length_cons] at h
      have := ih (p + a.2.1) i (by omega)
      simp only [begins, List.getD_cons_succ, List.take_succ_cons, wd, List.map_cons, List.sum_cons] at this ⊢
      rw [this]
      omega
theorem extract_bytes (s : ByteArray) (p : Nat) : bytesOf (s.extract p s.size) = (bytesOf s).drop p := by
  rw [bytesOf_extract, List.take_of_length_le (by rw [bytesOf_length]; omega)]
theorem refValid_l (s : ByteArray) (hs : s.size < 17592186044416) : ∀ (n p : Nat), s.size ≤ p + n → p ≤ s.size →
    Ev (fun k => loessref1_Valid.l0 k s (p : Int)) ((ds ((bytesOf s).drop p)).all (·.2.2)) := by
  intro n
  induction n with
  | zero =>
    intro p h hp
    rw [List.drop_of_length_le (by rw [bytesOf_length]; omega), ds_nil]
    refine Ev.step (f := fun _ => some true) (fun k => ?_) (Ev.now _)
    simp only [loessref1_Valid.l0]
    rw [if_neg (by omega)]
  | succ n ih =>
    intro p h hp
    by_cases hlt : p < s.size
    · have hne : (bytesOf s).drop p ≠ [] := by
        intro hh
        have := congrArg List.length hh
        rw [List.length_drop, bytesOf_length, List.length_nil] at this
        omega
      have hw := dec_width ((bytesOf s).drop p)
      have hf := dec_fits (List.length_pos_iff.2 hne)
      rw [List.length_drop, bytesOf_length] at hf
      have hd := refDecode_ev (s := s.extract p s.size) (by rw [ByteArray.size_extract]; omega) (by rw [ByteArray.size_extract]; omega)
      rw [extract_bytes] at hd
      have hrec := ih (p + (dec ((bytesOf s).drop p)).2.1) (by omega) (by omega)
      rw [ds_cons hne]
      refine Ev.step (f := fun k => (loessref1_Decode.f k (s.extract p s.size)).bind fun x => if x.2.2 = true then loessref1_Valid.l0 k s (wrap64 ((p : Int) + x.2.1)) else some false) (fun k => ?_) (Ev.bind hd ?_)
      · simp only [loessref1_Valid.l0]
        rw [if_pos (by omega), if_pos (by omega), if_pos (by omega), Int.toNat_natCast]
      · simp only [tri, List.all_cons]
        by_cases hok : (dec ((bytesOf s).drop p)).2.2 = true
        · refine Ev.congr (fun k => if_pos hok) (Ev.congr (fun k => ?_) (evEq hrec (by rw [hok, Bool.true_and, List.drop_drop])))
          rw [w64 (by omega) (by omega)]
          rfl
        · have h2 : (dec ((bytesOf s).drop p)).2.2 = false := by simpa using hok
          exact Ev.congr (fun k => if_neg hok) (evEq (Ev.now false) (by rw [h2, Bool.false_and]))
    · rw [List.drop_of_length_le (by rw [bytesOf_length]; omega), ds_nil]
      refine Ev.step (f := fun _ => some true) (fun k => ?_) (Ev.now _)
      simp only [loessref1_Valid.l0]
      rw [if_neg (by omega)]
theorem refValid_ev {s : ByteArray} (hs : s.size < 17592186044416) : Ev (fun k => loessref1_Valid.f k s) ((ds (bytesOf s)).all (·.2.2)) := by
  have h := refValid_l s hs s.size 0 (by omega) (by omega)
  rw [List.drop_zero] at h
  exact h
--FI
end Go.Proofs.Ytbeoegdkoodlfaa.Q
