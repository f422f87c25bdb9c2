/- Bytes as bits and back: a plain law. -/
import Derived.Test.YtbaopegmdllbeaaGBitsOf
set_option linter.unusedVariables false
set_option linter.unusedSimpArgs false
namespace Go.Proofs.Ytbaopegmdllbeaa.GL
open Go.RowKit Go.Proofs.YtbaopegmdllbeaaW.PrintWords Go.Proofs.YtbaopegmdllbeaaW.PrintMore Go.Proofs.Ytbaopegmdllbeaa.Q Go.Proofs.Ytbaopegmdllbeaa.XBit
theorem unpack_get (p : List Int) (n i : Nat) : (unpack p n).getD i false = (decide (i < n) && bitAt p i) := by
  unfold unpack
  rw [List.getD_eq_getElem?_getD, List.getElem?_map]
  by_cases h : i < n
  · rw [List.getElem?_range h, decide_eq_true h]; rfl
  · rw [List.getElem?_eq_none (by simpa using h), decide_eq_false h]; rfl
theorem byte_ext {a b : Int} (a0 : 0 ≤ a) (a1 : a < 256) (b0 : 0 ≤ b) (b1 : b < 256) (h : ∀ k, k < 8 → a / 2 ^ (7 - k) % 2 = b / 2 ^ (7 - k) % 2) : a = b := by
  have h0 := h 0 (by omega)
  have h1 := h 1 (by omega)
  have h2 := h 2 (by omega)
  have h3 := h 3 (by omega)
  have h4 := h 4 (by omega)
  have h5 := h 5 (by omega)
  have h6 := h 6 (by omega)
  have h7 := h 7 (by omega)
  simp only [show (2 : Int) ^ (7 - 0) = 128 from rfl, show (2 : Int) ^ (7 - 1) = 64 from rfl, show (2 : Int) ^ (7 - 2) = 32 from rfl, show (2 : Int) ^ (7 - 3) = 16 from rfl, show (2 : Int) ^ (7 - 4) = 8 from rfl, show (2 : Int) ^ (7 - 5) = 4 from rfl, show (2 : Int) ^ (7 - 6) = 2 from rfl, show (2 : Int) ^ (7 - 7) = 1 from rfl] at h0 h1 h2 h3 h4 h5 h6 h7
  omega
theorem chunk_bit (p : List Int) (n j k : Nat) (hk : k < 8) : byteOf (((unpack p n).drop (8 * j)).take 8) 0 / 2 ^ (7 - k) % 2 = if (decide (8 * j + k < n) && bitAt p (8 * j + k)) = true then 1 else 0 := by
  have h := byteOf_bit (((unpack p n).drop (8 * j)).take 8) 0 k (by rw [List.length_take]; omega) (by omega)
  rw [Nat.zero_add] at h
  rw [h]
  have e : (((unpack p n).drop (8 * j)).take 8).getD k false = (unpack p n).getD (8 * j + k) false := by
    rw [List.getD_eq_getElem?_getD, List.getD_eq_getElem?_getD, List.getElem?_take, if_pos hk, List.getElem?_drop]
  rw [e, unpack_get]
theorem bit_of (p : List Int) (j k : Nat) (hk : k < 8) (hb : Byt p) : p.getD j 0 / 2 ^ (7 - k) % 2 = if bitAt p (8 * j + k) = true then 1 else 0 := by
  unfold bitAt
  have e1 : (8 * j + k) / 8 = j := by omega
  have e2 : (8 * j + k) % 8 = k := by omega
  rw [e1, e2]
  obtain ⟨x, hx⟩ : ∃ x, x = p.getD j 0 / 2 ^ (7 - k) % 2 := ⟨_, rfl⟩
  rw [← hx]
  have : x = 0 ∨ x = 1 := by omega
  rcases this with h | h <;> rw [h] <;> simp
/-- Bytes are so many bits just if they are as many, and noughts stand behind. -/
theorem pack_unpack (p : List Int) (n : Nat) (hb : Byt p) : pack (unpack p n) = p ↔ ((n + 7) / 8 = p.length ∧ ∀ i, n ≤ i → i < 8 * p.length → bitAt p i = false) := by
  constructor
  · intro h
    have hl := congrArg List.length h
    rw [pack_len, unpack_len] at hl
    refine ⟨hl, fun i h1 h2 => ?_⟩
    have hj : i / 8 < (n + 7) / 8 := by omega
    have hg : p.getD (i / 8) 0 = byteOf (((unpack p n).drop (8 * (i / 8))).take 8) 0 := by
      conv => lhs; rw [← h]
      rw [List.getD_eq_getElem?_getD, pack_get, unpack_len, if_pos hj]
      rfl
    have hk : i % 8 < 8 := Nat.mod_lt _ (by decide)
    have e := bit_of p (i / 8) (i % 8) hk hb
    rw [hg, chunk_bit p n (i / 8) (i % 8) hk, show 8 * (i / 8) + i % 8 = i by omega, decide_eq_false (by omega)] at e
    cases hc : bitAt p i
    · rfl
    · rw [hc] at e
      simp at e
  · rintro ⟨hl, hz⟩
    apply List.ext_getElem?
    intro j
    rw [pack_get, unpack_len, hl]
    by_cases hj : j < p.length
    · rw [if_pos hj, List.getElem?_eq_getElem hj]
      congr 1
      have hbj := hb p[j] (List.getElem_mem hj)
      have hbo := byteOf_byt (((unpack p n).drop (8 * j)).take 8) 0 (by rw [List.length_take]; omega)
      refine byte_ext hbo.1 hbo.2 hbj.1 hbj.2 (fun k hk => ?_)
      have e := bit_of p j k hk hb
      rw [List.getD_eq_getElem?_getD, List.getElem?_eq_getElem hj, Option.getD_some] at e
      rw [e, chunk_bit p n j k hk]
      by_cases hn : 8 * j + k < n
      · rw [decide_eq_true hn, Bool.true_and]
      · rw [decide_eq_false hn, hz (8 * j + k) (by omega) (by omega)]
        simp
    · rw [if_neg hj, List.getElem?_eq_none (by omega)]
/-- Are so many bits from a place on not set? -/
def clear_ (p : List Int) (n t : Nat) : Bool := (List.range t).all fun s => !bitAt p (n + s)
theorem clear_succ (p : List Int) (n t : Nat) : clear_ p n (t + 1) = (clear_ p n t && !bitAt p (n + t)) := by
  unfold clear_
  rw [List.range_succ, List.all_append]
  simp
theorem of_none {p : List Int} {n : Int} (hb : Byt p) (h : n < 0 ∨ 8 * (p.length : Int) < n ∨ n ≤ 8 * (p.length : Int) - 8) : ofBits p n = none := by
  unfold ofBits
  refine if_neg fun ⟨h0, h1, h2⟩ => ?_
  have := ((pack_unpack p n.toNat hb).1 h2).1
  omega
theorem of_tail {p : List Int} {n : Nat} (hb : Byt p) (h1 : n ≤ 8 * p.length) (h2 : 8 * p.length < n + 8) :
    (∀ t, n + t ≤ 8 * p.length → clear_ p n t = false → ofBits p (n : Int) = none) ∧ (clear_ p n (8 * p.length - n) = true → ofBits p (n : Int) = some (unpack p n)) := by
  refine ⟨fun t ht hc => ?_, fun hc => ?_⟩
  · unfold ofBits
    refine if_neg fun ⟨h0, _, h3⟩ => ?_
    have hz := ((pack_unpack p n hb).1 h3).2
    have : clear_ p n t = true := by
      unfold clear_
      rw [List.all_eq_true]
      intro s hs
      rw [List.mem_range] at hs
      rw [hz (n + s) (by omega) (by omega)]
      rfl
    rw [this] at hc
    cases hc
  · have hp : pack (unpack p n) = p := (pack_unpack p n hb).2 ⟨by omega, fun i hi1 hi2 => by
      unfold clear_ at hc
      rw [List.all_eq_true] at hc
      have := hc (i - n) (by rw [List.mem_range]; omega)
      rw [show n + (i - n) = i by omega] at this
      simpa using this⟩
    exact if_pos ⟨by omega, by omega, hp⟩
theorem of_pack {p : List Int} {n : Int} {L : List Bool} (h : ofBits p n = some L) : pack L = p ∧ (L.length : Int) = n := by
  unfold ofBits at h
  split at h
  · rename_i hc
    injection h with h
    rw [← h]
    exact ⟨hc.2.2, by rw [unpack_len]; omega⟩
  · cases h
end Go.Proofs.Ytbaopegmdllbeaa.GL
