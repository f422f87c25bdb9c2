import Derived.Test.YtbogcnfmdakdmaaWMore
import Derived.Lib.Bytes
import Derived.Laws.RangeAny
import Derived.KernelRfl
import Derived.Shelf.Abstract
import Derived.Test.YtbogcnfmdakdmaaZBatchOne1
import Derived.Test.YtbogcnfmdakdmaaZBatchOne2
/- Plain lemmas of this session's own: numbers that wrap, bits as numbers, bytes and texts, rounds. -/
set_option linter.unusedVariables false
set_option linter.unusedSimpArgs false
namespace Go.Proofs.Ytbogcnfmdakdmaa.Q
open Go.RowKit Go.Proofs.YtbogcnfmdakdmaaW.PrintWords Go.Proofs.YtbogcnfmdakdmaaW.PrintMore
theorem w64 {x : Int} (h0 : -9223372036854775808 ≤ x) (h1 : x < 9223372036854775808) : wrap64 x = x := by unfold wrap64; omega
theorem u64_mod (n : Int) : IntKind.u64.wrap n = n % 18446744073709551616 := by simp [IntKind.wrap, IntKind.bits, IntKind.signed]
theorem u64 {x : Int} (h0 : 0 ≤ x) (h1 : x < 18446744073709551616) : IntKind.u64.wrap x = x := by rw [u64_mod]; omega
theorem wraps_u64 (n : Int) (h0 : 0 ≤ n) (h1 : n < 2 ^ 64) : IntKind.u64.wrap n = n := u64 h0 (by omega)
theorem wfI64 {n : Int} (h : (Lit.int .i64 n).wf = true) : -9223372036854775808 ≤ n ∧ n < 9223372036854775808 := by
  simp only [Lit.wf, IntKind.min, IntKind.max, IntKind.signed, IntKind.bits, Bool.and_eq_true, decide_eq_true_eq, if_true] at h
  omega
theorem wfU64 {n : Int} (h : (Lit.int .u64 n).wf = true) : 0 ≤ n ∧ n < 18446744073709551616 := by
  simp only [Lit.wf, IntKind.min, IntKind.max, IntKind.signed, IntKind.bits, Bool.and_eq_true, decide_eq_true_eq, Bool.false_eq_true, if_false] at h
  omega
theorem wfU8 {n : Int} (h : (Lit.int .u8 n).wf = true) : 0 ≤ n ∧ n < 256 := by
  simp only [Lit.wf, IntKind.min, IntKind.max, IntKind.signed, IntKind.bits, Bool.and_eq_true, decide_eq_true_eq, Bool.false_eq_true, if_false] at h
  omega
theorem wfI32 {n : Int} (h : (Lit.int .i32 n).wf = true) : -2147483648 ≤ n ∧ n < 2147483648 := by
  simp only [Lit.wf, IntKind.min, IntKind.max, IntKind.signed, IntKind.bits, Bool.and_eq_true, decide_eq_true_eq, if_true] at h
  omega
/-- Each number is a byte. -/
def Byt (l : List Int) : Prop := ∀ x ∈ l, 0 ≤ x ∧ x < 256
theorem Byt.nil : Byt [] := fun _ h => by cases h
theorem Byt.of_wf {l : List Int} (h : ∀ x ∈ l, (Lit.int .u8 x).wf = true) : Byt l := fun x hx => wfU8 (h x hx)
theorem Byt.cons {c : Int} {l : List Int} (h0 : 0 ≤ c) (h1 : c < 256) (h : Byt l) : Byt (c :: l) := by
  intro x hx
  rcases List.mem_cons.1 hx with rfl | hx
  · exact ⟨h0, h1⟩
  · exact h x hx
theorem Byt.head {c : Int} {l : List Int} (h : Byt (c :: l)) : 0 ≤ c ∧ c < 256 := h c List.mem_cons_self
theorem Byt.tail {c : Int} {l : List Int} (h : Byt (c :: l)) : Byt l := fun x hx => h x (List.mem_cons_of_mem _ hx)
theorem Byt.append {l m : List Int} (h : Byt l) (k : Byt m) : Byt (l ++ m) := by
  intro x hx
  rcases List.mem_append.1 hx with hx | hx
  · exact h x hx
  · exact k x hx
theorem Byt.left {l m : List Int} (h : Byt (l ++ m)) : Byt l := fun x hx => h x (List.mem_append_left _ hx)
theorem Byt.right {l m : List Int} (h : Byt (l ++ m)) : Byt m := fun x hx => h x (List.mem_append_right _ hx)
theorem Byt.take {l : List Int} (h : Byt l) (n : Nat) : Byt (l.take n) := fun x hx => h x (List.mem_of_mem_take hx)
theorem Byt.drop {l : List Int} (h : Byt l) (n : Nat) : Byt (l.drop n) := fun x hx => h x (List.mem_of_mem_drop hx)
theorem byt_bytesOf (s : ByteArray) : Byt (bytesOf s) := by
  intro x hx
  simp only [bytesOf, List.mem_map] at hx
  obtain ⟨b, _, rfl⟩ := hx
  have := b.toNat_lt
  omega
theorem toList_eq (s : ByteArray) : s.toList = s.data.toList := Lib.toList_data s
theorem bytesOf_str {l : List Int} (h : Byt l) : bytesOf (strOfNums l) = l := by
  rw [bytesOf, strOfNums_data, List.map_map]
  conv => rhs; rw [← List.map_id l]
  apply List.map_congr_left
  intro x hx
  have := h x hx
  simp only [Function.comp_apply, id_eq, UInt8.toNat_ofNat']
  omega
theorem str_bytesOf (s : ByteArray) : strOfNums (bytesOf s) = s := by
  have h : (strOfNums (bytesOf s)).data = s.data := by
    apply Array.ext'
    rw [strOfNums_data, bytesOf, List.map_map]
    conv => rhs; rw [← List.map_id s.data.toList]
    apply List.map_congr_left
    intro b _
    simp
  cases hs : strOfNums (bytesOf s)
  cases s
  simp_all
theorem bytesOf_inj {a b : ByteArray} (h : bytesOf a = bytesOf b) : a = b := by rw [← str_bytesOf a, h, str_bytesOf]
theorem str_inj {l m : List Int} (hl : Byt l) (hm : Byt m) (h : strOfNums l = strOfNums m) : l = m := by rw [← bytesOf_str hl, h, bytesOf_str hm]
theorem toList_inj {a b : ByteArray} (h : a.toList = b.toList) : a = b := by
  rw [toList_eq, toList_eq] at h
  cases a; cases b
  simp only [ByteArray.mk.injEq]
  exact Array.ext' h
theorem toList_iff {a b : ByteArray} : a.toList = b.toList ↔ a = b := ⟨toList_inj, fun h => by rw [h]⟩
theorem bytesOf_append (a b : ByteArray) : bytesOf (a ++ b) = bytesOf a ++ bytesOf b := by simp [bytesOf]
theorem str_append (l m : List Int) : strOfNums (l ++ m) = strOfNums l ++ strOfNums m := by
  have h : (strOfNums (l ++ m)).data = (strOfNums l ++ strOfNums m).data := by
    apply Array.ext'
    simp [strOfNums_data]
  cases h1 : strOfNums (l ++ m)
  cases h2 : strOfNums l ++ strOfNums m
  simp_all
theorem bytesOf_extract (s : ByteArray) (i j : Nat) : bytesOf (s.extract i j) = ((bytesOf s).take j).drop i := by
  rw [bytesOf, ByteArray.data_extract, Array.toList_extract, bytesOf]
  simp [List.extract, List.map_take, List.map_drop, List.drop_take]
theorem size_of_bytes (s : ByteArray) : s.size = (bytesOf s).length := (bytesOf_length s).symm
/- bits -/
theorem or_comm' (k : IntKind) (x y : Int) : Go.bits .or k x y = Go.bits .or k y x := by
  show k.wrap ((BitVec.ofInt k.bits x ||| BitVec.ofInt k.bits y).toNat : Int) = k.wrap ((BitVec.ofInt k.bits y ||| BitVec.ofInt k.bits x).toNat : Int)
  rw [BitVec.or_comm]
theorem or_join (i : Nat) (hi : i ≤ 64) {x y : Int} (hx0 : 0 ≤ x) (hx : x < 2 ^ i) (hy0 : 0 ≤ y) (hy : y % 2 ^ i = 0) (hy1 : y < 2 ^ 64) : Go.bits .or .u64 x y = x + y := by
  have h64 : (2 : Int) ^ i ≤ 2 ^ 64 := by
    have := Nat.pow_le_pow_right (n := 2) (by decide) hi
    exact_mod_cast this
  rw [or_comm', bits_join .u64 64 (by decide) wraps_u64 i y x hy0 hy hy1 hx0 hx (by omega)]
  omega
theorem and127 {c : Int} (h0 : 0 ≤ c) (h1 : c < 256) : Go.bits .and .u8 c 127 = c % 128 := bits_mask .u8 8 (by decide) wraps_u8 7 (by decide) c h0 (by omega)
theorem or128 {c : Int} (h0 : 0 ≤ c) (h1 : c < 256) : Go.bits .or .u8 c 128 = c % 128 + 128 := by
  have h : c % 128 + 128 * (c / 128) = c := by omega
  obtain ⟨a, rfl⟩ := Int.eq_ofNat_of_zero_le h0
  have ha : a < 256 := by omega
  have e := (bits_nat .u8 8 (by decide) wraps_u8 a 128 (by omega) (by decide)).2
  have e2 : (a ||| 128) = a % 128 + 128 := by
    have := Nat.two_pow_add_eq_or_of_lt (i := 7) (b := a % 128) (Nat.mod_lt _ (by decide)) 1
    have h3 : a ||| 128 = (a % 128) ||| 128 := by
      apply Nat.eq_of_testBit_eq
      intro i
      simp only [Nat.testBit_or]
      rcases Nat.lt_or_ge i 7 with hi | hi
      · have : a % 128 = a % 2 ^ 7 := rfl
        rw [this, Nat.testBit_mod_two_pow]
        simp [hi]
      · have : a % 128 = a % 2 ^ 7 := rfl
        rw [this, Nat.testBit_mod_two_pow]
        rcases Nat.lt_or_ge i 8 with hi2 | hi2
        · have : i = 7 := by omega
          subst this
          simp
          intro _
          decide
        · rw [Nat.testBit_lt_two_pow (x := a) (by have := Nat.pow_le_pow_right (n := 2) (by decide) hi2; omega)]
          simp
    have h4 : 128 + a % 128 = 128 ||| a % 128 := this
    rw [h3, Nat.or_comm, ← h4]
    omega
  rw [show ((128 : Int)) = ((128 : Nat) : Int) from rfl, e, e2]
  omega
theorem not_u64 {x : Int} (h0 : 0 ≤ x) (h1 : x < 18446744073709551616) : Go.bits .xor .u64 18446744073709551615 x = 18446744073709551615 - x := by
  obtain ⟨a, rfl⟩ := Int.eq_ofNat_of_zero_le h0
  show IntKind.u64.wrap ((BitVec.ofInt 64 18446744073709551615 ^^^ BitVec.ofInt 64 (a : Int)).toNat : Int) = _
  have e : BitVec.ofInt 64 18446744073709551615 = BitVec.allOnes 64 := by decide
  rw [e, BitVec.ofInt_natCast, BitVec.allOnes_xor, BitVec.toNat_not, BitVec.toNat_ofNat, u64 (by omega) (by omega)]
  omega
theorem not_i64 {x : Int} (h0 : 0 ≤ x) (h1 : x < 9223372036854775808) : Go.bits .xor .i64 (-1) x = -x - 1 := by
  obtain ⟨a, rfl⟩ := Int.eq_ofNat_of_zero_le h0
  show IntKind.i64.wrap ((BitVec.ofInt 64 (-1) ^^^ BitVec.ofInt 64 (a : Int)).toNat : Int) = _
  have e : BitVec.ofInt 64 (-1) = BitVec.allOnes 64 := by decide
  rw [e, BitVec.ofInt_natCast, BitVec.allOnes_xor, BitVec.toNat_not, BitVec.toNat_ofNat, IntKind.wrap_i64]
  omega
theorem shl_u64 {x y : Int} (hy : 0 ≤ y) (hy1 : y ≤ 64) (h0 : 0 ≤ x) (h : x * 2 ^ y.toNat < 2 ^ 64) : shl .u64 x y = x * 2 ^ y.toNat := by
  unfold shl
  rw [Nat.min_eq_left (by show y.toNat ≤ 64; omega)]
  exact wraps_u64 _ (Int.mul_nonneg h0 (by have := Nat.two_pow_pos y.toNat; exact_mod_cast Nat.le_of_lt this)) h
theorem rd_append (p r : List Int) (c : Int) : rd (p ++ c :: r) (p.length : Int) = c := by simp [rd]
theorem rd_at {l : List Int} {i : Int} (h0 : 0 ≤ i) (h1 : i < l.length) : l.drop i.toNat = rd l i :: l.drop (i.toNat + 1) := by
  rw [List.drop_eq_getElem_cons (by omega)]
  congr 1
  simp [rd, List.getD]
  rw [List.getElem?_eq_getElem (by omega)]
  rfl
/- rounds -/
theorem evEq {α : Type} {g : Nat → Option α} {a b : α} (h : Ev g a) (e : a = b) : Ev g b := e ▸ h
theorem evC {α : Type} {o : Option α} {r : α} (h : o = some r) : Ev (fun _ => o) r := ⟨0, fun _ _ => h⟩
end Go.Proofs.Ytbogcnfmdakdmaa.Q

/- Runes of bytes, in plain Lean: what begins where; what is written of a rune; texts joined and cut. -/
set_option linter.unusedVariables false
set_option linter.unusedSimpArgs false
namespace Go.Proofs.Ytbogcnfmdakdmaa.Q
open Go.RowKit Go.Proofs.YtbogcnfmdakdmaaW.PrintWords Go.Proofs.YtbogcnfmdakdmaaW.PrintMore
abbrev Rn := Int × Nat × Bool
def bad : Rn := (65533, 1, false)
def fin (x low : Int) (n : Nat) : Rn := if x < low ∨ x > 1114111 ∨ (55296 ≤ x ∧ x < 57344) then bad else (x, n, true)
def Cont (c : Int) : Prop := 128 ≤ c ∧ c ≤ 191
instance (c : Int) : Decidable (Cont c) := inferInstanceAs (Decidable (_ ∧ _))
/-- The first rune of bytes, how many bytes it has, and whether one begins. -/
def dec (l : List Int) : Rn :=
  if l.getD 0 0 < 128 then (l.getD 0 0, 1, true)
  else if 192 ≤ l.getD 0 0 ∧ l.getD 0 0 < 224 then (if 2 ≤ l.length ∧ Cont (l.getD 1 0) then fin ((l.getD 0 0 - 192) * 64 + (l.getD 1 0 - 128)) 128 2 else bad)
  else if 224 ≤ l.getD 0 0 ∧ l.getD 0 0 < 240 then (if 3 ≤ l.length ∧ Cont (l.getD 1 0) ∧ Cont (l.getD 2 0) then fin (((l.getD 0 0 - 224) * 64 + (l.getD 1 0 - 128)) * 64 + (l.getD 2 0 - 128)) 2048 3 else bad)
  else if 240 ≤ l.getD 0 0 ∧ l.getD 0 0 < 248 then (if 4 ≤ l.length ∧ Cont (l.getD 1 0) ∧ Cont (l.getD 2 0) ∧ Cont (l.getD 3 0) then fin ((((l.getD 0 0 - 240) * 64 + (l.getD 1 0 - 128)) * 64 + (l.getD 2 0 - 128)) * 64 + (l.getD 3 0 - 128)) 65536 4 else bad)
  else bad
theorem fin_cases (x low : Int) (n : Nat) : fin x low n = bad ∨ (fin x low n = (x, n, true) ∧ low ≤ x ∧ x ≤ 1114111 ∧ ¬ (55296 ≤ x ∧ x < 57344)) := by
  unfold fin
  split
  · exact .inl rfl
  · exact .inr ⟨rfl, by omega⟩
/-- What begins with bytes, by its width. -/
theorem dec_cases (l : List Int) : dec l = bad ∨ (dec l).2.2 = true ∧
    ((dec l).2.1 = 1 ∧ l.getD 0 0 < 128 ∧ (dec l).1 = l.getD 0 0 ∨
     (dec l).2.1 = 2 ∧ 2 ≤ l.length ∧ 192 ≤ l.getD 0 0 ∧ l.getD 0 0 < 224 ∧ Cont (l.getD 1 0) ∧ (dec l).1 = (l.getD 0 0 - 192) * 64 + (l.getD 1 0 - 128) ∧ 128 ≤ (dec l).1 ∨
     (dec l).2.1 = 3 ∧ 3 ≤ l.length ∧ 224 ≤ l.getD 0 0 ∧ l.getD 0 0 < 240 ∧ Cont (l.getD 1 0) ∧ Cont (l.getD 2 0) ∧ (dec l).1 = ((l.getD 0 0 - 224) * 64 + (l.getD 1 0 - 128)) * 64 + (l.getD 2 0 - 128) ∧ 2048 ≤ (dec l).1 ∧ ¬ (55296 ≤ (dec l).1 ∧ (dec l).1 < 57344) ∨
     (dec l).2.1 = 4 ∧ 4 ≤ l.length ∧ 240 ≤ l.getD 0 0 ∧ l.getD 0 0 < 248 ∧ Cont (l.getD 1 0) ∧ Cont (l.getD 2 0) ∧ Cont (l.getD 3 0) ∧ (dec l).1 = (((l.getD 0 0 - 240) * 64 + (l.getD 1 0 - 128)) * 64 + (l.getD 2 0 - 128)) * 64 + (l.getD 3 0 - 128) ∧ 65536 ≤ (dec l).1 ∧ (dec l).1 ≤ 1114111) := by
  by_cases h0 : l.getD 0 0 < 128
  · right
    have e : dec l = (l.getD 0 0, 1, true) := by unfold dec; rw [if_pos h0]
    rw [e]
    exact ⟨rfl, .inl ⟨rfl, h0, rfl⟩⟩
  · by_cases h2 : 192 ≤ l.getD 0 0 ∧ l.getD 0 0 < 224
    · by_cases hc : 2 ≤ l.length ∧ Cont (l.getD 1 0)
      · have e : dec l = fin ((l.getD 0 0 - 192) * 64 + (l.getD 1 0 - 128)) 128 2 := by unfold dec; rw [if_neg h0, if_pos h2, if_pos hc]
        rw [e]
        rcases fin_cases ((l.getD 0 0 - 192) * 64 + (l.getD 1 0 - 128)) 128 2 with h | ⟨h, h3⟩
        · exact .inl h
        · rw [h]; exact .inr ⟨rfl, .inr (.inl ⟨rfl, hc.1, h2.1, h2.2, hc.2, rfl, h3.1⟩)⟩
      · left; unfold dec; rw [if_neg h0, if_pos h2, if_neg hc]
    · by_cases h3 : 224 ≤ l.getD 0 0 ∧ l.getD 0 0 < 240
      · by_cases hc : 3 ≤ l.length ∧ Cont (l.getD 1 0) ∧ Cont (l.getD 2 0)
        · have e : dec l = fin (((l.getD 0 0 - 224) * 64 + (l.getD 1 0 - 128)) * 64 + (l.getD 2 0 - 128)) 2048 3 := by unfold dec; rw [if_neg h0, if_neg h2, if_pos h3, if_pos hc]
          rw [e]
          rcases fin_cases (((l.getD 0 0 - 224) * 64 + (l.getD 1 0 - 128)) * 64 + (l.getD 2 0 - 128)) 2048 3 with h | ⟨h, h4⟩
          · exact .inl h
          · rw [h]; exact .inr ⟨rfl, .inr (.inr (.inl ⟨rfl, hc.1, h3.1, h3.2, hc.2.1, hc.2.2, rfl, h4.1, h4.2.2⟩))⟩
        · left; unfold dec; rw [if_neg h0, if_neg h2, if_pos h3, if_neg hc]
      · by_cases h4 : 240 ≤ l.getD 0 0 ∧ l.getD 0 0 < 248
        · by_cases hc : 4 ≤ l.length ∧ Cont (l.getD 1 0) ∧ Cont (l.getD 2 0) ∧ Cont (l.getD 3 0)
          · have e : dec l = fin ((((l.getD 0 0 - 240) * 64 + (l.getD 1 0 - 128)) * 64 + (l.getD 2 0 - 128)) * 64 + (l.getD 3 0 - 128)) 65536 4 := by unfold dec; rw [if_neg h0, if_neg h2, if_neg h3, if_pos h4, if_pos hc]
            rw [e]
            rcases fin_cases ((((l.getD 0 0 - 240) * 64 + (l.getD 1 0 - 128)) * 64 + (l.getD 2 0 - 128)) * 64 + (l.getD 3 0 - 128)) 65536 4 with h | ⟨h, h5⟩
            · exact .inl h
            · rw [h]; exact .inr ⟨rfl, .inr (.inr (.inr ⟨rfl, hc.1, h4.1, h4.2, hc.2.1, hc.2.2.1, hc.2.2.2, rfl, h5.1, h5.2.1⟩))⟩
          · left; unfold dec; rw [if_neg h0, if_neg h2, if_neg h3, if_pos h4, if_neg hc]
        · left; unfold dec; rw [if_neg h0, if_neg h2, if_neg h3, if_neg h4]
theorem dec_width (l : List Int) : 1 ≤ (dec l).2.1 := by
  rcases dec_cases l with h | ⟨_, h | h | h | h⟩
  · rw [h]; exact Nat.le_refl _
  all_goals omega
theorem dec_fits {l : List Int} (hl : 0 < l.length) : (dec l).2.1 ≤ l.length := by
  rcases dec_cases l with h | ⟨_, h | h | h | h⟩
  · rw [h]; exact hl
  all_goals omega
theorem dec_bad {l : List Int} (h : (dec l).2.2 = false) : dec l = bad := by
  rcases dec_cases l with h1 | ⟨h1, _⟩
  · exact h1
  · rw [h1] at h; cases h
/-- None begins just where the odd rune has one byte. -/
theorem dec_ok_iff (l : List Int) (hb : Byt l) : (dec l).2.2 = false ↔ ((dec l).1 = 65533 ∧ (dec l).2.1 = 1) := by
  constructor
  · intro h; rw [dec_bad h]; exact ⟨rfl, rfl⟩
  · rintro ⟨h1, h2⟩
    rcases dec_cases l with h | ⟨_, h | h | h | h⟩
    · rw [h]; rfl
    · omega
    all_goals omega
/-- A rune hangs on its own bytes alone. -/
theorem dec_take {l : List Int} (h : (dec l).2.2 = true) (hl : 0 < l.length) (m : List Int) : dec (l.take (dec l).2.1 ++ m) = dec l := by
  have g : ∀ k, k < (dec l).2.1 → (l.take (dec l).2.1 ++ m).getD k 0 = l.getD k 0 := by
    intro k hk
    have := dec_fits hl
    simp only [List.getD_eq_getElem?_getD]
    rw [List.getElem?_append_left (by simp only [List.length_take]; omega), List.getElem?_take]
    rw [if_pos hk]
  have gl : (dec l).2.1 ≤ (l.take (dec l).2.1 ++ m).length := by
    have := dec_fits hl
    simp only [List.length_append, List.length_take]
    omega
  generalize hL : l.take (dec l).2.1 ++ m = L at g gl
  rcases dec_cases l with h1 | ⟨_, h1 | h1 | h1 | h1⟩
  · rw [h1] at h; cases h
  · rw [h1.1] at g gl
    have g0 := g 0 (by decide)
    have e : dec L = (l.getD 0 0, 1, true) := by unfold dec; rw [g0, if_pos h1.2.1]
    rw [e]
    ext1 <;> simp_all
    ext1 <;> simp_all
  · obtain ⟨w, w1, w2, w3, w4, w5, w6⟩ := h1
    rw [w] at g gl
    have g0 := g 0 (by decide)
    have g1 := g 1 (by decide)
    have e : dec L = fin ((l.getD 0 0 - 192) * 64 + (l.getD 1 0 - 128)) 128 2 := by unfold dec; rw [g0, g1, if_neg (by omega), if_pos ⟨w2, w3⟩, if_pos ⟨gl, w4⟩]
    have e2 : dec l = fin ((l.getD 0 0 - 192) * 64 + (l.getD 1 0 - 128)) 128 2 := by unfold dec; rw [if_neg (by omega), if_pos ⟨w2, w3⟩, if_pos ⟨w1, w4⟩]
    rw [e, e2]
  · obtain ⟨w, w1, w2, w3, w4, w5, w6, w7⟩ := h1
    rw [w] at g gl
    have g0 := g 0 (by decide)
    have g1 := g 1 (by decide)
    have g2 := g 2 (by decide)
    have e : dec L = fin (((l.getD 0 0 - 224) * 64 + (l.getD 1 0 - 128)) * 64 + (l.getD 2 0 - 128)) 2048 3 := by unfold dec; rw [g0, g1, g2, if_neg (by omega), if_neg (by omega), if_pos ⟨w2, w3⟩, if_pos ⟨gl, w4, w5⟩]
    have e2 : dec l = fin (((l.getD 0 0 - 224) * 64 + (l.getD 1 0 - 128)) * 64 + (l.getD 2 0 - 128)) 2048 3 := by unfold dec; rw [if_neg (by omega), if_neg (by omega), if_pos ⟨w2, w3⟩, if_pos ⟨w1, w4, w5⟩]
    rw [e, e2]
  · obtain ⟨w, w1, w2, w3, w4, w5, w6, w7⟩ := h1
    rw [w] at g gl
    have g0 := g 0 (by decide)
    have g1 := g 1 (by decide)
    have g2 := g 2 (by decide)
    have g3 := g 3 (by decide)
    have e : dec L = fin ((((l.getD 0 0 - 240) * 64 + (l.getD 1 0 - 128)) * 64 + (l.getD 2 0 - 128)) * 64 + (l.getD 3 0 - 128)) 65536 4 := by unfold dec; rw [g0, g1, g2, g3, if_neg (by omega), if_neg (by omega), if_neg (by omega), if_pos ⟨w2, w3⟩, if_pos ⟨gl, w4, w5, w6⟩]
    have e2 : dec l = fin ((((l.getD 0 0 - 240) * 64 + (l.getD 1 0 - 128)) * 64 + (l.getD 2 0 - 128)) * 64 + (l.getD 3 0 - 128)) 65536 4 := by unfold dec; rw [if_neg (by omega), if_neg (by omega), if_neg (by omega), if_pos ⟨w2, w3⟩, if_pos ⟨w1, w4, w5, w6⟩]
    rw [e, e2]
theorem dec_append {l : List Int} (h : (dec l).2.2 = true) (hl : 0 < l.length) (m : List Int) : dec (l ++ m) = dec l := by
  have e : l ++ m = l.take (dec l).2.1 ++ (l.drop (dec l).2.1 ++ m) := by rw [← List.append_assoc, List.take_append_drop]
  rw [e, dec_take h hl]
/-- All runes of bytes. -/
def ds (l : List Int) : List Rn := if h : l = [] then [] else dec l :: ds (l.drop (dec l).2.1)
termination_by l.length
decreasing_by
  have := dec_width l
  have := List.length_pos_iff.2 h
  simp only [List.length_drop]
  omega
theorem ds_nil : ds [] = [] := by rw [ds, dif_pos rfl]
theorem ds_cons {l : List Int} (h : l ≠ []) : ds l = dec l :: ds (l.drop (dec l).2.1) := by rw [ds, dif_neg h]
def wd (d : List Rn) : Nat := (d.map (·.2.1)).sum
/-- What of bytes comes by the runes' widths: nothing is left over. -/
theorem ds_wd : ∀ (n : Nat) (l : List Int), l.length ≤ n → wd (ds l) = l.length := by
  intro n
  induction n with
  | zero => intro l hl; have : l = [] := List.eq_nil_of_length_eq_zero (by omega); subst this; rw [ds_nil]; rfl
  | succ n ih =>
    intro l hl
    by_cases h : l = []
    · subst h; rw [ds_nil]; rfl
    · have h1 := dec_width l
      have h2 := dec_fits (List.length_pos_iff.2 h)
      rw [ds_cons h]
      have := ih (l.drop (dec l).2.1) (by simp only [List.length_drop]; omega)
      simp only [wd, List.map_cons, List.sum_cons, List.length_drop] at this ⊢
      omega
theorem ds_len_le : ∀ (n : Nat) (l : List Int), l.length ≤ n → (ds l).length ≤ l.length := by
  intro n
  induction n with
  | zero => intro l hl; have : l = [] := List.eq_nil_of_length_eq_zero (by omega); subst this; rw [ds_nil]; exact Nat.le_refl _
  | succ n ih =>
    intro l hl
    by_cases h : l = []
    · subst h; rw [ds_nil]; exact Nat.le_refl _
    · have h1 := dec_width l
      have h2 := dec_fits (List.length_pos_iff.2 h)
      rw [ds_cons h]
      have := ih (l.drop (dec l).2.1) (by simp only [List.length_drop]; omega)
      simp only [List.length_cons, List.length_drop] at this ⊢
      omega
theorem ds_append : ∀ (n : Nat) (l m : List Int), l.length ≤ n → (ds l).all (·.2.2) = true → ds (l ++ m) = ds l ++ ds m := by
  intro n
  induction n with
  | zero => intro l m hl _; have : l = [] := List.eq_nil_of_length_eq_zero (by omega); subst this; rw [ds_nil]; rfl
  | succ n ih =>
    intro l m hl ha
    by_cases h : l = []
    · subst h; rw [ds_nil]; rfl
    · have h0 := List.length_pos_iff.2 h
      have h1 := dec_width l
      have h2 := dec_fits h0
      rw [ds_cons h] at ha ⊢
      simp only [List.all_cons, Bool.and_eq_true] at ha
      have hne : l ++ m ≠ [] := by simp [h]
      rw [ds_cons hne, dec_append ha.1 h0 m, List.drop_append_of_le_length h2, ih _ m (by simp only [List.length_drop]; omega) ha.2]
      rfl
theorem ds_drop : ∀ (k : Nat) (l : List Int), ds (l.drop (wd ((ds l).take k))) = (ds l).drop k := by
  intro k
  induction k with
  | zero => intro l; simp [wd]
  | succ k ih =>
    intro l
    by_cases h : l = []
    · subst h; rw [ds_nil]; simp [wd, ds_nil]
    · have e := ih (l.drop (dec l).2.1)
      rw [ds_cons h]
      simp only [List.take_succ_cons, List.drop_succ_cons, wd, List.map_cons, List.sum_cons]
      rw [← e, List.drop_drop]
      rfl
/-- The runes of the first bytes, cut between runes. -/
theorem ds_take : ∀ (k : Nat) (l : List Int), ds (l.take (wd ((ds l).take k))) = (ds l).take k := by
  intro k
  induction k with
  | zero => intro l; simp [wd, ds_nil]
  | succ k ih =>
    intro l
    by_cases h : l = []
    · subst h; simp [ds_nil]
    · have h0 := List.length_pos_iff.2 h
      have h1 := dec_width l
      have h2 := dec_fits h0
      have e := ih (l.drop (dec l).2.1)
      have hw : wd ((ds l).take (k + 1)) = (dec l).2.1 + wd ((ds (l.drop (dec l).2.1)).take k) := by
        rw [ds_cons h]
        simp only [List.take_succ_cons, wd, List.map_cons, List.sum_cons]
      have hsplit : l.take (wd ((ds l).take (k + 1))) = l.take (dec l).2.1 ++ (l.drop (dec l).2.1).take (wd ((ds (l.drop (dec l).2.1)).take k)) := by
        rw [hw, List.take_add]
      have hne : l.take (wd ((ds l).take (k + 1))) ≠ [] := by
        intro hh
        have := congrArg List.length hh
        simp only [List.length_take, List.length_nil] at this
        omega
      have hd : dec (l.take (wd ((ds l).take (k + 1)))) = dec l := by
        rw [hsplit]
        by_cases hok : (dec l).2.2 = true
        · exact dec_take hok h0 _
        · have hb := dec_bad (by simpa using hok)
          by_cases hok2 : (dec (l.take (dec l).2.1 ++ (l.drop (dec l).2.1).take (wd ((ds (l.drop (dec l).2.1)).take k)))).2.2 = true
          · have happ := dec_append hok2 (by simp only [List.length_append, List.length_take]; omega) (l.drop (wd ((ds l).take (k + 1))))
            rw [← hsplit, List.take_append_drop] at happ
            rw [hsplit] at happ
            rw [← happ] at hok2
            exact absurd hok2 hok
          · exact (dec_bad (by simpa using hok2)).trans hb.symm
      rw [ds_cons hne, hd]
      conv => rhs; rw [ds_cons h, List.take_succ_cons]
      congr 1
      rw [hsplit, List.drop_append_of_le_length (by simp only [List.length_take]; omega), List.drop_take, Nat.sub_self, List.take_zero, List.nil_append]
      exact e
theorem wd_take_le (d : List Rn) (k : Nat) : wd (d.take k) ≤ wd d := by
  induction d generalizing k with
  | nil => simp [wd]
  | cons a d ih =>
    cases k with
    | zero => simp [wd]
    | succ k => have := ih k; simp only [wd, List.take_succ_cons, List.map_cons, List.sum_cons] at this ⊢; omega
theorem wd_append (a b : List Rn) : wd (a ++ b) = wd a + wd b := by simp [wd]
/-- The model's own decode tells the same. -/
theorem get_byte (s : ByteArray) (p k : Nat) (h : p + k < s.size) : ((bytesOf s).drop p).getD k 0 = ((s.get! (p + k)).toNat : Int) := by
  have e : s.get! (p + k) = s.data[p + k]'h := by simp [ByteArray.get!, getElem!_pos, h]
  have hd : p + k < s.data.toList.length := by rw [Array.length_toList]; exact h
  rw [e]
  simp only [List.getD_eq_getElem?_getD, List.getElem?_drop, bytesOf, List.getElem?_map]
  rw [List.getElem?_eq_getElem hd]
  simp
/-- The model's decode over the numbers that it reads. -/
def mdec (sz p x0 x1 x2 x3 : Nat) : Nat × Nat :=
  if x0 < 128 then (x0, 1)
  else if x0 / 32 == 6 && (decide (p + 1 < sz) && x1 / 64 == 2) then
    (if 128 ≤ x0 % 32 * 64 + x1 % 64 then (x0 % 32 * 64 + x1 % 64, 2) else (65533, 1))
  else if x0 / 16 == 14 && (decide (p + 1 < sz) && x1 / 64 == 2) && (decide (p + 2 < sz) && x2 / 64 == 2) then
    (if decide (2048 ≤ x0 % 16 * 4096 + x1 % 64 * 64 + x2 % 64) && Utf8.valid ((x0 % 16 * 4096 + x1 % 64 * 64 + x2 % 64 : Nat) : Int) then (x0 % 16 * 4096 + x1 % 64 * 64 + x2 % 64, 3) else (65533, 1))
  else if x0 / 8 == 30 && (decide (p + 1 < sz) && x1 / 64 == 2) && (decide (p + 2 < sz) && x2 / 64 == 2) && (decide (p + 3 < sz) && x3 / 64 == 2) then
    (if decide (65536 ≤ x0 % 8 * 262144 + x1 % 64 * 4096 + x2 % 64 * 64 + x3 % 64) && Utf8.valid ((x0 % 8 * 262144 + x1 % 64 * 4096 + x2 % 64 * 64 + x3 % 64 : Nat) : Int) then (x0 % 8 * 262144 + x1 % 64 * 4096 + x2 % 64 * 64 + x3 % 64, 4) else (65533, 1))
  else (65533, 1)
theorem decode_mdec (s : ByteArray) (p : Nat) : Utf8.decode s p = mdec s.size p (s.get! (p + 0)).toNat (s.get! (p + 1)).toNat (s.get! (p + 2)).toNat (s.get! (p + 3)).toNat := rfl
/-- The spec's decode over the numbers that it reads. -/
def qdec (n : Nat) (y0 y1 y2 y3 : Int) : Rn :=
  if y0 < 128 then (y0, 1, true)
  else if 192 ≤ y0 ∧ y0 < 224 then (if 2 ≤ n ∧ Cont y1 then fin ((y0 - 192) * 64 + (y1 - 128)) 128 2 else bad)
  else if 224 ≤ y0 ∧ y0 < 240 then (if 3 ≤ n ∧ Cont y1 ∧ Cont y2 then fin (((y0 - 224) * 64 + (y1 - 128)) * 64 + (y2 - 128)) 2048 3 else bad)
  else if 240 ≤ y0 ∧ y0 < 248 then (if 4 ≤ n ∧ Cont y1 ∧ Cont y2 ∧ Cont y3 then fin ((((y0 - 240) * 64 + (y1 - 128)) * 64 + (y2 - 128)) * 64 + (y3 - 128)) 65536 4 else bad)
  else bad
theorem dec_qdec (l : List Int) : dec l = qdec l.length (l.getD 0 0) (l.getD 1 0) (l.getD 2 0) (l.getD 3 0) := rfl
theorem mdec_prop (sz p x0 x1 x2 x3 : Nat) : mdec sz p x0 x1 x2 x3 =
    if x0 < 128 then (x0, 1)
    else if x0 / 32 = 6 ∧ p + 1 < sz ∧ x1 / 64 = 2 then (if 128 ≤ x0 % 32 * 64 + x1 % 64 then (x0 % 32 * 64 + x1 % 64, 2) else (65533, 1))
    else if (x0 / 16 = 14 ∧ p + 1 < sz ∧ x1 / 64 = 2) ∧ p + 2 < sz ∧ x2 / 64 = 2 then
      (if 2048 ≤ x0 % 16 * 4096 + x1 % 64 * 64 + x2 % 64 ∧ (x0 % 16 * 4096 + x1 % 64 * 64 + x2 % 64 < 55296 ∨ (57344 ≤ x0 % 16 * 4096 + x1 % 64 * 64 + x2 % 64 ∧ x0 % 16 * 4096 + x1 % 64 * 64 + x2 % 64 ≤ 1114111)) then (x0 % 16 * 4096 + x1 % 64 * 64 + x2 % 64, 3) else (65533, 1))
    else if ((x0 / 8 = 30 ∧ p + 1 < sz ∧ x1 / 64 = 2) ∧ p + 2 < sz ∧ x2 / 64 = 2) ∧ p + 3 < sz ∧ x3 / 64 = 2 then
      (if 65536 ≤ x0 % 8 * 262144 + x1 % 64 * 4096 + x2 % 64 * 64 + x3 % 64 ∧ (x0 % 8 * 262144 + x1 % 64 * 4096 + x2 % 64 * 64 + x3 % 64 < 55296 ∨ (57344 ≤ x0 % 8 * 262144 + x1 % 64 * 4096 + x2 % 64 * 64 + x3 % 64 ∧ x0 % 8 * 262144 + x1 % 64 * 4096 + x2 % 64 * 64 + x3 % 64 ≤ 1114111)) then (x0 % 8 * 262144 + x1 % 64 * 4096 + x2 % 64 * 64 + x3 % 64, 4) else (65533, 1))
    else (65533, 1) := by
  have hval : ∀ x : Nat, Utf8.valid (x : Int) = true ↔ (x < 55296 ∨ (57344 ≤ x ∧ x ≤ 1114111)) := by
    intro x
    simp only [Utf8.valid, Bool.or_eq_true, Bool.and_eq_true, decide_eq_true_eq]
    omega
  unfold mdec
  simp only [Bool.and_eq_true, decide_eq_true_eq, beq_iff_eq, hval, and_assoc]
theorem mdec_qdec (sz p n x0 x1 x2 x3 : Nat) (y0 y1 y2 y3 : Int) (h : p < sz) (hlen : n = sz - p) (g0 : y0 = x0) (g1 : p + 1 < sz → y1 = x1) (g2 : p + 2 < sz → y2 = x2) (g3 : p + 3 < sz → y3 = x3)
    (b0 : x0 < 256) (b1 : x1 < 256) (b2 : x2 < 256) (b3 : x3 < 256) : (((mdec sz p x0 x1 x2 x3).1 : Int), (mdec sz p x0 x1 x2 x3).2) = ((qdec n y0 y1 y2 y3).1, (qdec n y0 y1 y2 y3).2.1) := by
  have fb : ∀ {x low : Int} {n : Nat}, (x < low ∨ x > 1114111 ∨ (55296 ≤ x ∧ x < 57344)) → fin x low n = bad := fun h => by unfold fin; rw [if_pos h]
  have fg : ∀ {x low : Int} {n : Nat}, ¬ (x < low ∨ x > 1114111 ∨ (55296 ≤ x ∧ x < 57344)) → fin x low n = (x, n, true) := fun h => by unfold fin; rw [if_neg h]
  by_cases h0 : x0 < 128
  · have hm : mdec sz p x0 x1 x2 x3 = (x0, 1) := by rw [mdec_prop, if_pos h0]
    have hq : qdec n y0 y1 y2 y3 = (y0, 1, true) := by unfold qdec; rw [if_pos (by omega)]
    rw [hm, hq, g0]
  have h0' : ¬ y0 < 128 := by omega
  by_cases h1 : x0 / 32 = 6
  · have h1' : 192 ≤ y0 ∧ y0 < 224 := by omega
    by_cases hc : p + 1 < sz ∧ x1 / 64 = 2
    · have e1 := g1 hc.1
      have hc' : 2 ≤ n ∧ Cont y1 := by unfold Cont; omega
      have hq0 : qdec n y0 y1 y2 y3 = fin ((y0 - 192) * 64 + (y1 - 128)) 128 2 := by unfold qdec; rw [if_neg h0', if_pos h1', if_pos hc']
      by_cases hv : 128 ≤ x0 % 32 * 64 + x1 % 64
      · have hm : mdec sz p x0 x1 x2 x3 = (x0 % 32 * 64 + x1 % 64, 2) := by rw [mdec_prop, if_neg h0, if_pos ⟨h1, hc⟩, if_pos hv]
        rw [hm, hq0, fg (by omega)]
        refine Prod.ext ?_ rfl
        show ((x0 % 32 * 64 + x1 % 64 : Nat) : Int) = (y0 - 192) * 64 + (y1 - 128)
        omega
      · have hm : mdec sz p x0 x1 x2 x3 = (65533, 1) := by rw [mdec_prop, if_neg h0, if_pos ⟨h1, hc⟩, if_neg hv]
        rw [hm, hq0, fb (by omega)]
        rfl
    · have e1 : ¬ (2 ≤ n ∧ Cont y1) := by
        unfold Cont
        intro hh
        have := g1 (by omega)
        omega
      have hm : mdec sz p x0 x1 x2 x3 = (65533, 1) := by rw [mdec_prop, if_neg h0, if_neg (fun hh => hc hh.2), if_neg (by omega), if_neg (by omega)]
      have hq : qdec n y0 y1 y2 y3 = bad := by unfold qdec; rw [if_neg h0', if_pos h1', if_neg e1]
      rw [hm, hq]
      rfl
  have h1' : ¬ (192 ≤ y0 ∧ y0 < 224) := by omega
  by_cases h2 : x0 / 16 = 14
  · have h2' : 224 ≤ y0 ∧ y0 < 240 := by omega
    by_cases hc : (p + 1 < sz ∧ x1 / 64 = 2) ∧ (p + 2 < sz ∧ x2 / 64 = 2)
    · have e1 := g1 hc.1.1
      have e2 := g2 hc.2.1
      have hc' : 3 ≤ n ∧ Cont y1 ∧ Cont y2 := by unfold Cont; omega
      have hq0 : qdec n y0 y1 y2 y3 = fin (((y0 - 224) * 64 + (y1 - 128)) * 64 + (y2 - 128)) 2048 3 := by unfold qdec; rw [if_neg h0', if_neg h1', if_pos h2', if_pos hc']
      by_cases hv : 2048 ≤ x0 % 16 * 4096 + x1 % 64 * 64 + x2 % 64 ∧ (x0 % 16 * 4096 + x1 % 64 * 64 + x2 % 64 < 55296 ∨ (57344 ≤ x0 % 16 * 4096 + x1 % 64 * 64 + x2 % 64 ∧ x0 % 16 * 4096 + x1 % 64 * 64 + x2 % 64 ≤ 1114111))
      · have hm : mdec sz p x0 x1 x2 x3 = (x0 % 16 * 4096 + x1 % 64 * 64 + x2 % 64, 3) := by rw [mdec_prop, if_neg h0, if_neg (fun hh => h1 hh.1), if_pos ⟨⟨h2, hc.1⟩, hc.2⟩, if_pos hv]
        rw [hm, hq0, fg (by omega)]
        refine Prod.ext ?_ rfl
        show ((x0 % 16 * 4096 + x1 % 64 * 64 + x2 % 64 : Nat) : Int) = ((y0 - 224) * 64 + (y1 - 128)) * 64 + (y2 - 128)
        omega
      · have hm : mdec sz p x0 x1 x2 x3 = (65533, 1) := by rw [mdec_prop, if_neg h0, if_neg (fun hh => h1 hh.1), if_pos ⟨⟨h2, hc.1⟩, hc.2⟩, if_neg hv]
        rw [hm, hq0, fb (by omega)]
        rfl
    · have e1 : ¬ (3 ≤ n ∧ Cont y1 ∧ Cont y2) := by
        unfold Cont
        intro hh
        have := g1 (by omega)
        have := g2 (by omega)
        omega
      have hm : mdec sz p x0 x1 x2 x3 = (65533, 1) := by rw [mdec_prop, if_neg h0, if_neg (fun hh => h1 hh.1), if_neg (fun hh => hc ⟨hh.1.2, hh.2⟩), if_neg (by omega)]
      have hq : qdec n y0 y1 y2 y3 = bad := by unfold qdec; rw [if_neg h0', if_neg h1', if_pos h2', if_neg e1]
      rw [hm, hq]
      rfl
  have h2' : ¬ (224 ≤ y0 ∧ y0 < 240) := by omega
  by_cases h3 : x0 / 8 = 30
  · have h3' : 240 ≤ y0 ∧ y0 < 248 := by omega
    by_cases hc : ((p + 1 < sz ∧ x1 / 64 = 2) ∧ (p + 2 < sz ∧ x2 / 64 = 2)) ∧ (p + 3 < sz ∧ x3 / 64 = 2)
    · have e1 := g1 hc.1.1.1
      have e2 := g2 hc.1.2.1
      have e3 := g3 hc.2.1
      have hc' : 4 ≤ n ∧ Cont y1 ∧ Cont y2 ∧ Cont y3 := by unfold Cont; omega
      have hq0 : qdec n y0 y1 y2 y3 = fin ((((y0 - 240) * 64 + (y1 - 128)) * 64 + (y2 - 128)) * 64 + (y3 - 128)) 65536 4 := by unfold qdec; rw [if_neg h0', if_neg h1', if_neg h2', if_pos h3', if_pos hc']
      by_cases hv : 65536 ≤ x0 % 8 * 262144 + x1 % 64 * 4096 + x2 % 64 * 64 + x3 % 64 ∧ (x0 % 8 * 262144 + x1 % 64 * 4096 + x2 % 64 * 64 + x3 % 64 < 55296 ∨ (57344 ≤ x0 % 8 * 262144 + x1 % 64 * 4096 + x2 % 64 * 64 + x3 % 64 ∧ x0 % 8 * 262144 + x1 % 64 * 4096 + x2 % 64 * 64 + x3 % 64 ≤ 1114111))
      · have hm : mdec sz p x0 x1 x2 x3 = (x0 % 8 * 262144 + x1 % 64 * 4096 + x2 % 64 * 64 + x3 % 64, 4) := by rw [mdec_prop, if_neg h0, if_neg (fun hh => h1 hh.1), if_neg (fun hh => h2 hh.1.1), if_pos ⟨⟨⟨h3, hc.1.1⟩, hc.1.2⟩, hc.2⟩, if_pos hv]
        rw [hm, hq0, fg (by omega)]
        refine Prod.ext ?_ rfl
        show ((x0 % 8 * 262144 + x1 % 64 * 4096 + x2 % 64 * 64 + x3 % 64 : Nat) : Int) = (((y0 - 240) * 64 + (y1 - 128)) * 64 + (y2 - 128)) * 64 + (y3 - 128)
        omega
      · have hm : mdec sz p x0 x1 x2 x3 = (65533, 1) := by rw [mdec_prop, if_neg h0, if_neg (fun hh => h1 hh.1), if_neg (fun hh => h2 hh.1.1), if_pos ⟨⟨⟨h3, hc.1.1⟩, hc.1.2⟩, hc.2⟩, if_neg hv]
        rw [hm, hq0, fb (by omega)]
        rfl
    · have e1 : ¬ (4 ≤ n ∧ Cont y1 ∧ Cont y2 ∧ Cont y3) := by
        unfold Cont
        intro hh
        have := g1 (by omega)
        have := g2 (by omega)
        have := g3 (by omega)
        omega
      have hm : mdec sz p x0 x1 x2 x3 = (65533, 1) := by rw [mdec_prop, if_neg h0, if_neg (fun hh => h1 hh.1), if_neg (fun hh => h2 hh.1.1), if_neg (fun hh => hc ⟨⟨hh.1.1.2, hh.1.2⟩, hh.2⟩)]
      have hq : qdec n y0 y1 y2 y3 = bad := by unfold qdec; rw [if_neg h0', if_neg h1', if_neg h2', if_pos h3', if_neg e1]
      rw [hm, hq]
      rfl
  have hm : mdec sz p x0 x1 x2 x3 = (65533, 1) := by rw [mdec_prop, if_neg h0, if_neg (fun hh => h1 hh.1), if_neg (fun hh => h2 hh.1.1), if_neg (fun hh => h3 hh.1.1.1)]
  have hq : qdec n y0 y1 y2 y3 = bad := by unfold qdec; rw [if_neg h0', if_neg h1', if_neg h2', if_neg (by omega)]
  rw [hm, hq]
  rfl
theorem decode_eq (s : ByteArray) (p : Nat) (h : p < s.size) : (((Utf8.decode s p).1 : Int), (Utf8.decode s p).2) = ((dec ((bytesOf s).drop p)).1, (dec ((bytesOf s).drop p)).2.1) := by
  rw [decode_mdec, dec_qdec]
  refine mdec_qdec _ _ _ _ _ _ _ _ _ _ _ h (by rw [List.length_drop, bytesOf_length]) (get_byte s p 0 (by omega)) (get_byte s p 1) (get_byte s p 2) (get_byte s p 3) ?_ ?_ ?_ ?_ <;> exact UInt8.toNat_lt _
end Go.Proofs.Ytbogcnfmdakdmaa.Q

/- The functions of package runes and of its reference tell what QRunes says. -/
set_option linter.unusedVariables false
set_option linter.unusedSimpArgs false
namespace Go.Proofs.Ytbogcnfmdakdmaa.Q
open Go.RowKit Go.Proofs.YtbogcnfmdakdmaaW.PrintWords Go.Proofs.YtbogcnfmdakdmaaW.PrintMore Go.Proofs.Ytbogcnfmdakdmaa.G
/-- Where each rune begins. -/
def withPos : List Rn → Nat → List (Int × Nat)
  | [], _ => []
  | d :: r, p => (d.1, p) :: withPos r (p + d.2.1)
theorem withPos_len (d : List Rn) (p : Nat) : (withPos d p).length = d.length := by
  induction d generalizing p with
  | nil => rfl
  | cons a d ih => simp [withPos, ih]
theorem withPos_fst (d : List Rn) (p : Nat) : (withPos d p).map (·.1) = d.map (·.1) := by
  induction d generalizing p with
  | nil => rfl
  | cons a d ih => simp [withPos, ih]
theorem drop_ne {s : ByteArray} {p : Nat} (h : p < s.size) : (bytesOf s).drop p ≠ [] := by
  intro hh
  have := congrArg List.length hh
  rw [List.length_drop, bytesOf_length, List.length_nil] at this
  omega
theorem dec_fits_at {s : ByteArray} {p : Nat} (h : p < s.size) : p + (dec ((bytesOf s).drop p)).2.1 ≤ s.size := by
  have := dec_fits (List.length_pos_iff.2 (drop_ne h))
  rw [List.length_drop, bytesOf_length] at this
  omega
theorem runesAt_eq (s : ByteArray) : ∀ (f p : Nat), s.size ≤ p + f → runesAt s f p = withPos (ds ((bytesOf s).drop p)) p := by
  intro f
  induction f with
  | zero =>
    intro p hp
    rw [List.drop_of_length_le (by rw [bytesOf_length]; omega), ds_nil]
    rfl
  | succ f ih =>
    intro p hp
    unfold runesAt
    by_cases h : p < s.size
    · have e := decode_eq s p h
      simp only [Prod.mk.injEq] at e
      have hw := dec_width ((bytesOf s).drop p)
      rw [if_pos h, ds_cons (drop_ne h), e.1, e.2, ih _ (by omega), List.drop_drop]
      rfl
    · rw [if_neg h, List.drop_of_length_le (by rw [bytesOf_length]; omega), ds_nil]
      rfl
theorem validAt_eq (s : ByteArray) : ∀ (f p : Nat) (l : Int), s.size ≤ p + f → p ≤ s.size → (l = -1 ∨ (0 ≤ l ∧ l + 1 ≤ p)) →
    validAt s f p l = (!(decide (0 ≤ l ∧ (p : Int) = l + 1)) && (ds ((bytesOf s).drop p)).all (·.2.2)) := by
  intro f
  induction f with
  | zero =>
    intro p l hp hle hl
    rw [List.drop_of_length_le (by rw [bytesOf_length]; omega), ds_nil]
    unfold validAt
    simp only [List.all_nil, Bool.and_true]
    rw [Bool.eq_iff_iff]
    simp only [Bool.or_eq_true, decide_eq_true_eq, Bool.not_eq_true', decide_eq_false_iff_not]
    omega
  | succ f ih =>
    intro p l hp hle hl
    unfold validAt
    by_cases h : p < s.size
    · have e := decode_eq s p h
      simp only [Prod.mk.injEq] at e
      have hw := dec_width ((bytesOf s).drop p)
      have hf := dec_fits_at h
      have hok := dec_ok_iff ((bytesOf s).drop p) ((byt_bytesOf s).drop p)
      rw [if_pos h, ds_cons (drop_ne h), e.1, e.2]
      by_cases h1 : 0 ≤ l ∧ (p : Int) = l + 1
      · rw [if_pos h1, decide_eq_true h1]
        rfl
      · rw [if_neg h1, decide_eq_false h1]
        simp only [Bool.not_false, Bool.true_and, List.all_cons]
        by_cases h2 : (dec ((bytesOf s).drop p)).1 = 65533
        · rw [if_pos h2, ih _ _ (by omega) hf (by omega), List.drop_drop]
          congr 1
          by_cases h3 : (dec ((bytesOf s).drop p)).2.1 = 1
          · rw [hok.2 ⟨h2, h3⟩, decide_eq_true (by omega)]
            rfl
          · have : (dec ((bytesOf s).drop p)).2.2 = true := by
              cases hh : (dec ((bytesOf s).drop p)).2.2
              · exact absurd (hok.1 hh).2 h3
              · rfl
            rw [this, decide_eq_false (by omega)]
            rfl
        · rw [if_neg h2, ih _ _ (by omega) hf (by omega), List.drop_drop]
          have : (dec ((bytesOf s).drop p)).2.2 = true := by
            cases hh : (dec ((bytesOf s).drop p)).2.2
            · exact absurd (hok.1 hh).1 h2
            · rfl
          rw [this, decide_eq_false (by omega)]
          rfl
    · rw [if_neg h, List.drop_of_length_le (by rw [bytesOf_length]; omega), ds_nil]
      simp only [List.all_nil, Bool.and_true]
      rw [Bool.eq_iff_iff]
      simp only [Bool.or_eq_true, decide_eq_true_eq, Bool.not_eq_true', decide_eq_false_iff_not]
      omega
theorem atAt_eq (s : ByteArray) (n : Int) : ∀ (f p k : Nat), s.size ≤ p + f → (n < 0 ∨ (k : Int) ≤ n) →
    atAt s n f p k = match (if n < 0 then none else (withPos (ds ((bytesOf s).drop p)) p)[n.toNat - k]?) with
      | none => (0, 0, false)
      | some x => (x.1, (x.2 : Int), true) := by
  intro f
  induction f with
  | zero =>
    intro p k hp hk
    rw [List.drop_of_length_le (by rw [bytesOf_length]; omega), ds_nil]
    unfold atAt
    split <;> simp_all [withPos]
  | succ f ih =>
    intro p k hp hk
    unfold atAt
    by_cases h : p < s.size
    · have e := decode_eq s p h
      simp only [Prod.mk.injEq] at e
      have hw := dec_width ((bytesOf s).drop p)
      rw [if_pos h, ds_cons (drop_ne h), e.1, e.2]
      by_cases h1 : (k : Int) = n
      · rw [if_pos h1, if_neg (by omega), show n.toNat - k = 0 by omega]
        rfl
      · rw [if_neg h1, ih _ _ (by omega) (by omega), List.drop_drop]
        by_cases h2 : n < 0
        · rw [if_pos h2, if_pos h2]
        · rw [if_neg h2, if_neg h2, show n.toNat - k = (n.toNat - (k + 1)) + 1 by omega]
          rfl
    · rw [if_neg h, List.drop_of_length_le (by rw [bytesOf_length]; omega), ds_nil]
      split <;> simp_all [withPos]
theorem withPos_get (d : List Rn) (p i : Nat) (h : i < d.length) : (withPos d p)[i]? = some ((d[i]).1, p + wd (d.take i)) := by
  induction d generalizing p i with
  | nil => simp at h
  | cons a d ih =>
    cases i with
    | zero => simp [withPos, wd]
    | succ i =>
      simp only [List.length_cons] at h
      simp only [withPos, List.getElem?_cons_succ, ih _ _ (by omega : i < d.length), List.getElem_cons_succ, List.take_succ_cons, wd, List.map_cons, List.sum_cons]
      simp only [Option.some.injEq, Prod.mk.injEq, true_and]
      omega
theorem empty_size : (⟨#[]⟩ : ByteArray).size = 0 := rfl
theorem bytes_empty : bytesOf (⟨#[]⟩ : ByteArray) = [] := rfl
theorem cutAt_eq (s : ByteArray) (n : Int) : ∀ (f p k : Nat), s.size ≤ p + f → p ≤ s.size → (0 < n → (k : Int) ≤ n) → (n ≤ 0 → p = 0 ∧ k = 0) →
    bytesOf (cutAt s n f p k) = if n ≤ 0 then [] else (bytesOf s).take (p + wd ((ds ((bytesOf s).drop p)).take (n.toNat - k))) := by
  intro f
  induction f with
  | zero =>
    intro p k hp hle hk h0
    rw [List.drop_of_length_le (by rw [bytesOf_length]; omega), ds_nil]
    unfold cutAt
    split
    · rfl
    · rw [List.take_of_length_le]; rw [bytesOf_length]; omega
  | succ f ih =>
    intro p k hp hle hk h0
    unfold cutAt
    by_cases h : p < s.size
    · have e := decode_eq s p h
      simp only [Prod.mk.injEq] at e
      have hw := dec_width ((bytesOf s).drop p)
      have hf := dec_fits_at h
      rw [if_pos h]
      by_cases hn : n ≤ 0
      · obtain ⟨rfl, rfl⟩ := h0 hn
        rw [if_pos (by omega), if_pos hn, bytesOf_extract]
        rfl
      · rw [if_neg hn]
        by_cases h1 : (k : Int) ≥ n
        · have := hk (by omega)
          rw [if_pos h1, show n.toNat - k = 0 by omega, bytesOf_extract]
          simp [wd]
        · rw [if_neg h1, e.2, ih _ _ (by omega) hf (fun _ => by omega) (fun hh => absurd hh hn), if_neg hn]
          congr 1
          conv => rhs; rw [ds_cons (drop_ne h), show n.toNat - k = (n.toNat - (k + 1)) + 1 by omega, List.take_succ_cons]
          simp only [wd, List.map_cons, List.sum_cons, List.drop_drop]
          omega
    · rw [if_neg h, List.drop_of_length_le (by rw [bytesOf_length]; omega), ds_nil]
      split
      · rfl
      · rw [List.take_of_length_le]; rw [bytesOf_length]; omega
/-- All runes of a text. -/
def D (s : ByteArray) : List Rn := ds (bytesOf s)
theorem D_wd (s : ByteArray) : wd (D s) = s.size := by rw [D, ds_wd _ _ (Nat.le_refl _), bytesOf_length]
theorem D_len (s : ByteArray) : (D s).length ≤ s.size := by rw [← bytesOf_length]; exact ds_len_le _ _ (Nat.le_refl _)
def vld (s : ByteArray) : Bool := (D s).all (·.2.2)
theorem rValid {s : ByteArray} (h : s.size < 35184372088832) : runes_Valid.f s = some (vld s) := by
  unfold runes_Valid.f
  rw [if_pos (by omega), validAt_eq s s.size 0 (-1) (by omega) (by omega) (.inl rfl), List.drop_zero, decide_eq_false (by omega)]
  rfl
/-- The first runes' bytes. -/
def cutB (s : ByteArray) (n : Int) : List Int := (bytesOf s).take (wd ((D s).take n.toNat))
end Go.Proofs.Ytbogcnfmdakdmaa.Q

/- The reference's runes tell what QRunes says. -/
set_option linter.unusedVariables false
set_option linter.unusedSimpArgs false
namespace Go.Proofs.Ytbogcnfmdakdmaa.Q
open Go.RowKit Go.Proofs.YtbogcnfmdakdmaaW.PrintWords Go.Proofs.YtbogcnfmdakdmaaW.PrintMore Go.Proofs.Ytbogcnfmdakdmaa.XBat
theorem bt_bytes (s : ByteArray) (i : Nat) : bt s (i : Int) = (bytesOf s).getD i 0 := by
  rw [← rd_bytesOf]
  simp [rd]
theorem w32 {x : Int} (h0 : -2147483648 ≤ x) (h1 : x < 2147483648) : wrap32 x = x := by unfold wrap32; omega
/-- How the reference reads what goes on behind the first byte. -/
def rl (n : Nat) (low : Int) : Nat → Int → List Int → Rn
  | 0, r, _ => fin r low n
  | _ + 1, _, [] => bad
  | d + 1, r, c :: t => if Cont c then rl n low d (r * 64 + (c - 128)) t else bad
def tri (x : Rn) : Int × Int × Bool := (x.1, (x.2.1 : Int), x.2.2)
theorem getD_drop0 {l : List Int} {i : Nat} (h : i < l.length) : l.drop i = l.getD i 0 :: l.drop (i + 1) := by
  rw [List.drop_eq_getElem_cons h]
  congr 1
  rw [List.getD_eq_getElem?_getD, List.getElem?_eq_getElem h]
  rfl
theorem refDecode_l (s : ByteArray) (n : Nat) (low : Int) (hn : n ≤ s.size) (hs : s.size < 4611686018427387904) : ∀ (d i : Nat) (r : Int), i + d = n → 1 ≤ i → 0 ≤ r → (r + 1) * 64 ^ d ≤ 2097152 →
    Ev (fun k => loessref1_Decode.l0 k s (n : Int) low r (i : Int)) (tri (rl n low d r ((bytesOf s).drop i))) := by
  intro d
  induction d with
  | zero =>
    intro i r hi h1 h0 hr
    rw [Int.pow_zero, Int.mul_one] at hr
    refine Ev.step (f := fun _ => some (tri (fin r low n))) (fun k => ?_) (Ev.now _)
    simp only [loessref1_Decode.l0]
    rw [if_neg (by omega)]
    unfold fin
    by_cases h2 : r < low
    · rw [if_pos h2, if_pos (.inl h2)]; rfl
    · rw [if_neg h2]
      by_cases h3 : r > 1114111
      · rw [if_pos h3, if_pos (.inr (.inl h3))]; rfl
      · rw [if_neg h3]
        by_cases h4 : r ≥ 55296
        · rw [if_pos h4]
          by_cases h5 : r < 57344
          · rw [if_pos h5, if_pos (.inr (.inr ⟨h4, h5⟩))]; rfl
          · rw [if_neg h5, if_neg (by omega)]; rfl
        · rw [if_neg h4, if_neg (by omega)]; rfl
  | succ d ih =>
    intro i r hi h1 h0 hr
    have hlt : i < (bytesOf s).length := by rw [bytesOf_length]; omega
    have hb := (byt_bytesOf s) ((bytesOf s).getD i 0) (by
      rw [List.getD_eq_getElem?_getD, List.getElem?_eq_getElem hlt]
      exact List.getElem_mem hlt)
    rw [getD_drop0 hlt]
    have hp : (0 : Int) < 64 ^ d := by
      have := Nat.pow_pos (n := d) (show 0 < 64 by decide)
      exact_mod_cast this
    have hr2 : (r + 1) * 64 * 64 ^ d ≤ 2097152 := by rw [Int.mul_assoc, Int.mul_comm 64 (64 ^ d), ← Int.pow_succ]; exact hr
    have hr3 : (r + 1) * 64 ≤ 2097152 := by
      have := Int.mul_le_mul_of_nonneg_left (show (1 : Int) ≤ 64 ^ d by omega) (show 0 ≤ (r + 1) * 64 by omega)
      omega
    by_cases hc : Cont ((bytesOf s).getD i 0)
    · have hc' := hc
      unfold Cont at hc'
      refine Ev.step (f := fun k => loessref1_Decode.l0 k s (n : Int) low (r * 64 + ((bytesOf s).getD i 0 - 128)) ((i + 1 : Nat) : Int)) (fun k => ?_) (evEq (ih (i + 1) (r * 64 + ((bytesOf s).getD i 0 - 128)) (by omega) (by omega) (by omega) ?_) ?_)
      · simp only [loessref1_Decode.l0]
        rw [if_pos (by omega), if_pos (by omega), if_pos (by omega), bt_bytes, if_neg (by omega), if_neg (by omega)]
        rw [w32 (x := r * 64) (by omega) (by omega), w32 (x := (bytesOf s).getD i 0) (by omega) (by omega), w32 (x := r * 64 + (bytesOf s).getD i 0) (by omega) (by omega), w32 (by omega) (by omega), w64 (by omega) (by omega)]
        rw [show r * 64 + (bytesOf s).getD i 0 - 128 = r * 64 + ((bytesOf s).getD i 0 - 128) by omega]
        rfl
      · refine Int.le_trans (Int.mul_le_mul_of_nonneg_right ?_ (Int.le_of_lt hp)) hr2
        omega
      · show _ = tri (if Cont ((bytesOf s).getD i 0) then rl n low d (r * 64 + ((bytesOf s).getD i 0 - 128)) ((bytesOf s).drop (i + 1)) else bad)
        rw [if_pos hc]
    · have hc' := hc
      unfold Cont at hc'
      refine Ev.step (f := fun _ => some (tri bad)) (fun k => ?_) (evEq (Ev.now _) ?_)
      · simp only [loessref1_Decode.l0]
        rw [if_pos (by omega), if_pos (by omega), if_pos (by omega), bt_bytes]
        by_cases h2 : (bytesOf s).getD i 0 < 128
        · rw [if_pos h2]; rfl
        · rw [if_neg h2, if_pos (by omega)]; rfl
      · unfold rl
        rw [if_neg hc]
theorem dec_rl {l : List Int} (h : l ≠ []) : dec l =
    if l.getD 0 0 < 128 then (l.getD 0 0, 1, true)
    else if 192 ≤ l.getD 0 0 ∧ l.getD 0 0 < 224 then (if l.length < 2 then bad else rl 2 128 1 (l.getD 0 0 - 192) (l.drop 1))
    else if 224 ≤ l.getD 0 0 ∧ l.getD 0 0 < 240 then (if l.length < 3 then bad else rl 3 2048 2 (l.getD 0 0 - 224) (l.drop 1))
    else if 240 ≤ l.getD 0 0 ∧ l.getD 0 0 < 248 then (if l.length < 4 then bad else rl 4 65536 3 (l.getD 0 0 - 240) (l.drop 1))
    else bad := by
  unfold dec
  by_cases h0 : l.getD 0 0 < 128
  · rw [if_pos h0, if_pos h0]
  rw [if_neg h0, if_neg h0]
  by_cases h1 : 192 ≤ l.getD 0 0 ∧ l.getD 0 0 < 224
  · rw [if_pos h1, if_pos h1]
    by_cases hl : l.length < 2
    · rw [if_neg (by omega), if_pos hl]
    · rw [if_neg hl]
      rw [getD_drop0 (i := 1) (by omega)]
      unfold rl
      by_cases hc : Cont (l.getD 1 0)
      · rw [if_pos ⟨by omega, hc⟩, if_pos hc]; rfl
      · rw [if_neg (fun hh => hc hh.2), if_neg hc]
  rw [if_neg h1, if_neg h1]
  by_cases h2 : 224 ≤ l.getD 0 0 ∧ l.getD 0 0 < 240
  · rw [if_pos h2, if_pos h2]
    by_cases hl : l.length < 3
    · rw [if_neg (by omega), if_pos hl]
    · rw [if_neg hl]
      rw [getD_drop0 (i := 1) (by omega), getD_drop0 (i := 2) (by omega)]
      unfold rl
      by_cases hc : Cont (l.getD 1 0)
      · rw [if_pos hc]
        unfold rl
        by_cases hc2 : Cont (l.getD 2 0)
        · rw [if_pos ⟨by omega, hc, hc2⟩, if_pos hc2]; rfl
        · rw [if_neg (fun hh => hc2 hh.2.2), if_neg hc2]
      · rw [if_neg (fun hh => hc hh.2.1), if_neg hc]
  rw [if_neg h2, if_neg h2]
  by_cases h3 : 240 ≤ l.getD 0 0 ∧ l.getD 0 0 < 248
  · rw [if_pos h3, if_pos h3]
    by_cases hl : l.length < 4
    · rw [if_neg (by omega), if_pos hl]
    · rw [if_neg hl]
      rw [getD_drop0 (i := 1) (by omega), getD_drop0 (i := 2) (by omega), getD_drop0 (i := 3) (by omega)]
      unfold rl
      by_cases hc : Cont (l.getD 1 0)
      · rw [if_pos hc]
        unfold rl
        by_cases hc2 : Cont (l.getD 2 0)
        · rw [if_pos hc2]
          unfold rl
          by_cases hc3 : Cont (l.getD 3 0)
          · rw [if_pos ⟨by omega, hc, hc2, hc3⟩, if_pos hc3]; rfl
          · rw [if_neg (fun hh => hc3 hh.2.2.2), if_neg hc3]
        · rw [if_neg (fun hh => hc2 hh.2.2.1), if_neg hc2]
      · rw [if_neg (fun hh => hc hh.2.1), if_neg hc]
  rw [if_neg h3, if_neg h3]
theorem refDecode_ev {s : ByteArray} (h0 : 0 < s.size) (hs : s.size < 4611686018427387904) : Ev (fun k => loessref1_Decode.f k s) (tri (dec (bytesOf s))) := by
  have hlen := bytesOf_length s
  have hne : bytesOf s ≠ [] := by intro hh; rw [hh] at hlen; simp at hlen; omega
  have hlt : 0 < (bytesOf s).length := by omega
  have hb := (byt_bytesOf s) ((bytesOf s).getD 0 0) (by
    rw [List.getD_eq_getElem?_getD, List.getElem?_eq_getElem hlt]
    exact List.getElem_mem hlt)
  have hbt : bt s 0 = (bytesOf s).getD 0 0 := bt_bytes s 0
  -- the three ways on
  have hj2 : ∀ (n : Nat) (low r : Int), 2 ≤ n → n ≤ 4 → 0 ≤ r → (r + 1) * 64 ^ (n - 1) ≤ 2097152 →
      Ev (fun k => loessref1_Decode.j2 k s (n : Int) low r) (tri (if (bytesOf s).length < n then bad else rl n low (n - 1) r ((bytesOf s).drop 1))) := by
    intro n low r hn2 hn4 hr0 hr
    by_cases hl : (bytesOf s).length < n
    · rw [if_pos hl]
      refine Ev.step (f := fun _ => some (tri bad)) (fun k => ?_) (Ev.now _)
      simp only [loessref1_Decode.j2]
      rw [if_pos (by omega)]
      rfl
    · rw [if_neg hl]
      refine Ev.step (fun k => ?_) (refDecode_l s n low (by omega) hs (n - 1) 1 r (by omega) (by omega) hr0 hr)
      simp only [loessref1_Decode.j2]
      rw [if_neg (by omega)]
      rfl
  rw [dec_rl hne]
  generalize hc : (bytesOf s).getD 0 0 = c at *
  unfold loessref1_Decode.f
  refine Ev.congr (fun k => if_pos (by omega)) ?_
  rw [hbt]
  by_cases c0 : c < 128
  · refine Ev.congr (fun k => if_pos c0) ?_
    rw [if_pos c0, w32 (by omega) (by omega)]
    exact Ev.now _
  rw [if_neg c0]
  refine Ev.congr (fun k => if_neg c0) ?_
  -- to j0 with a bool
  have hj0 : ∀ k, (if c ≥ 192 then loessref1_Decode.j0 k s c (decide (c < 224)) else loessref1_Decode.j0 k s c false) = loessref1_Decode.j0 k s c (decide (192 ≤ c ∧ c < 224)) := by
    intro k
    by_cases h : c ≥ 192
    · rw [if_pos h]; congr 1; simp [h]
    · rw [if_neg h]; congr 1; simp; omega
  refine Ev.congr hj0 ?_
  by_cases c1 : 192 ≤ c ∧ c < 224
  · rw [if_pos c1]
    refine Ev.step (fun k => ?_) (hj2 2 128 (c - 192) (by omega) (by omega) (by omega) (by simp; omega))
    simp only [loessref1_Decode.j0]
    rw [if_pos (by simp [c1]), w32 (x := c) (by omega) (by omega), w32 (by omega) (by omega)]
    rfl
  rw [if_neg c1]
  have hj1 : ∀ k, loessref1_Decode.j0 (k + 1) s c (decide (192 ≤ c ∧ c < 224)) = loessref1_Decode.j1 k s c (decide (224 ≤ c ∧ c < 240)) := by
    intro k
    simp only [loessref1_Decode.j0]
    rw [if_neg (by simpa using fun h => by omega)]
    by_cases h : c ≥ 224
    · rw [if_pos h]; congr 1; simp [h]
    · rw [if_neg h]; congr 1; simp; omega
  refine Ev.step hj1 ?_
  by_cases c2 : 224 ≤ c ∧ c < 240
  · rw [if_pos c2]
    refine Ev.step (fun k => ?_) (hj2 3 2048 (c - 224) (by omega) (by omega) (by omega) (by simp; omega))
    simp only [loessref1_Decode.j1]
    rw [if_pos (by simp [c2]), w32 (x := c) (by omega) (by omega), w32 (by omega) (by omega)]
    rfl
  rw [if_neg c2]
  by_cases c3 : 240 ≤ c ∧ c < 248
  · rw [if_pos c3]
    refine Ev.step (fun k => ?_) (hj2 4 65536 (c - 240) (by omega) (by omega) (by omega) (by simp; omega))
    simp only [loessref1_Decode.j1]
    rw [if_neg (by simpa using fun h => by omega), if_pos (by omega), if_pos (by omega), w32 (x := c) (by omega) (by omega), w32 (by omega) (by omega)]
    rfl
  · rw [if_neg c3]
    refine Ev.step (f := fun _ => some (tri bad)) (fun k => ?_) (Ev.now _)
    simp only [loessref1_Decode.j1]
    rw [if_neg (by simpa using fun h => by omega)]
    by_cases h : c ≥ 240
    · rw [if_pos h, if_neg (by omega)]; rfl
    · rw [if_neg h]; rfl
/-- Where the runes begin, as the reference lists them. -/
def begins : List Rn → Nat → List Int
  | [], _ => []
  | d :: r, p => (p : Int) :: begins r (p + d.2.1)
theorem begins_len (d : List Rn) (p : Nat) : (begins d p).length = d.length := by
  induction d generalizing p with
  | nil => rfl
  | cons a d ih => simp [begins, ih]
theorem begins_get (d : List Rn) (p i : Nat) (h : i < d.length) : (begins d p).getD i 0 = ((p + wd (d.take i) : Nat) : Int) := by
  induction d generalizing p i with
  | nil => simp at h
  | cons a d ih =>
    cases i with
    | zero => simp [begins, wd]
    | succ i =>
      simp only [List.length_cons] at h
      have := ih (p + a.2.1) i (by omega)
      simp only [begins, List.getD_cons_succ, List.take_succ_cons, wd, List.map_cons, List.sum_cons] at this ⊢
      rw [this]
      omega
theorem extract_bytes (s : ByteArray) (p : Nat) : bytesOf (s.extract p s.size) = (bytesOf s).drop p := by
  rw [bytesOf_extract, List.take_of_length_le (by rw [bytesOf_length]; omega)]
theorem refValid_l (s : ByteArray) (hs : s.size < 17592186044416) : ∀ (n p : Nat), s.size ≤ p + n → p ≤ s.size →
    Ev (fun k => loessref1_Valid.l0 k s (p : Int)) ((ds ((bytesOf s).drop p)).all (·.2.2)) := by
  intro n
  induction n with
  | zero =>
    intro p h hp
    rw [List.drop_of_length_le (by rw [bytesOf_length]; omega), ds_nil]
    refine Ev.step (f := fun _ => some true) (fun k => ?_) (Ev.now _)
    simp only [loessref1_Valid.l0]
    rw [if_neg (by omega)]
  | succ n ih =>
    intro p h hp
    by_cases hlt : p < s.size
    · have hne : (bytesOf s).drop p ≠ [] := by
        intro hh
        have := congrArg List.length hh
        rw [List.length_drop, bytesOf_length, List.length_nil] at this
        omega
      have hw := dec_width ((bytesOf s).drop p)
      have hf := dec_fits (List.length_pos_iff.2 hne)
      rw [List.length_drop, bytesOf_length] at hf
      have hd := refDecode_ev (s := s.extract p s.size) (by rw [ByteArray.size_extract]; omega) (by rw [ByteArray.size_extract]; omega)
      rw [extract_bytes] at hd
      have hrec := ih (p + (dec ((bytesOf s).drop p)).2.1) (by omega) (by omega)
      rw [ds_cons hne]
      refine Ev.step (f := fun k => (loessref1_Decode.f k (s.extract p s.size)).bind fun x => if x.2.2 = true then loessref1_Valid.l0 k s (wrap64 ((p : Int) + x.2.1)) else some false) (fun k => ?_) (Ev.bind hd ?_)
      · simp only [loessref1_Valid.l0]
        rw [if_pos (by omega), if_pos (by omega), if_pos (by omega), Int.toNat_natCast]
      · simp only [tri, List.all_cons]
        by_cases hok : (dec ((bytesOf s).drop p)).2.2 = true
        · refine Ev.congr (fun k => if_pos hok) (Ev.congr (fun k => ?_) (evEq hrec (by rw [hok, Bool.true_and, List.drop_drop])))
          rw [w64 (by omega) (by omega)]
          rfl
        · have h2 : (dec ((bytesOf s).drop p)).2.2 = false := by simpa using hok
          exact Ev.congr (fun k => if_neg hok) (evEq (Ev.now false) (by rw [h2, Bool.false_and]))
    · rw [List.drop_of_length_le (by rw [bytesOf_length]; omega), ds_nil]
      refine Ev.step (f := fun _ => some true) (fun k => ?_) (Ev.now _)
      simp only [loessref1_Valid.l0]
      rw [if_neg (by omega)]
theorem refValid_ev {s : ByteArray} (hs : s.size < 17592186044416) : Ev (fun k => loessref1_Valid.f k s) ((ds (bytesOf s)).all (·.2.2)) := by
  have h := refValid_l s hs s.size 0 (by omega) (by omega)
  rw [List.drop_zero] at h
  exact h
--FI
end Go.Proofs.Ytbogcnfmdakdmaa.Q

/- Numbers as bytes, in plain Lean: what is written of a number, what is read of bytes, and that the one undoes the other. -/
set_option linter.unusedVariables false
set_option linter.unusedSimpArgs false
namespace Go.Proofs.Ytbogcnfmdakdmaa.Q
open Go.RowKit Go.Proofs.YtbogcnfmdakdmaaW.PrintWords Go.Proofs.YtbogcnfmdakdmaaW.PrintMore
def putU (u : Nat) : List Int := if u < 128 then [(u : Int)] else ((u % 128 + 128 : Nat) : Int) :: putU (u / 128)
termination_by u
decreasing_by omega
theorem putU_lt {u : Nat} (h : u < 128) : putU u = [(u : Int)] := by rw [putU, if_pos h]
theorem putU_ge {u : Nat} (h : ¬ u < 128) : putU u = ((u % 128 + 128 : Nat) : Int) :: putU (u / 128) := by rw [putU, if_neg h]
def zig (n : Int) : Nat := if n < 0 then (-2 * n - 1).toNat else (2 * n).toNat
def unzig (x : Int) : Int := if x % 2 = 1 then -(x / 2) - 1 else x / 2
theorem unzig_zig (n : Int) : unzig (zig n) = n := by unfold unzig zig; split <;> split <;> omega
def I64 (n : Int) : Prop := -9223372036854775808 ≤ n ∧ n < 9223372036854775808
theorem zig_lt {n : Int} (h : I64 n) : zig n < 18446744073709551616 := by unfold zig; unfold I64 at h; split <;> omega
def putN (n : Int) : List Int := putU (zig n)
def putT (s : ByteArray) : List Int := putN s.size ++ bytesOf s
theorem putU_byt (u : Nat) : Byt (putU u) := by
  induction u using Nat.strongRecOn with
  | _ u ih =>
    by_cases h : u < 128
    · rw [putU_lt h]; exact Byt.cons (by omega) (by omega) Byt.nil
    · rw [putU_ge h]; exact Byt.cons (by omega) (by omega) (ih _ (by omega))
theorem putN_byt (n : Int) : Byt (putN n) := putU_byt _
theorem putT_byt (s : ByteArray) : Byt (putT s) := (putN_byt _).append (byt_bytesOf s)
theorem putU_pos (u : Nat) : 0 < (putU u).length := by rw [putU]; split <;> simp
theorem putN_pos (n : Int) : 0 < (putN n).length := putU_pos _
/-- u below 128^d takes d bytes at most. -/
theorem putU_len (d : Nat) : ∀ u : Nat, u < 128 ^ (d + 1) → (putU u).length ≤ d + 1 := by
  induction d with
  | zero => intro u h; rw [putU_lt (by simpa using h)]; simp
  | succ d ih =>
    intro u h
    by_cases h1 : u < 128
    · rw [putU_lt h1]; simp
    · rw [putU_ge h1]
      have : u / 128 < 128 ^ (d + 1) := by
        rw [Nat.div_lt_iff_lt_mul (by decide)]
        rw [Nat.pow_succ] at h
        exact h
      have := ih _ this
      simp only [List.length_cons]
      omega
theorem putN_len {n : Int} (h : I64 n) : (putN n).length ≤ 10 := putU_len 9 _ (Nat.lt_of_lt_of_le (zig_lt h) (by decide))
theorem putN_small {n : Int} (h0 : 0 ≤ n) (h1 : n < 64) : putN n = [2 * n] := by
  unfold putN zig
  rw [if_neg (by omega), putU_lt (by omega)]
  simp only [List.cons.injEq, and_true]
  omega
/-- What is read of bytes: the number, how many bytes, the error's number (0: none). -/
def ug : List Int → Nat → Int → Int × Int × Int
  | [], _, _ => (0, 0, 2)
  | c :: r, i, u =>
    if i = 9 ∧ c > 1 then (0, 0, 1)
    else if c > 127 then ug r (i + 1) (u + (c - 128) * 128 ^ i)
    else if i > 0 ∧ c = 0 then (0, 0, 1)
    else (unzig (u + c * 128 ^ i), i + 1, 0)
def getN (l : List Int) : Int × Int × Int := ug l 0 0
def getT (l : List Int) : ByteArray × Int × Int :=
  if (getN l).2.2 ≠ 0 then (⟨#[]⟩, 0, (getN l).2.2)
  else if (getN l).1 < 0 ∨ (getN l).1 > 65536 then (⟨#[]⟩, 0, 1)
  else if (getN l).1 > (l.length : Int) - (getN l).2.1 then (⟨#[]⟩, 0, 2)
  else (strOfNums ((l.take ((getN l).2.1 + (getN l).1).toNat).drop (getN l).2.1.toNat), (getN l).2.1 + (getN l).1, 0)
theorem p128 (i : Nat) : (0 : Int) < 128 ^ i := by
  have := Nat.pow_pos (n := i) (show 0 < 128 by decide)
  exact_mod_cast this
theorem pow128_mono {i j : Nat} (h : i ≤ j) : (128 : Int) ^ i ≤ 128 ^ j := by
  have := Nat.pow_le_pow_right (n := 128) (by decide) h
  exact_mod_cast this
theorem ug_put (u : Nat) : ∀ (rest : List Int) (i : Nat) (acc : Int), (u : Int) * 128 ^ i + acc < 18446744073709551616 → (i > 0 → 0 < u) → 0 ≤ acc →
    ug (putU u ++ rest) i acc = (unzig (acc + u * 128 ^ i), (i : Int) + ((putU u).length : Int), 0) := by
  induction u using Nat.strongRecOn with
  | _ u ih =>
    intro rest i acc hb hp ha
    have h9 : ∀ v : Nat, i = 9 → v ≤ u → (v : Int) ≤ 1 := by
      intro v hi hv
      subst hi
      have : ((u : Int)) * 128 ^ 9 < 18446744073709551616 := by omega
      omega
    by_cases h : u < 128
    · rw [putU_lt h]
      simp only [List.cons_append, List.nil_append, ug, List.length_cons, List.length_nil]
      rw [if_neg (fun hh => by have := h9 u hh.1 (Nat.le_refl _); omega), if_neg (by omega), if_neg (fun hh => by have := hp hh.1; omega)]
      simp
    · rw [putU_ge h]
      have hi9 : i ≠ 9 := fun hi => by have := h9 u hi (Nat.le_refl _); omega
      simp only [List.cons_append, ug, List.length_cons]
      rw [if_neg (fun hh => hi9 hh.1), if_pos (by omega)]
      have hm : ((u % 128 + 128 : Nat) : Int) - 128 = (u : Int) % 128 := by omega
      have he : acc + (u : Int) % 128 * 128 ^ i + ((u / 128 : Nat) : Int) * 128 ^ (i + 1) = acc + u * 128 ^ i := by
        have h2 : (u : Int) = u % 128 + ((u / 128 : Nat) : Int) * 128 := by omega
        have h3 : (u : Int) * 128 ^ i = (u : Int) % 128 * 128 ^ i + ((u / 128 : Nat) : Int) * (128 * 128 ^ i) := by
          conv => lhs; rw [h2]
          rw [Int.add_mul, Int.mul_assoc]
        rw [Int.pow_succ, h3, Int.mul_comm (128 ^ i) 128]
        omega
      rw [hm, ih (u / 128) (by omega) rest (i + 1) _ (by rw [Int.add_comm, he]; omega) (fun _ => by omega) (Int.add_nonneg ha (Int.mul_nonneg (by omega) (Int.le_of_lt (p128 i))))]
      rw [he]
      simp only [Prod.mk.injEq, true_and, and_true]
      omega
theorem getN_put {n : Int} (h : I64 n) (rest : List Int) : getN (putN n ++ rest) = (n, ((putN n).length : Int), 0) := by
  have := zig_lt h
  unfold getN putN
  rw [ug_put (zig n) rest 0 0 (by simp; omega) (fun h => absurd h (by decide)) (by decide)]
  simp [unzig_zig]
theorem ug_cut (u : Nat) : ∀ (m i : Nat) (acc : Int), (u : Int) * 128 ^ i + acc < 18446744073709551616 → 0 ≤ acc → m < (putU u).length → ug ((putU u).take m) i acc = (0, 0, 2) := by
  induction u using Nat.strongRecOn with
  | _ u ih =>
    intro m i acc hb ha hm
    cases m with
    | zero => simp [ug]
    | succ m =>
      by_cases h : u < 128
      · rw [putU_lt h] at hm; simp at hm
      · rw [putU_ge h] at hm ⊢
        have hi9 : i ≠ 9 := fun hi => by
          subst hi
          have : ((u : Int)) * 128 ^ 9 < 18446744073709551616 := by omega
          omega
        simp only [List.take_succ_cons, ug]
        rw [if_neg (fun hh => hi9 hh.1), if_pos (by omega)]
        have hm' : ((u % 128 + 128 : Nat) : Int) - 128 = (u : Int) % 128 := by omega
        have he : acc + (u : Int) % 128 * 128 ^ i + ((u / 128 : Nat) : Int) * 128 ^ (i + 1) = acc + u * 128 ^ i := by
          have h2 : (u : Int) = u % 128 + ((u / 128 : Nat) : Int) * 128 := by omega
          have h3 : (u : Int) * 128 ^ i = (u : Int) % 128 * 128 ^ i + ((u / 128 : Nat) : Int) * (128 * 128 ^ i) := by
            conv => lhs; rw [h2]
            rw [Int.add_mul, Int.mul_assoc]
          rw [Int.pow_succ, h3, Int.mul_comm (128 ^ i) 128]
          omega
        rw [hm']
        refine ih (u / 128) (by omega) m (i + 1) _ (by rw [Int.add_comm, he]; omega) (Int.add_nonneg ha (Int.mul_nonneg (by omega) (Int.le_of_lt (p128 i)))) ?_
        simp only [List.length_cons] at hm
        omega
theorem getN_cut {n : Int} (h : I64 n) {m : Nat} (hm : m < (putN n).length) : getN ((putN n).take m) = (0, 0, 2) := by
  have := zig_lt h
  exact ug_cut (zig n) m 0 0 (by simp; omega) (by decide) hm
/-- What is read lies in what was there. -/
theorem ug_bound : ∀ (l : List Int) (i : Nat) (u : Int), 0 ≤ (ug l i u).2.1 ∧ (ug l i u).2.1 ≤ i + l.length ∧ ((ug l i u).2.2 = 0 → (i : Int) < (ug l i u).2.1) ∧ ((ug l i u).2.2 = 0 ∨ (ug l i u).2.2 = 1 ∨ (ug l i u).2.2 = 2) ∧ ((ug l i u).2.2 ≠ 0 → (ug l i u).1 = 0 ∧ (ug l i u).2.1 = 0) := by
  intro l
  induction l with
  | nil => intro i u; simp [ug]
  | cons c r ih =>
    intro i u
    unfold ug
    split
    · simp; omega
    · split
      · have := ih (i + 1) (u + (c - 128) * 128 ^ i)
        simp only [List.length_cons]
        omega
      · split
        · simp; omega
        · simp; omega
theorem getN_bound (l : List Int) : 0 ≤ (getN l).2.1 ∧ (getN l).2.1 ≤ l.length ∧ ((getN l).2.2 = 0 → 0 < (getN l).2.1) ∧ ((getN l).2.2 = 0 ∨ (getN l).2.2 = 1 ∨ (getN l).2.2 = 2) ∧ ((getN l).2.2 ≠ 0 → (getN l).1 = 0 ∧ (getN l).2.1 = 0) := by
  have := ug_bound l 0 0
  simpa [getN] using this
theorem ug_i64 : ∀ (l : List Int) (i : Nat) (u : Int), Byt l → i ≤ 9 → 0 ≤ u → u < 128 ^ i → I64 (ug l i u).1 := by
  intro l
  induction l with
  | nil => intro i u _ _ _ _; simp [ug, I64]
  | cons c r ih =>
    intro i u hb hi h0 h1
    have hc := hb.head
    unfold ug
    split
    · simp [I64]
    · rename_i h9
      split
      · rename_i hc1
        have hi9 : i ≠ 9 := fun h => h9 ⟨h, by omega⟩
        refine ih (i + 1) _ hb.tail (by omega) (Int.add_nonneg h0 (Int.mul_nonneg (by omega) (Int.le_of_lt (p128 i)))) ?_
        have : (c - 128) * 128 ^ i ≤ 127 * 128 ^ i := Int.mul_le_mul_of_nonneg_right (by omega) (Int.le_of_lt (p128 i))
        rw [Int.pow_succ]
        omega
      · split
        · simp [I64]
        · have : 0 ≤ u + c * 128 ^ i ∧ u + c * 128 ^ i < 18446744073709551616 := by
            refine ⟨Int.add_nonneg h0 (Int.mul_nonneg hc.1 (Int.le_of_lt (p128 i))), ?_⟩
            by_cases hi9 : i = 9
            · subst hi9
              omega
            · have h8 := pow128_mono (i := i) (j := 8) (by omega)
              have h2 : c * 128 ^ i ≤ 127 * 128 ^ i := Int.mul_le_mul_of_nonneg_right (by omega) (Int.le_of_lt (p128 i))
              have e8 : (128 : Int) ^ 8 = 72057594037927936 := rfl
              omega
          simp only
          unfold unzig I64
          split <;> omega
theorem getN_i64 {l : List Int} (h : Byt l) : I64 (getN l).1 := ug_i64 l 0 0 h (by decide) (by decide) (by simp)
/-- Bytes behind what is told say nothing of it. -/
theorem ug_append : ∀ (l rest : List Int) (i : Nat) (u : Int), (ug l i u).2.2 ≠ 2 → ug (l ++ rest) i u = ug l i u := by
  intro l
  induction l with
  | nil => intro rest i u h; simp [ug] at h
  | cons c r ih =>
    intro rest i u h
    simp only [List.cons_append]
    unfold ug at h ⊢
    split
    · rfl
    · rename_i h1
      rw [if_neg h1] at h
      split
      · rename_i h2
        rw [if_pos h2] at h
        exact ih rest _ _ h
      · rfl
/-- What is read as a number is just what is written of it. -/
theorem ug_canon : ∀ (l : List Int) (i : Nat) (u : Int), Byt l → i ≤ 9 → (ug l i u).2.2 = 0 → ∃ v : Nat, (ug l i u).1 = unzig (u + v * 128 ^ i) ∧ (ug l i u).2.1 = i + (putU v).length ∧ l.take (putU v).length = putU v ∧ (i > 0 → 0 < v) ∧ (v : Int) * 128 ^ i < 18446744073709551616 := by
  intro l
  induction l with
  | nil => intro i u _ _ h; simp [ug] at h
  | cons c r ih =>
    intro i u hb hi h
    have hc := hb.head
    unfold ug at h ⊢
    by_cases h1 : i = 9 ∧ c > 1
    · rw [if_pos h1] at h; simp at h
    · rw [if_neg h1] at h ⊢
      by_cases h2 : c > 127
      · rw [if_pos h2] at h ⊢
        have hi9 : i ≠ 9 := fun h => h1 ⟨h, by omega⟩
        obtain ⟨v, e1, e2, e3, e4, e5⟩ := ih (i + 1) _ hb.tail (by omega) h
        have hv := e4 (by omega)
        have e : ((v * 128 + (c - 128).toNat : Nat) : Int) = v * 128 + (c - 128) := by omega
        have hw : ¬ v * 128 + (c - 128).toNat < 128 := by omega
        have hd : (v * 128 + (c - 128).toNat) / 128 = v := by omega
        have hm : (((v * 128 + (c - 128).toNat) % 128 + 128 : Nat) : Int) = c := by omega
        have hp : u + ((v * 128 + (c - 128).toNat : Nat) : Int) * 128 ^ i = u + (c - 128) * 128 ^ i + v * 128 ^ (i + 1) := by
          rw [e, Int.pow_succ, Int.add_mul, Int.mul_assoc, Int.mul_comm 128 (128 ^ i)]
          omega
        refine ⟨v * 128 + (c - 128).toNat, ?_, ?_, ?_, fun _ => by omega, ?_⟩
        · rw [e1, hp]
        · rw [e2, putU_ge hw, hd]; simp only [List.length_cons]; omega
        · rw [putU_ge hw, hd, hm]; simp only [List.length_cons, List.take_succ_cons]; rw [e3]
        · rw [e, Int.add_mul]
          by_cases hi8 : i + 1 = 9
          · obtain rfl : i = 8 := by omega
            have e9 : (128 : Int) ^ (8 + 1) = 9223372036854775808 := rfl
            have e8 : (128 : Int) ^ 8 = 72057594037927936 := rfl
            rw [e9] at e5
            rw [e8]
            have : (v : Int) ≤ 1 := by omega
            omega
          · have h7 := pow128_mono (i := i) (j := 7) (by omega)
            have h0 := p128 i
            rw [Int.pow_succ] at e5
            have : (c - 128) * 128 ^ i ≤ 127 * 128 ^ i := Int.mul_le_mul_of_nonneg_right (by omega) (Int.le_of_lt (p128 i))
            have h3 : (v : Int) * 128 * 128 ^ i = v * (128 ^ i * 128) := by rw [Int.mul_assoc, Int.mul_comm 128 (128 ^ i)]
            have e7 : (128 : Int) ^ 7 = 562949953421312 := rfl
            rw [h3]
            -- v * 128^(i+1) is a multiple of 128^(i+1), below 2^64
            have hmul : (v : Int) * (128 ^ i * 128) ≤ 18446744073709551616 - 128 ^ i * 128 := by
              have hdvd : (128 : Int) ^ i * 128 ∣ 18446744073709551616 := by
                have hk : (18446744073709551616 : Int) = 128 ^ (i + 1) * (128 ^ (8 - i) * 2) := by
                  rw [← Int.mul_assoc, ← Int.pow_add, show i + 1 + (8 - i) = 9 by omega]
                  rfl
                rw [← Int.pow_succ]
                exact ⟨_, hk⟩
              obtain ⟨q, hq⟩ := hdvd
              rw [hq] at e5 ⊢
              have hq2 : (v : Int) < q := by
                rcases Int.lt_or_le (v : Int) q with h | h
                · exact h
                · have := Int.mul_le_mul_of_nonneg_left h (show (0 : Int) ≤ 128 ^ i * 128 by omega)
                  rw [Int.mul_comm (v : Int)] at e5
                  omega
              have := Int.mul_le_mul_of_nonneg_left (show (v : Int) ≤ q - 1 by omega) (show (0 : Int) ≤ 128 ^ i * 128 by omega)
              rw [Int.mul_comm (v : Int), Int.mul_sub] at *
              omega
            omega
      · rw [if_neg h2] at h ⊢
        by_cases h3 : i > 0 ∧ c = 0
        · rw [if_pos h3] at h; simp at h
        · rw [if_neg h3]
          have hl : c.toNat < 128 := by omega
          refine ⟨c.toNat, ?_, ?_, ?_, fun hh => ?_, ?_⟩
          · simp only [show ((c.toNat : Nat) : Int) = c by omega]
          · rw [putU_lt hl]; simp
          · rw [putU_lt hl]; simp; omega
          · rcases Nat.eq_zero_or_pos c.toNat with h | h
            · exact absurd ⟨hh, by omega⟩ h3
            · exact h
          · rw [show ((c.toNat : Nat) : Int) = c by omega]
            by_cases hi9 : i = 9
            · subst hi9
              omega
            · have h8 := pow128_mono (i := i) (j := 8) (by omega)
              have h2 : c * 128 ^ i ≤ 127 * 128 ^ i := Int.mul_le_mul_of_nonneg_right (by omega) (Int.le_of_lt (p128 i))
              have e8 : (128 : Int) ^ 8 = 72057594037927936 := rfl
              omega
theorem zig_unzig (v : Nat) : zig (unzig v) = v := by unfold zig unzig; split <;> split <;> omega
theorem getN_canon {l : List Int} (hb : Byt l) (h : (getN l).2.2 = 0) : l.take (getN l).2.1.toNat = putN (getN l).1 ∧ (getN l).2.1 = (putN (getN l).1).length := by
  obtain ⟨v, e1, e2, e3, _, _⟩ := ug_canon l 0 0 hb (by decide) h
  have e4 : putN (getN l).1 = putU v := by
    unfold putN getN
    rw [e1]
    simp only [Int.pow_zero, Int.mul_one, Int.zero_add, zig_unzig]
  rw [e4]
  unfold getN
  rw [e2]
  simp only [Int.natCast_zero, Int.zero_add, Int.toNat_natCast, and_true]
  exact e3
theorem putU_inj {a b : Nat} (ha : a < 18446744073709551616) (hb : b < 18446744073709551616) {r q : List Int} (h : putU a ++ r = putU b ++ q) : a = b ∧ r = q := by
  have h1 := ug_put a r 0 0 (by simp; omega) (fun h => absurd h (by decide)) (by decide)
  have h2 := ug_put b q 0 0 (by simp; omega) (fun h => absurd h (by decide)) (by decide)
  rw [h, h2] at h1
  simp only [Int.pow_zero, Int.mul_one, Int.zero_add, Prod.mk.injEq] at h1
  have e : a = b := by
    have := congrArg zig h1.1
    rw [zig_unzig, zig_unzig] at this
    exact this.symm
  subst e
  exact ⟨rfl, List.append_cancel_left h⟩
theorem putN_inj {a b : Int} (ha : I64 a) (hb : I64 b) {r q : List Int} (h : putN a ++ r = putN b ++ q) : a = b ∧ r = q := by
  have := putU_inj (zig_lt ha) (zig_lt hb) h
  refine ⟨?_, this.2⟩
  rw [← unzig_zig a, ← unzig_zig b, this.1]
theorem putT_inj {a b : ByteArray} (ha : a.size ≤ 9223372036854775807) (hb : b.size ≤ 9223372036854775807) {r q : List Int} (h : putT a ++ r = putT b ++ q) : a = b ∧ r = q := by
  unfold putT at h
  rw [List.append_assoc, List.append_assoc] at h
  obtain ⟨h1, h2⟩ := putN_inj (by unfold I64; omega) (by unfold I64; omega) h
  have hl : (bytesOf a).length = (bytesOf b).length := by rw [bytesOf_length, bytesOf_length]; omega
  have := List.append_inj h2 hl
  exact ⟨bytesOf_inj this.1, this.2⟩
theorem getT_put {s : ByteArray} (h : s.size ≤ 65536) (rest : List Int) : getT (putT s ++ rest) = (s, ((putT s).length : Int), 0) := by
  have hi : I64 (s.size : Int) := by unfold I64; omega
  have hg : getN (putT s ++ rest) = ((s.size : Int), ((putN s.size).length : Int), 0) := by unfold putT; rw [List.append_assoc]; exact getN_put hi _
  have hl := bytesOf_length s
  unfold getT
  rw [hg]
  simp only [ne_eq, not_true_eq_false, if_false]
  rw [if_neg (by omega), if_neg (by unfold putT; simp only [List.length_append]; omega)]
  have e1 : (((putN s.size).length : Int) + (s.size : Int)).toNat = (putT s).length := by unfold putT; simp only [List.length_append]; omega
  rw [e1, List.take_left']
  · have e2 : (putT s).drop (putN (s.size : Int)).length = bytesOf s := by unfold putT; exact List.drop_left
    rw [Int.toNat_natCast, e2, str_bytesOf]
    unfold putT
    simp only [List.length_append]
    congr 2
    omega
  · rfl
theorem getT_cut {s : ByteArray} (h : s.size ≤ 65536) {m : Nat} (hm : m < (putT s).length) : getT ((putT s).take m) = (⟨#[]⟩, 0, 2) := by
  have hi : I64 (s.size : Int) := by unfold I64; omega
  have hl := bytesOf_length s
  rcases Nat.lt_or_ge m (putN (s.size : Int)).length with h1 | h1
  · have e : (putT s).take m = (putN (s.size : Int)).take m := by unfold putT; rw [List.take_append_of_le_length (by omega)]
    unfold getT
    rw [e, getN_cut hi h1]
    simp
  · have e : (putT s).take m = putN (s.size : Int) ++ (bytesOf s).take (m - (putN (s.size : Int)).length) := by
      unfold putT; rw [List.take_append]; congr 1; exact List.take_of_length_le h1
    have hlen : (putT s).length = (putN (s.size : Int)).length + s.size := by unfold putT; rw [List.length_append, hl]
    unfold getT
    rw [e, getN_put hi]
    simp only [ne_eq, not_true_eq_false, if_false]
    rw [if_neg (by omega), if_pos (by simp only [List.length_append, List.length_take]; omega)]
theorem getT_bound (l : List Int) : 0 ≤ (getT l).2.1 ∧ (getT l).2.1 ≤ l.length ∧ ((getT l).2.2 = 0 → 0 < (getT l).2.1) ∧ ((getT l).2.2 ≠ 0 → (getT l).1 = ⟨#[]⟩ ∧ (getT l).2.1 = 0) := by
  have hb := getN_bound l
  unfold getT
  split
  · simp_all
  · split
    · simp
    · split
      · simp
      · simp only [ne_eq, not_true_eq_false, false_implies, and_true]
        have := hb.2.2.1 (by simp_all)
        omega
/-- What is read as a text is just what is written of it. -/
theorem getT_canon {l : List Int} (hb : Byt l) (h : (getT l).2.2 = 0) : l.take (getT l).2.1.toNat = putT (getT l).1 ∧ (getT l).2.1 = (putT (getT l).1).length ∧ (getT l).1.size ≤ 65536 := by
  have hbd := getN_bound l
  unfold getT at h ⊢
  by_cases h0 : (getN l).2.2 ≠ 0
  · rw [if_pos h0] at h; exact absurd h h0
  · rw [if_neg h0] at h ⊢
    by_cases h1 : (getN l).1 < 0 ∨ (getN l).1 > 65536
    · rw [if_pos h1] at h; simp at h
    · rw [if_neg h1] at h ⊢
      by_cases h2 : (getN l).1 > (l.length : Int) - (getN l).2.1
      · rw [if_pos h2] at h; simp at h
      · rw [if_neg h2] at h ⊢
        have h0' : (getN l).2.2 = 0 := by simpa using h0
        obtain ⟨c1, c2⟩ := getN_canon hb h0'
        simp only
        have hz : (strOfNums ((l.take ((getN l).2.1 + (getN l).1).toNat).drop (getN l).2.1.toNat)).size = ((getN l).1).toNat := by
          rw [strOfNums_size]; simp only [List.length_drop, List.length_take]; omega
        have hbt : bytesOf (strOfNums ((l.take ((getN l).2.1 + (getN l).1).toNat).drop (getN l).2.1.toNat)) = (l.take ((getN l).2.1 + (getN l).1).toNat).drop (getN l).2.1.toNat := bytesOf_str ((hb.take _).drop _)
        have e : putT (strOfNums ((l.take ((getN l).2.1 + (getN l).1).toNat).drop (getN l).2.1.toNat)) = l.take ((getN l).2.1 + (getN l).1).toNat := by
          unfold putT
          rw [hz, hbt, show (((getN l).1.toNat : Nat) : Int) = (getN l).1 by omega, ← c1]
          have : l.take (getN l).2.1.toNat = (l.take ((getN l).2.1 + (getN l).1).toNat).take (getN l).2.1.toNat := by rw [List.take_take, Nat.min_eq_left (by omega)]
          rw [this, List.take_append_drop]
        rw [e, hz]
        refine ⟨rfl, ?_, by omega⟩
        rw [List.length_take]
        omega
end Go.Proofs.Ytbogcnfmdakdmaa.Q

/- The printed functions of package num and of its reference tell what QNum says. -/
set_option linter.unusedVariables false
set_option linter.unusedSimpArgs false
namespace Go.Proofs.Ytbogcnfmdakdmaa.Q
open Go.RowKit Go.Proofs.YtbogcnfmdakdmaaW.PrintWords Go.Proofs.YtbogcnfmdakdmaaW.PrintMore Go.Proofs.Ytbogcnfmdakdmaa.XBat
theorem zig_bits {n : Int} (h : I64 n) : (if n < 0 then Go.bits .xor .u64 18446744073709551615 (IntKind.u64.wrap (IntKind.u64.wrap n * 2)) else IntKind.u64.wrap (IntKind.u64.wrap n * 2)) = (zig n : Int) := by
  unfold I64 at h
  unfold zig
  split
  · rw [u64_mod, u64_mod, not_u64 (by omega) (by omega)]
    omega
  · rw [u64_mod, u64_mod]
    omega
theorem num_Put_l (u : Nat) : ∀ l : List Int, l.length + (putU u).length ≤ 140737488355328 → Ev (fun k => num_Put.l0 k l (u : Int)) (l ++ putU u) := by
  induction u using Nat.strongRecOn with
  | _ u ih =>
    intro l hl
    by_cases h : u < 128
    · rw [putU_lt h] at hl ⊢
      refine Ev.step (f := fun _ => some (l ++ [(u : Int)])) (fun k => ?_) (Ev.now _)
      simp only [num_Put.l0]
      simp only [List.length_cons, List.length_nil] at hl
      rw [if_neg (by omega), if_pos (by omega), show (u : Int) % 256 = u by omega]
    · rw [putU_ge h] at hl ⊢
      simp only [List.length_cons] at hl
      refine Ev.step (f := fun k => num_Put.l0 k (l ++ [((u % 128 + 128 : Nat) : Int)]) ((u / 128 : Nat) : Int)) (fun k => ?_) ?_
      · simp only [num_Put.l0]
        rw [if_pos (by omega), if_pos (by omega), or128 (by omega) (by omega)]
        rw [show ((u : Int) % 256) % 128 + 128 = ((u % 128 + 128 : Nat) : Int) by omega, show (u : Int) / 128 = ((u / 128 : Nat) : Int) by omega]
      · refine evEq (ih (u / 128) (by omega) (l ++ [((u % 128 + 128 : Nat) : Int)]) (by simp only [List.length_append, List.length_cons, List.length_nil]; omega)) ?_
        rw [List.append_assoc]
        rfl
theorem num_Put_ev {n : Int} (h : I64 n) (l : List Int) (hl : l.length + 10 ≤ 140737488355328) : Ev (fun k => num_Put.f k l n) (l ++ putN n) := by
  have hz := zig_bits h
  have := putN_len h
  have h1 : Ev (fun k => num_Put.j0 k l (zig n : Int)) (l ++ putN n) := Ev.step (fun k => by simp only [num_Put.j0]) (num_Put_l (zig n) l (by unfold putN at this; omega))
  refine Ev.congr (fun k => ?_) h1
  unfold num_Put.f
  split
  · rename_i hn; rw [if_pos hn] at hz; rw [hz]
  · rename_i hn; rw [if_neg hn] at hz; rw [hz]
theorem num_PutText_ev {s : ByteArray} (h : s.size ≤ 70368744177664) (l : List Int) (hl : l.length ≤ 35184372088832) : Ev (fun k => num_PutText.f k l s) (l ++ putT s) := by
  have hi : I64 (s.size : Int) := by unfold I64; omega
  have := putN_len hi
  have h2 : Ev (fun _ => if (l ++ putN (s.size : Int)).length + s.size < 140737488355328 then some ((l ++ putN (s.size : Int)) ++ bytesOf s) else none) ((l ++ putN (s.size : Int)) ++ bytesOf s) :=
    evC (if_pos (by simp only [List.length_append]; omega))
  refine evEq (Ev.bind (num_Put_ev hi l (by omega)) h2) ?_
  unfold putT
  rw [List.append_assoc]
theorem num_Get_l : ∀ (r pre : List Int) (u : Int), Byt (pre ++ r) → (pre ++ r).length < 9223372036854775800 → pre.length ≤ 9 → 0 ≤ u → u < 128 ^ pre.length →
    Ev (fun k => num_Get.l0 k u (pre ++ r) ((pre ++ r).length : Int) (pre.length : Int)) (ug r pre.length u) := by
  intro r
  induction r with
  | nil =>
    intro pre u hb hl hi h0 h1
    refine Ev.step (f := fun _ => some (0, 0, 2)) (fun k => ?_) (Ev.now _)
    simp only [num_Get.l0]
    rw [if_neg (by simp)]
  | cons c r ih =>
    intro pre u hb hl hi h0 h1
    have hc := hb.right.head
    have hll : (pre ++ c :: r).length = pre.length + r.length + 1 := by simp; omega
    have hlt : (pre.length : Int) < ((pre ++ c :: r).length : Int) := by omega
    have hpp := p128 pre.length
    have e7 : wrap64 (7 * (pre.length : Int)) = 7 * pre.length := w64 (by omega) (by omega)
    have ep : (2 : Int) ^ (7 * (pre.length : Int)).toNat = 128 ^ pre.length := by
      rw [show (7 * (pre.length : Int)).toNat = 7 * pre.length by omega, Int.pow_mul]
      rfl
    have hcm : c % 128 * 128 ^ pre.length < 2 ^ 64 ∨ (pre.length = 9 ∧ c > 1) := by
      by_cases h9 : pre.length = 9
      · by_cases hc1 : c > 1
        · exact .inr ⟨h9, hc1⟩
        · rw [h9]
          have : c % 128 ≤ 1 := by omega
          left; omega
      · have h8 := pow128_mono (i := pre.length) (j := 8) (by omega)
        have h2 : c % 128 * 128 ^ pre.length ≤ 127 * 128 ^ pre.length := Int.mul_le_mul_of_nonneg_right (by omega) (Int.le_of_lt hpp)
        have e8 : (128 : Int) ^ 8 = 72057594037927936 := rfl
        left; omega
    -- the state behind this byte
    have hbits : ¬ (pre.length = 9 ∧ c > 1) → Go.bits .or .u64 u (shl .u64 (IntKind.u64.wrap (Go.bits .and .u8 c 127)) (wrap64 (7 * (pre.length : Int)))) = u + c % 128 * 128 ^ pre.length := by
      intro hn
      have hcm' : c % 128 * 128 ^ pre.length < 2 ^ 64 := by
        rcases hcm with h | h
        · exact h
        · exact absurd h hn
      rw [e7, and127 hc.1 hc.2, u64 (by omega) (by omega), shl_u64 (by omega) (by omega) (by omega) (by rw [ep]; exact hcm'), ep]
      have e2 : (128 : Int) ^ pre.length = 2 ^ (7 * pre.length) := by rw [Int.pow_mul]; rfl
      refine or_join (7 * pre.length) (by omega) h0 (by rw [← e2]; exact h1) (Int.mul_nonneg (by omega) (Int.le_of_lt hpp)) (by rw [e2]; exact Int.mul_emod_left _ _) hcm'
    -- the head of the loop
    have hstep : ∀ k, num_Get.l0 (k + 1) u (pre ++ c :: r) ((pre ++ c :: r).length : Int) (pre.length : Int) = num_Get.j1 k u (pre.length : Int) c (pre ++ c :: r) ((pre ++ c :: r).length : Int) (pre.length : Int) (decide (pre.length = 9 ∧ c > 1)) := by
      intro k
      simp only [num_Get.l0]
      rw [if_pos hlt, if_pos (by omega), if_pos hlt, rd_append]
      by_cases h9 : pre.length = 9
      · rw [if_pos (by omega)]
        congr 1
        simp [h9]
      · rw [if_neg (by omega)]
        congr 1
        simp [h9]
    refine Ev.step hstep ?_
    by_cases hx : pre.length = 9 ∧ c > 1
    · refine Ev.step (f := fun _ => some (0, 0, 1)) (fun k => ?_) (evEq (Ev.now _) ?_)
      · simp only [num_Get.j1]
        rw [if_pos (by simp [hx])]
      · unfold ug; rw [if_pos hx]
    · have hbt := hbits hx
      have hd : decide (pre.length = 9 ∧ c > 1) = false := by simpa using fun h h2 => hx ⟨h, h2⟩
      rw [hd]
      by_cases hc1 : c > 127
      · have hi9 : pre.length ≠ 9 := fun h => hx ⟨h, by omega⟩
        have hrec := ih (pre ++ [c]) (u + (c - 128) * 128 ^ pre.length) (by rw [List.append_assoc]; exact hb) (by rw [List.append_assoc]; exact hl) (by simp; omega) (Int.add_nonneg h0 (Int.mul_nonneg (by omega) (Int.le_of_lt hpp))) (by
          simp only [List.length_append, List.length_cons, List.length_nil]
          have : (c - 128) * 128 ^ pre.length ≤ 127 * 128 ^ pre.length := Int.mul_le_mul_of_nonneg_right (by omega) (Int.le_of_lt hpp)
          rw [Int.pow_succ]
          omega)
        simp only [List.append_assoc, List.cons_append, List.nil_append, List.length_append, List.length_cons, List.length_nil] at hrec
        refine Ev.step (fun k => ?_) (evEq hrec ?_)
        · simp only [num_Get.j1]
          rw [if_neg (by simp), if_pos (by omega), if_pos hc1, hbt, w64 (by omega) (by omega)]
          rw [show c % 128 = c - 128 by omega]
          simp only [Nat.zero_add, Int.natCast_add, Int.natCast_one, List.length_append, List.length_cons]
        · conv => rhs; unfold ug
          rw [if_neg hx, if_pos hc1]
      · have e1 : c % 128 = c := by omega
        rw [e1] at hbt
        have hv : 0 ≤ u + c * 128 ^ pre.length ∧ u + c * 128 ^ pre.length < 18446744073709551616 := by
          refine ⟨Int.add_nonneg h0 (Int.mul_nonneg hc.1 (Int.le_of_lt hpp)), ?_⟩
          by_cases hi9 : pre.length = 9
          · have : c ≤ 1 := by
              rcases Int.lt_or_le 1 c with h | h
              · exact absurd ⟨hi9, h⟩ hx
              · exact h
            rw [hi9] at h1 ⊢
            omega
          · have h8 := pow128_mono (i := pre.length) (j := 8) (by omega)
            have h2 : c * 128 ^ pre.length ≤ 127 * 128 ^ pre.length := Int.mul_le_mul_of_nonneg_right (by omega) (Int.le_of_lt hpp)
            have e8 : (128 : Int) ^ 8 = 72057594037927936 := rfl
            omega
        by_cases hz : pre.length > 0 ∧ c = 0
        · refine Ev.step (f := fun k => num_Get.j2 k (u + c * 128 ^ pre.length) (pre.length : Int) true) (fun k => ?_) ?_
          · simp only [num_Get.j1]
            rw [if_neg (by simp), if_pos (by omega), if_neg hc1, hbt, if_pos (by omega)]
            congr 1
            simp [hz.2]
          · refine Ev.step (f := fun _ => some (0, 0, 1)) (fun k => ?_) (evEq (Ev.now _) ?_)
            · simp only [num_Get.j2]; rw [if_pos trivial]
            · unfold ug; rw [if_neg hx, if_neg hc1, if_pos hz]
        · refine Ev.step (f := fun k => num_Get.j2 k (u + c * 128 ^ pre.length) (pre.length : Int) false) (fun k => ?_) ?_
          · simp only [num_Get.j1]
            rw [if_neg (by simp), if_pos (by omega), if_neg hc1, hbt]
            by_cases hp : (pre.length : Int) > 0
            · rw [if_pos hp]
              congr 1
              simp only [beq_eq_false_iff_ne]
              exact fun h => hz ⟨by omega, h⟩
            · rw [if_neg hp]
          · refine Ev.step (f := fun _ => some (unzig (u + c * 128 ^ pre.length), (pre.length : Int) + 1, 0)) (fun k => ?_) (evEq (Ev.now _) ?_)
            · simp only [num_Get.j2]
              rw [if_neg (by simp), w64 (x := (pre.length : Int) + 1) (by omega) (by omega), w64 (x := (u + c * 128 ^ pre.length) / 2) (by omega) (by omega)]
              have ha : Go.bits .and .u64 (u + c * 128 ^ pre.length) 1 = (u + c * 128 ^ pre.length) % 2 := bits_mask .u64 64 (by decide) wraps_u64 1 (by decide) _ hv.1 (by omega)
              rw [ha, not_i64 (by omega) (by omega)]
              unfold unzig
              split <;> rfl
            · unfold ug; rw [if_neg hx, if_neg hc1, if_neg hz]
theorem num_Get_ev {l : List Int} (h : Byt l) (hl : l.length < 9223372036854775800) : Ev (fun k => num_Get.f k l) (getN l) := num_Get_l l [] 0 (by simpa using h) (by simpa using hl) (by simp) (by decide) (by simp)
theorem num_GetText_ev {l : List Int} (h : Byt l) (hl : l.length < 9223372036854775800) : Ev (fun k => num_GetText.f k l) (getT l) := by
  have hb := getN_bound l
  have hi := getN_i64 h
  unfold I64 at hi
  unfold num_GetText.f
  refine Ev.bind (num_Get_ev h hl) ?_
  unfold getT
  by_cases h0 : (getN l).2.2 = 0
  · simp only [h0, ne_eq, not_true_eq_false, if_false, if_true]
    by_cases h1 : (getN l).1 < 0 ∨ (getN l).1 > 65536
    · rw [if_pos h1]
      have e : ∀ k, (if (getN l).1 < 0 then num_GetText.j0 k l (getN l).1 (getN l).2.1 true else num_GetText.j0 k l (getN l).1 (getN l).2.1 (decide ((getN l).1 > 65536))) = num_GetText.j0 k l (getN l).1 (getN l).2.1 true := by
        intro k
        split
        · rfl
        · rw [decide_eq_true (by omega)]
      refine Ev.congr e (Ev.step (f := fun _ => some (⟨#[]⟩, 0, 1)) (fun k => ?_) (Ev.now _))
      simp only [num_GetText.j0]
      rw [if_pos trivial]
    · rw [if_neg h1]
      have e : ∀ k, (if (getN l).1 < 0 then num_GetText.j0 k l (getN l).1 (getN l).2.1 true else num_GetText.j0 k l (getN l).1 (getN l).2.1 (decide ((getN l).1 > 65536))) = num_GetText.j0 k l (getN l).1 (getN l).2.1 false := by
        intro k
        rw [if_neg (by omega), decide_eq_false (by omega)]
      refine Ev.congr e (Ev.step (f := fun _ => if (getN l).1 > (l.length : Int) - (getN l).2.1 then some (⟨#[]⟩, 0, 2) else some (strOfNums ((l.take ((getN l).2.1 + (getN l).1).toNat).drop (getN l).2.1.toNat), (getN l).2.1 + (getN l).1, 0)) (fun k => ?_) ?_)
      · simp only [num_GetText.j0]
        rw [if_neg (by simp), w64 (x := (l.length : Int) - (getN l).2.1) (by omega) (by omega)]
        split
        · rfl
        · rw [w64 (x := (getN l).2.1 + (getN l).1) (by omega) (by omega), if_pos (by omega), if_pos (by omega), if_pos (by omega)]
      · split <;> exact Ev.now _
  · have h0' : ¬ ((getN l).2.2 = 0) := h0
    simp only [ne_eq, h0, not_false_eq_true, if_true, if_false]
    exact Ev.now _
end Go.Proofs.Ytbogcnfmdakdmaa.Q

/- Values in plain Lean: the printed functions of package value and of its reference. -/
set_option linter.unusedVariables false
set_option linter.unusedSimpArgs false
namespace Go.Proofs.Ytbogcnfmdakdmaa.Q
open Go.RowKit Go.Proofs.YtbogcnfmdakdmaaW.PrintWords Go.Proofs.YtbogcnfmdakdmaaW.PrintMore Go.Proofs.Ytbogcnfmdakdmaa.G Go.Proofs.Ytbogcnfmdakdmaa.XBat
theorem nil_iff (s : ByteArray) : s.toList = ([] : List UInt8) ↔ s.size = 0 := by
  rw [toList_eq]
  have := data_length s
  constructor
  · intro e
    rw [e] at this
    simpa using this.symm
  · intro h
    exact List.eq_nil_of_length_eq_zero (by omega)
theorem size0 {s : ByteArray} (h : s.size = 0) : s = ⟨#[]⟩ := by
  apply bytesOf_inj
  rw [bytes_empty]
  apply List.eq_nil_of_length_eq_zero
  rw [bytesOf_length, h]
/-- May a raw value be one; what it is then. -/
def mayV (a b : Int) (s : ByteArray) : Bool := decide ((a = 1 ∧ s.size = 0) ∨ (a = 2 ∧ b = 0 ∧ s.size ≤ 24 ∧ vld s = true))
def ofV (a b : Int) (s : ByteArray) : VX × Int := if a = 1 ∧ s.size = 0 then (VX.num b, 0) else if a = 2 ∧ b = 0 ∧ s.size ≤ 24 ∧ vld s = true then (VX.txt s, 0) else (VX.none, 1)
theorem mayV_cases {a b : Int} {s : ByteArray} (h : mayV a b s = true) : (a = 1 ∧ s = ⟨#[]⟩) ∨ (a = 2 ∧ b = 0 ∧ s.size ≤ 24 ∧ vld s = true) := by
  rcases of_decide_eq_true h with ⟨h1, h2⟩ | h1
  · exact .inl ⟨h1, size0 h2⟩
  · exact .inr h1
theorem mayV_size {a b : Int} {s : ByteArray} (h : mayV a b s = true) : s.size ≤ 24 := by
  rcases mayV_cases h with ⟨h1, h2⟩ | h1
  · rw [h2]; decide
  · exact h1.2.2.1
theorem mayV_a {a b : Int} {s : ByteArray} (h : mayV a b s = true) : a = 1 ∨ a = 2 := by
  rcases mayV_cases h with h1 | h1
  · exact .inl h1.1
  · exact .inr h1.1
theorem ofV_j (a b : Int) (s : ByteArray) (hs : s.size < 35184372088832) (x : Bool) : Ev (fun k => value_Of.j0 k x a b s) (if x = true then (VX.num b, 0) else if a = 2 ∧ b = 0 ∧ s.size ≤ 24 ∧ vld s = true then (VX.txt s, 0) else (VX.none, 1)) := by
  refine Ev.step (f := fun _ => some (if x = true then (VX.num b, 0) else if a = 2 ∧ b = 0 ∧ s.size ≤ 24 ∧ vld s = true then (VX.txt s, 0) else (VX.none, 1))) (fun k => ?_) (Ev.now _)
  simp only [value_Of.j0, rValid hs, Option.bind_some]
  by_cases hx : x = true
  · rw [if_pos hx, if_pos hx]
  · rw [if_neg hx, if_neg hx]
    by_cases h1 : a = 2
    · rw [if_pos h1]
      by_cases h2 : b = 0
      · rw [if_pos h2]
        by_cases h3 : (s.size : Int) ≤ 24
        · rw [if_pos h3]
          by_cases h4 : vld s = true
          · rw [if_pos h4, if_pos ⟨h1, h2, by omega, h4⟩]
          · rw [if_neg h4, if_neg (fun h => h4 h.2.2.2)]
        · rw [if_neg h3, if_neg (fun h => h3 (by omega))]
      · rw [if_neg h2, if_neg (fun h => h2 h.2.1)]
    · rw [if_neg h1, if_neg (fun h => h1 h.1)]
theorem value_Of_ev (a b : Int) {s : ByteArray} (hs : s.size < 35184372088832) : Ev (fun k => value_Of.f k a b s) (ofV a b s) := by
  unfold value_Of.f ofV
  by_cases h1 : a = 1
  · refine Ev.congr (fun k => if_pos h1) (evEq (ofV_j a b s hs _) ?_)
    by_cases h2 : s.size = 0
    · have := (nil_iff s).2 h2
      rw [if_pos (by rw [this]; rfl), if_pos ⟨h1, h2⟩]
    · have : ¬ s.toList = ([] : List UInt8) := fun h => h2 ((nil_iff s).1 h)
      rw [if_neg (by simpa using this), if_neg (show ¬ (a = 1 ∧ s.size = 0) from fun h => h2 h.2)]
  · refine Ev.congr (fun k => if_neg h1) (evEq (ofV_j a b s hs _) ?_)
    rw [if_neg (show ¬ (a = 1 ∧ s.size = 0) from fun h => h1 h.1)]
    rfl
theorem ofV_two {a : Int} (ha : a = 2) (s : ByteArray) : ofV a 0 s = if mayV 2 0 s = true then (VX.txt s, 0) else (VX.none, 1) := by
  subst ha
  unfold ofV mayV
  rw [if_neg (show ¬ ((2 : Int) = 1 ∧ s.size = 0) from fun h => by cases h.1)]
  by_cases h : s.size ≤ 24 ∧ vld s = true
  · rw [if_pos ⟨rfl, rfl, h.1, h.2⟩, if_pos (decide_eq_true (.inr ⟨rfl, rfl, h.1, h.2⟩))]
  · rw [if_neg (show ¬ ((2 : Int) = 2 ∧ (0 : Int) = 0 ∧ s.size ≤ 24 ∧ vld s = true) from fun h2 => h ⟨h2.2.2.1, h2.2.2.2⟩), decide_eq_false (fun h2 => h2.elim (fun h3 => by cases h3.1) (fun h3 => h ⟨h3.2.2.1, h3.2.2.2⟩))]
    rfl
theorem may_ev (a b : Int) {s : ByteArray} (hs : s.size < 17592186044416) : Ev (fun k => loessref1_MayVal.f k a b s) (mayV a b s) := by
  unfold loessref1_MayVal.f mayV
  by_cases h1 : a = 1
  · refine Ev.congr (fun k => if_pos h1) (evC ?_)
    congr 1
    by_cases h2 : s.size = 0
    · have := (nil_iff s).2 h2
      rw [this]
      simp [h1, h2]
    · have : ¬ s.toList = ([] : List UInt8) := fun h => h2 ((nil_iff s).1 h)
      rw [decide_eq_false (by omega)]
      simpa using this
  · refine Ev.congr (fun k => if_neg h1) ?_
    by_cases h2 : a = 2
    · refine Ev.congr (fun k => if_pos h2) ?_
      by_cases h3 : b = 0
      · refine Ev.congr (fun k => if_pos h3) ?_
        by_cases h4 : (s.size : Int) ≤ 24
        · refine Ev.congr (fun k => if_pos h4) (Ev.bind (refValid_ev hs) (evC ?_))
          have h5 : s.size ≤ 24 := by omega
          rw [show (ds (bytesOf s)).all (·.2.2) = vld s from rfl]
          cases hv : vld s with
          | true => rw [decide_eq_true (.inr ⟨h2, h3, h5, rfl⟩)]
          | false => rw [decide_eq_false (fun h => h.elim (fun h => h1 h.1) (fun h => by cases h.2.2.2))]
        · refine Ev.congr (fun k => if_neg h4) (evC ?_)
          rw [decide_eq_false (by omega)]
      · refine Ev.congr (fun k => if_neg h3) (evC ?_)
        rw [decide_eq_false (by omega)]
    · refine Ev.congr (fun k => if_neg h2) (evC ?_)
      rw [decide_eq_false (by omega)]
theorem eqVal_eq (a b : Int) (s : ByteArray) (c d : Int) (t : ByteArray) : loessref1_EqVal.f a b s c d t = some (decide (a = c ∧ b = d ∧ s = t)) := by
  unfold loessref1_EqVal.f
  by_cases h1 : a = c
  · rw [if_pos h1]
    by_cases h2 : b = d
    · rw [if_pos h2]
      congr 1
      by_cases h3 : s = t
      · subst h3; simp [h1, h2]
      · have : ¬ s.toList = t.toList := fun h => h3 (toList_inj h)
        simp [h1, h2, h3, this]
    · rw [if_neg h2, decide_eq_false (fun h => h2 h.2.1)]
  · rw [if_neg h1, decide_eq_false (fun h => h1 h.1)]
/-- A value read. -/
def getV (l : List Int) : Int × Int × ByteArray × Int × Int :=
  if (getN l).2.2 = 0 then
    if (getN l).1 = 1 then
      if (getN (l.drop (getN l).2.1.toNat)).2.2 = 0 then (1, (getN (l.drop (getN l).2.1.toNat)).1, ⟨#[]⟩, (getN l).2.1 + (getN (l.drop (getN l).2.1.toNat)).2.1, 0) else (0, 0, ⟨#[]⟩, 0, (getN (l.drop (getN l).2.1.toNat)).2.2)
    else if (getN l).1 = 2 then
      if (getT (l.drop (getN l).2.1.toNat)).2.2 = 0 then
        if mayV 2 0 (getT (l.drop (getN l).2.1.toNat)).1 = true then (2, 0, (getT (l.drop (getN l).2.1.toNat)).1, (getN l).2.1 + (getT (l.drop (getN l).2.1.toNat)).2.1, 0) else (0, 0, ⟨#[]⟩, 0, 1)
      else (0, 0, ⟨#[]⟩, 0, (getT (l.drop (getN l).2.1.toNat)).2.2)
    else (0, 0, ⟨#[]⟩, 0, 1)
  else (0, 0, ⟨#[]⟩, 0, (getN l).2.2)
theorem getT_size (l : List Int) (hb : Byt l) : (getT l).1.size ≤ 65536 := by
  by_cases h : (getT l).2.2 = 0
  · exact (getT_canon hb h).2.2
  · rw [((getT_bound l).2.2.2 h).1]
    decide
theorem get_ev {l : List Int} (hb : Byt l) (hl : l.length < 4611686018427387904) : Ev (fun k => value_Get.f k l) (getV l) := by
  have b1 := getN_bound l
  have hbd : Byt (l.drop (getN l).2.1.toNat) := hb.drop _
  have hld : (l.drop (getN l).2.1.toNat).length ≤ l.length := by rw [List.length_drop]; omega
  unfold value_Get.f getV
  refine Ev.bind (num_Get_ev hb (by omega)) ?_
  by_cases h0 : (getN l).2.2 = 0
  · refine Ev.congr (fun k => if_pos h0) ?_
    rw [if_pos h0]
    by_cases h1 : (getN l).1 = 1
    · have b2 := getN_bound (l.drop (getN l).2.1.toNat)
      refine Ev.congr (fun k => if_pos h1) ?_
      rw [if_pos h1]
      refine Ev.congr (fun k => if_pos b1.1) (Ev.congr (fun k => if_pos b1.2.1) (Ev.bind (num_Get_ev hbd (by omega)) ?_))
      by_cases h2 : (getN (l.drop (getN l).2.1.toNat)).2.2 = 0
      · rw [if_pos h2]
        refine Ev.step (f := fun k => (value_Of.f k (getN l).1 (getN (l.drop (getN l).2.1.toNat)).1 ⟨#[]⟩).bind fun bt248 => if bt248.2 = 0 then some ((getN l).1, (getN (l.drop (getN l).2.1.toNat)).1, ⟨#[]⟩, wrap64 ((getN l).2.1 + (getN (l.drop (getN l).2.1.toNat)).2.1), 0) else some (0, 0, ⟨#[]⟩, 0, bt248.2)) (fun k => ?_) ?_
        · simp only [value_Get.j0]
          rw [if_pos h2]
        · refine Ev.bind (value_Of_ev _ _ (by decide)) (evC ?_)
          have e : ofV (getN l).1 (getN (l.drop (getN l).2.1.toNat)).1 ⟨#[]⟩ = (VX.num (getN (l.drop (getN l).2.1.toNat)).1, 0) := by unfold ofV; rw [if_pos ⟨h1, rfl⟩]
          rw [e, if_pos rfl, h1, w64 (by omega) (by omega)]
      · rw [if_neg h2]
        refine Ev.step (f := fun _ => some (0, 0, ⟨#[]⟩, 0, (getN (l.drop (getN l).2.1.toNat)).2.2)) (fun k => ?_) (Ev.now _)
        simp only [value_Get.j0]
        rw [if_neg h2]
    · refine Ev.congr (fun k => if_neg h1) ?_
      rw [if_neg h1]
      by_cases h2 : (getN l).1 = 2
      · have b2 := getT_bound (l.drop (getN l).2.1.toNat)
        refine Ev.congr (fun k => if_pos h2) ?_
        rw [if_pos h2]
        refine Ev.congr (fun k => if_pos b1.1) (Ev.congr (fun k => if_pos b1.2.1) (Ev.bind (num_GetText_ev hbd (by omega)) ?_))
        have hts := getT_size _ hbd
        by_cases h3 : (getT (l.drop (getN l).2.1.toNat)).2.2 = 0
        · rw [if_pos h3]
          refine Ev.step (f := fun k => (value_Of.f k (getN l).1 0 (getT (l.drop (getN l).2.1.toNat)).1).bind fun bt248 => if bt248.2 = 0 then some ((getN l).1, 0, (getT (l.drop (getN l).2.1.toNat)).1, wrap64 ((getN l).2.1 + (getT (l.drop (getN l).2.1.toNat)).2.1), 0) else some (0, 0, ⟨#[]⟩, 0, bt248.2)) (fun k => ?_) ?_
          · simp only [value_Get.j0]
            rw [if_pos h3]
          · refine Ev.bind (value_Of_ev _ _ (by omega)) (evC ?_)
            rw [ofV_two h2]
            by_cases h4 : mayV 2 0 (getT (l.drop (getN l).2.1.toNat)).1 = true
            · rw [if_pos h4, if_pos h4, if_pos rfl, h2, w64 (by omega) (by omega)]
            · rw [if_neg h4, if_neg h4, if_neg (by simp)]
        · rw [if_neg h3]
          refine Ev.step (f := fun _ => some (0, 0, ⟨#[]⟩, 0, (getT (l.drop (getN l).2.1.toNat)).2.2)) (fun k => ?_) (Ev.now _)
          simp only [value_Get.j0]
          rw [if_neg h3]
      · refine Ev.congr (fun k => if_neg h2) ?_
        rw [if_neg h2]
        refine Ev.step (f := fun _ => some (0, 0, ⟨#[]⟩, 0, 1)) (fun k => ?_) (Ev.now _)
        simp only [value_Get.j0]
        rw [if_neg (by omega)]
  · refine Ev.congr (fun k => if_neg h0) (evC ?_)
    rw [if_neg h0]
theorem cut3_eq (s : ByteArray) (n : Nat) : ∃ t : ByteArray, loesslaw3_Cut.f s (n : Int) = some t ∧ t.size ≤ n ∧ bytesOf t = (bytesOf s).take n := by
  unfold loesslaw3_Cut.f
  split
  · rw [if_pos (by omega), if_pos (by omega)]
    refine ⟨_, rfl, ?_, ?_⟩
    · simp only [ByteArray.size_extract]; omega
    · rw [bytesOf_extract]; simp
  · refine ⟨_, rfl, by omega, ?_⟩
    rw [List.take_of_length_le (by rw [bytesOf_length]; omega)]
end Go.Proofs.Ytbogcnfmdakdmaa.Q

/- A value's bytes in plain Lean: what is written of it is read again; what is cut off is not all there. -/
set_option linter.unusedVariables false
set_option linter.unusedSimpArgs false
namespace Go.Proofs.Ytbogcnfmdakdmaa.Q
open Go.RowKit Go.Proofs.YtbogcnfmdakdmaaW.PrintWords Go.Proofs.YtbogcnfmdakdmaaW.PrintMore Go.Proofs.Ytbogcnfmdakdmaa.G Go.Proofs.Ytbogcnfmdakdmaa.XBat
def putV (a b : Int) (s : ByteArray) : List Int := putN a ++ (if a = 1 then putN b else putT s)
theorem putV_byt (a b : Int) (s : ByteArray) : Byt (putV a b s) := by
  unfold putV
  refine (putN_byt a).append ?_
  split
  · exact putN_byt b
  · exact putT_byt s
theorem putT_len {s : ByteArray} {n : Nat} (h : s.size ≤ n) (hn : n ≤ 4611686018427387904) : (putT s).length ≤ n + 10 := by
  have := putN_len (n := (s.size : Int)) (by unfold I64; omega)
  unfold putT
  rw [List.length_append, bytesOf_length]
  omega
theorem putV_len {a b : Int} {s : ByteArray} (ha : I64 a) (hb : I64 b) {n : Nat} (h : s.size ≤ n) (hn : n ≤ 4611686018427387904) : (putV a b s).length ≤ n + 20 := by
  have h1 := putN_len ha
  have h2 := putN_len hb
  have h3 := putT_len h hn
  unfold putV
  rw [List.length_append]
  split <;> omega
theorem value_Put_ev {a b : Int} {s : ByteArray} (ha : I64 a) (hb : I64 b) (h : s.size ≤ 17592186044416) (l : List Int) (hl : l.length + 10 ≤ 35184372088832) : Ev (fun k => value_Put.f k l a b s) (l ++ putV a b s) := by
  have h1 := putN_len ha
  unfold value_Put.f putV
  refine Ev.bind (num_Put_ev ha l (by omega)) ?_
  by_cases e : a = 1
  · refine Ev.congr (fun k => if_pos e) ?_
    rw [if_pos e, ← List.append_assoc]
    exact Ev.bind (num_Put_ev hb (l ++ putN a) (by rw [List.length_append]; omega)) (Ev.now _)
  · refine Ev.congr (fun k => if_neg e) ?_
    rw [if_neg e, ← List.append_assoc]
    exact Ev.bind (num_PutText_ev (s := s) (by omega) (l ++ putN a) (by rw [List.length_append]; omega)) (Ev.now _)
theorem mayV_i64 {a b : Int} {s : ByteArray} (h : mayV a b s = true) : I64 a := by
  unfold I64
  rcases mayV_a h with h1 | h1 <;> omega
theorem getV_put {a b : Int} {s : ByteArray} (h : mayV a b s = true) (hb : I64 b) (rest : List Int) : getV (putV a b s ++ rest) = (a, b, s, ((putV a b s).length : Int), 0) := by
  have hi := mayV_i64 h
  unfold getV
  have e0 : getN (putV a b s ++ rest) = (a, ((putN a).length : Int), 0) := by
    unfold putV; rw [List.append_assoc]; exact getN_put hi _
  have e1 : (putV a b s ++ rest).drop ((putN a).length : Int).toNat = (if a = 1 then putN b else putT s) ++ rest := by
    unfold putV; rw [List.append_assoc, Int.toNat_natCast]; exact List.drop_left
  simp only [e0, e1, if_true]
  rcases mayV_cases h with ⟨h1, h2⟩ | ⟨h1, h2, h3, h4⟩
  · rw [if_pos h1]
    have e2 : getN ((if a = 1 then putN b else putT s) ++ rest) = (b, ((putN b).length : Int), 0) := by rw [if_pos h1]; exact getN_put hb _
    simp only [e2, if_true]
    unfold putV
    rw [if_pos h1, List.length_append, h1, h2]
    simp
  · subst h1; subst h2
    rw [if_neg (show ¬ ((2 : Int) = 1) by decide), if_pos rfl]
    have e2 : getT ((if (2 : Int) = 1 then putN 0 else putT s) ++ rest) = (s, ((putT s).length : Int), 0) := by rw [if_neg (show ¬ ((2 : Int) = 1) by decide)]; exact getT_put (by omega) _
    simp only [e2, if_true]
    unfold putV
    rw [if_pos h, if_neg (show ¬ ((2 : Int) = 1) by decide), List.length_append]
    simp
theorem getV_cut {a b : Int} {s : ByteArray} (h : mayV a b s = true) (hb : I64 b) {m : Nat} (hm : m < (putV a b s).length) : getV ((putV a b s).take m) = (0, 0, ⟨#[]⟩, 0, 2) := by
  have hi := mayV_i64 h
  unfold getV
  by_cases hc : m < (putN a).length
  · have e0 : getN ((putV a b s).take m) = (0, 0, 2) := by
      unfold putV; rw [List.take_append_of_le_length (by omega)]; exact getN_cut hi hc
    simp only [e0]
    rw [if_neg (by decide)]
  · have e3 : (putV a b s).take m = putN a ++ (if a = 1 then putN b else putT s).take (m - (putN a).length) := by
      unfold putV; rw [List.take_append, List.take_of_length_le (by omega)]
    have e0 : getN ((putV a b s).take m) = (a, ((putN a).length : Int), 0) := by rw [e3]; exact getN_put hi _
    have e1 : ((putV a b s).take m).drop ((putN a).length : Int).toNat = (if a = 1 then putN b else putT s).take (m - (putN a).length) := by
      rw [e3, Int.toNat_natCast]; exact List.drop_left
    simp only [e0, e1, if_true]
    unfold putV at hm
    rw [List.length_append] at hm
    rcases mayV_cases h with ⟨h1, h2⟩ | ⟨h1, h2, h3, h4⟩
    · rw [if_pos h1] at hm ⊢
      have e2 : getN ((if a = 1 then putN b else putT s).take (m - (putN a).length)) = (0, 0, 2) := by rw [if_pos h1]; exact getN_cut hb (by omega)
      simp only [e2]
      rw [if_neg (by decide)]
    · subst h1; subst h2
      rw [if_neg (show ¬ ((2 : Int) = 1) by decide)] at hm
      rw [if_neg (show ¬ ((2 : Int) = 1) by decide), if_pos rfl]
      have e2 : getT ((if (2 : Int) = 1 then putN 0 else putT s).take (m - (putN 2).length)) = (⟨#[]⟩, 0, 2) := by rw [if_neg (show ¬ ((2 : Int) = 1) by decide)]; exact getT_cut (by omega) (by omega)
      simp only [e2]
      rw [if_neg (by decide)]
end Go.Proofs.Ytbogcnfmdakdmaa.Q

/- Records in plain Lean: package record and its reference. -/
set_option linter.unusedVariables false
set_option linter.unusedSimpArgs false
namespace Go.Proofs.Ytbogcnfmdakdmaa.Q
open Go.RowKit Go.Proofs.YtbogcnfmdakdmaaW.PrintWords Go.Proofs.YtbogcnfmdakdmaaW.PrintMore Go.Proofs.Ytbogcnfmdakdmaa.G Go.Proofs.Ytbogcnfmdakdmaa.XBat
abbrev Rc := S38
def keyB (s : ByteArray) : Bool := decide (1 ≤ s.size ∧ s.size ≤ 16)
def mayR (x : Rc) : Bool := keyB x.f0 && (if x.f1 = true then decide (x.f2.f0 = 0 ∧ x.f2.f1 = 0 ∧ x.f2.f2.size = 0) else mayV x.f2.f0 x.f2.f1 x.f2.f2)
def mayB (l : List Rc) : Bool := decide (l.length ≤ 1000) && l.all mayR
theorem key_May_eq (s : ByteArray) : key_May.f s = some (keyB s) := by
  unfold key_May.f keyB
  by_cases h : s.toList = ([] : List UInt8)
  · rw [if_pos h]
    have := (nil_iff s).1 h
    rw [decide_eq_false (by omega)]
  · rw [if_neg h]
    have : s.size ≠ 0 := fun e => h ((nil_iff s).2 e)
    congr 1
    exact decide_eq_decide.2 (by omega)
theorem mayKey_eq (s : ByteArray) : loessref1_MayKey.f s = some (keyB s) := by
  unfold loessref1_MayKey.f keyB
  by_cases h : (s.size : Int) ≥ 1
  · rw [if_pos h]
    congr 1
    exact decide_eq_decide.2 (by omega)
  · rw [if_neg h, decide_eq_false (by omega)]
theorem ofV_may (a b : Int) (s : ByteArray) : ((ofV a b s).2 == 0) = mayV a b s := by
  unfold ofV mayV
  by_cases h1 : a = 1 ∧ s.size = 0
  · rw [if_pos h1, decide_eq_true (.inl h1)]; rfl
  · rw [if_neg h1]
    by_cases h2 : a = 2 ∧ b = 0 ∧ s.size ≤ 24 ∧ vld s = true
    · rw [if_pos h2, decide_eq_true (.inr h2)]; rfl
    · rw [if_neg h2, decide_eq_false (fun h => h.elim h1 h2)]; rfl
theorem nil_beq (s : ByteArray) : (s.toList == ([] : List UInt8)) = decide (s.size = 0) := by
  by_cases h : s.size = 0
  · rw [(nil_iff s).2 h, decide_eq_true h]; rfl
  · rw [decide_eq_false h]
    exact beq_eq_false_iff_ne.mpr (fun e => h ((nil_iff s).1 e))
theorem record_May_ev (x : Rc) (h : x.f2.f2.size < 17592186044416) : Ev (fun k => record_May.f k x.f0 x.f1 x.f2.f0 x.f2.f1 x.f2.f2) (mayR x) := by
  unfold record_May.f mayR
  refine Ev.bind (evC (key_May_eq x.f0)) ?_
  by_cases hk : keyB x.f0 = true
  · refine Ev.congr (fun k => if_pos hk) ?_
    rw [hk, Bool.true_and]
    by_cases hg : x.f1 = true
    · refine Ev.congr (fun k => if_pos hg) (evC ?_)
      rw [if_pos hg, nil_beq]
      simp [Bool.beq_eq_decide_eq]
    · refine Ev.congr (fun k => if_neg hg) ?_
      rw [if_neg hg]
      refine Ev.bind (value_Of_ev _ _ (by omega)) (evC ?_)
      rw [ofV_may]
  · refine Ev.congr (fun k => if_neg hk) (evC ?_)
    rw [Bool.eq_false_iff.2 hk]
    rfl
theorem ref_May_ev (x : Rc) (h : x.f2.f2.size < 17592186044416) : Ev (fun k => loessref10_May.f k x.f0 x.f1 x.f2.f0 x.f2.f1 x.f2.f2) (mayR x) := by
  unfold loessref10_May.f mayR
  refine Ev.bind (evC (mayKey_eq x.f0)) ?_
  by_cases hk : keyB x.f0 = true
  · refine Ev.congr (fun k => if_pos hk) ?_
    rw [hk, Bool.true_and]
    by_cases hg : x.f1 = true
    · refine Ev.congr (fun k => if_pos hg) ?_
      rw [if_pos hg]
      by_cases h1 : x.f2.f0 = 0
      · refine Ev.congr (fun k => if_pos h1) ?_
        by_cases h2 : x.f2.f1 = 0
        · refine Ev.congr (fun k => if_pos h2) (evC ?_)
          rw [nil_beq]
          simp [h1, h2]
        · refine Ev.congr (fun k => if_neg h2) (evC ?_)
          rw [decide_eq_false (fun h => h2 h.2.1)]
      · refine Ev.congr (fun k => if_neg h1) (evC ?_)
        rw [decide_eq_false (fun h => h1 h.1)]
    · refine Ev.congr (fun k => if_neg hg) ?_
      rw [if_neg hg]
      exact Ev.bind (may_ev _ _ h) (Ev.now _)
  · refine Ev.congr (fun k => if_neg hk) (evC ?_)
    rw [Bool.eq_false_iff.2 hk]
    rfl
theorem rc_ext {x y : Rc} : (x.f0 = y.f0 ∧ x.f1 = y.f1 ∧ x.f2.f0 = y.f2.f0 ∧ x.f2.f1 = y.f2.f1 ∧ x.f2.f2 = y.f2.f2) ↔ x = y := by
  constructor
  · rintro ⟨h1, h2, h3, h4, h5⟩
    obtain ⟨a, b, c, d, e⟩ := x
    obtain ⟨a', b', c', d', e'⟩ := y
    simp only at h1 h2 h3 h4 h5
    rw [h1, h2, h3, h4, h5]
  · rintro rfl; exact ⟨rfl, rfl, rfl, rfl, rfl⟩
instance : DecidableEq Rc := fun x y => decidable_of_iff _ (rc_ext (x := x) (y := y))
theorem list_beq (a b : ByteArray) : (a.toList == b.toList) = decide (a = b) := by
  by_cases h : a = b
  · subst h; simp
  · rw [decide_eq_false h]
    exact beq_eq_false_iff_ne.mpr (fun e => h (toList_inj e))
theorem record_Eq_eq (x y : Rc) : record_Eq.f x.f0 x.f1 x.f2.f0 x.f2.f1 x.f2.f2 y.f0 y.f1 y.f2.f0 y.f2.f1 y.f2.f2 = some (decide (x = y)) := by
  unfold record_Eq.f
  congr 1
  rw [list_beq, list_beq, show decide (x = y) = decide (x.f0 = y.f0 ∧ x.f1 = y.f1 ∧ x.f2.f0 = y.f2.f0 ∧ x.f2.f1 = y.f2.f1 ∧ x.f2.f2 = y.f2.f2) from decide_eq_decide.2 rc_ext.symm]
  simp [Bool.beq_eq_decide_eq]
theorem ref_Eq_eq (x y : Rc) : loessref10_Eq.f x.f0 x.f1 x.f2.f0 x.f2.f1 x.f2.f2 y.f0 y.f1 y.f2.f0 y.f2.f1 y.f2.f2 = some (decide (x = y)) := by
  unfold loessref10_Eq.f
  rw [show decide (x = y) = decide (x.f0 = y.f0 ∧ x.f1 = y.f1 ∧ x.f2.f0 = y.f2.f0 ∧ x.f2.f1 = y.f2.f1 ∧ x.f2.f2 = y.f2.f2) from decide_eq_decide.2 rc_ext.symm]
  by_cases h1 : x.f0 = y.f0
  · rw [if_pos (by rw [h1])]
    by_cases h2 : x.f1 = y.f1
    · rw [if_pos (by rw [h2]; simp), eqVal_eq]
      simp [h1, h2]
    · rw [if_neg (by simpa using h2), decide_eq_false (fun h => h2 h.2.1)]
  · rw [if_neg (fun e => h1 (toList_inj e)), decide_eq_false (fun h => h1 h.1)]
/-- A record's bytes. -/
def putR (x : Rc) : List Int := putT x.f0 ++ (if x.f1 = true then putN 0 else putV x.f2.f0 x.f2.f1 x.f2.f2)
theorem putR_byt (x : Rc) : Byt (putR x) := by
  unfold putR
  refine (putT_byt _).append ?_
  split
  · exact putN_byt 0
  · exact putV_byt _ _ _
/-- A record that is not too long. -/
def SmR (x : Rc) : Prop := x.f0.size ≤ 20 ∧ x.f2.f2.size ≤ 30 ∧ I64 x.f2.f0 ∧ I64 x.f2.f1
theorem putR_len {x : Rc} (h : SmR x) : (putR x).length ≤ 80 := by
  obtain ⟨h1, h2, h3, h4⟩ := h
  have a1 := putT_len h1 (by decide)
  have a2 := putV_len h3 h4 h2 (by decide)
  have a3 := putN_len (n := 0) (by unfold I64; omega)
  unfold putR
  rw [List.length_append]
  split <;> omega
theorem record_Put_ev {x : Rc} (h : SmR x) (l : List Int) (hl : l.length ≤ 17592186044416) : Ev (fun k => record_Put.f k l x.f0 x.f1 x.f2.f0 x.f2.f1 x.f2.f2) (l ++ putR x) := by
  obtain ⟨h1, h2, h3, h4⟩ := h
  have a1 := putT_len h1 (by decide)
  unfold record_Put.f putR
  refine Ev.bind (num_PutText_ev (by omega) l (by omega)) ?_
  by_cases g : x.f1 = true
  · refine Ev.congr (fun k => if_pos g) ?_
    rw [if_pos g, ← List.append_assoc]
    exact Ev.bind (num_Put_ev (by unfold I64; omega) (l ++ putT x.f0) (by rw [List.length_append]; omega)) (Ev.now _)
  · refine Ev.congr (fun k => if_neg g) ?_
    rw [if_neg g, ← List.append_assoc]
    exact Ev.bind (value_Put_ev h3 h4 (by omega) (l ++ putT x.f0) (by rw [List.length_append]; omega)) (Ev.now _)
theorem getV_bound (l : List Int) : 0 ≤ (getV l).2.2.2.1 ∧ (getV l).2.2.2.1 ≤ (l.length : Int) := by
  have b1 := getN_bound l
  have b2 := getN_bound (l.drop (getN l).2.1.toNat)
  have b3 := getT_bound (l.drop (getN l).2.1.toNat)
  rw [List.length_drop] at b2 b3
  unfold getV
  split
  · split
    · split
      · simp only; omega
      · simp
    · split
      · split
        · split
          · simp only; omega
          · simp
        · simp
      · simp
  · simp
/-- A record that is read. -/
def zR : Rc := ⟨⟨#[]⟩, false, ⟨0, 0, ⟨#[]⟩⟩⟩
def tailR (key : ByteArray) (p : Int) (r : List Int) : Rc × Int × Int :=
  if (getN r).2.2 = 0 then
    if (getN r).1 = 0 then (⟨key, true, ⟨0, 0, ⟨#[]⟩⟩⟩, p + (getN r).2.1, 0)
    else if (getV r).2.2.2.2 = 0 then (⟨key, false, ⟨(getV r).1, (getV r).2.1, (getV r).2.2.1⟩⟩, p + (getV r).2.2.2.1, 0)
    else (zR, 0, (getV r).2.2.2.2)
  else (zR, 0, (getN r).2.2)
def getR (l : List Int) : Rc × Int × Int :=
  if (getT l).2.2 = 0 then
    if keyB (getT l).1 = true then tailR (getT l).1 (getT l).2.1 (l.drop (getT l).2.1.toNat) else (zR, 0, 1)
  else (zR, 0, (getT l).2.2)
def flatR (x : Rc × Int × Int) : ByteArray × Bool × Int × Int × ByteArray × Int × Int := (x.1.f0, x.1.f1, x.1.f2.f0, x.1.f2.f1, x.1.f2.f2, x.2.1, x.2.2)
theorem tailR_bound (key : ByteArray) (p : Int) (r : List Int) (n : Int) (h0 : 0 ≤ p) (h1 : p + r.length ≤ n) : 0 ≤ (tailR key p r).2.1 ∧ (tailR key p r).2.1 ≤ n := by
  have b1 := getN_bound r
  have b2 := getV_bound r
  unfold tailR
  split
  · split
    · simp only; omega
    · split
      · simp only; omega
      · simp only; omega
  · simp only; omega
theorem getR_bound (l : List Int) : 0 ≤ (getR l).2.1 ∧ (getR l).2.1 ≤ (l.length : Int) := by
  have b := getT_bound l
  unfold getR
  split
  · split
    · exact tailR_bound _ _ _ _ b.1 (by rw [List.length_drop]; omega)
    · simp
  · simp
theorem record_Get_j1 {l : List Int} (hb : Byt l) (hl : l.length < 4611686018427387904) (key : ByteArray) (p : Int) (h0 : 0 ≤ p) (h1 : p ≤ (l.length : Int)) : Ev (fun k => record_Get.j1 k l key p 0) (flatR (tailR key p (l.drop p.toNat))) := by
  have hbd := hb.drop p.toNat
  have hld : (l.drop p.toNat).length = l.length - p.toNat := List.length_drop
  refine Ev.step (fun k => by unfold record_Get.j1; rfl) ?_
  have b1 := getN_bound (l.drop p.toNat)
  have b2 := getV_bound (l.drop p.toNat)
  unfold tailR
  refine Ev.congr (fun k => if_pos rfl) (Ev.congr (fun k => if_pos h0) (Ev.congr (fun k => if_pos h1) (Ev.bind (num_Get_ev hbd (by omega)) ?_)))
  by_cases c1 : (getN (l.drop p.toNat)).2.2 = 0
  · refine Ev.congr (fun k => if_pos c1) ?_
    rw [if_pos c1]
    by_cases c2 : (getN (l.drop p.toNat)).1 = 0
    · refine Ev.congr (fun k => if_pos c2) (evC ?_)
      rw [if_pos c2, w64 (by omega) (by omega)]
      rfl
    · refine Ev.congr (fun k => if_neg c2) (Ev.bind (get_ev hbd (by omega)) ?_)
      rw [if_neg c2]
      by_cases c3 : (getV (l.drop p.toNat)).2.2.2.2 = 0
      · refine Ev.congr (fun k => if_pos c3) (evC ?_)
        rw [if_pos c3, w64 (by omega) (by omega)]
        rfl
      · refine Ev.congr (fun k => if_neg c3) (evC ?_)
        rw [if_neg c3]
        rfl
  · refine Ev.congr (fun k => if_neg c1) (evC ?_)
    rw [if_neg c1]
    rfl
theorem record_Get_bad {l : List Int} (key : ByteArray) (p e : Int) (he : e ≠ 0) : Ev (fun k => record_Get.j1 k l key p e) (flatR (zR, 0, e)) :=
  Ev.step (fun k => by unfold record_Get.j1; rfl) (Ev.congr (fun k => if_neg he) (Ev.now _))
theorem record_Get_ev {l : List Int} (hb : Byt l) (hl : l.length < 4611686018427387904) : Ev (fun k => record_Get.f k l) (flatR (getR l)) := by
  have b := getT_bound l
  unfold record_Get.f getR
  refine Ev.bind (num_GetText_ev hb (by omega)) ?_
  by_cases c1 : (getT l).2.2 = 0
  · refine Ev.congr (fun k => if_pos c1) (Ev.bind (evC (key_May_eq _)) ?_)
    rw [if_pos c1, c1]
    cases hk : keyB (getT l).1 with
    | true =>
      rw [if_pos rfl]
      refine Ev.step (fun k => by unfold record_Get.j0; rfl) (Ev.congr (fun k => if_neg (by decide)) ?_)
      exact record_Get_j1 hb hl _ _ b.1 b.2.1
    | false =>
      rw [if_neg (by decide)]
      refine Ev.step (fun k => by unfold record_Get.j0; rfl) (Ev.congr (fun k => if_pos (by decide)) ?_)
      exact record_Get_bad _ _ 1 (by decide)
  · refine Ev.congr (fun k => if_neg c1) ?_
    rw [if_neg c1]
    refine Ev.step (fun k => by unfold record_Get.j0; rfl) (Ev.congr (fun k => if_neg (by decide)) ?_)
    exact record_Get_bad _ _ _ c1
theorem getN_val {x : Rc} (h : mayV x.f2.f0 x.f2.f1 x.f2.f2 = true) (rest : List Int) : (getN (putV x.f2.f0 x.f2.f1 x.f2.f2 ++ rest)).2.2 = 0 ∧ (getN (putV x.f2.f0 x.f2.f1 x.f2.f2 ++ rest)).1 = x.f2.f0 := by
  unfold putV
  rw [List.append_assoc, getN_put (mayV_i64 h)]
  exact ⟨rfl, rfl⟩
theorem mayR_sm {x : Rc} (h : mayR x = true) (hb : I64 x.f2.f1) : SmR x := by
  unfold mayR at h
  rw [Bool.and_eq_true] at h
  have h1 := of_decide_eq_true h.1
  have h2 := h.2
  by_cases g : x.f1 = true
  · rw [if_pos g] at h2
    have h3 := of_decide_eq_true h2
    refine ⟨by omega, by omega, ?_, hb⟩
    unfold I64
    omega
  · rw [if_neg g] at h2
    exact ⟨by omega, by have := mayV_size h2; omega, mayV_i64 h2, hb⟩
theorem getR_put {x : Rc} (h : mayR x = true) (hb : I64 x.f2.f1) (rest : List Int) : getR (putR x ++ rest) = (x, ((putR x).length : Int), 0) := by
  have hs := mayR_sm h hb
  unfold mayR at h
  rw [Bool.and_eq_true] at h
  obtain ⟨r, hr⟩ : ∃ r, r = (if x.f1 = true then putN 0 else putV x.f2.f0 x.f2.f1 x.f2.f2) := ⟨_, rfl⟩
  have e0 : putR x = putT x.f0 ++ r := by rw [hr]; rfl
  have e1 : getT (putR x ++ rest) = (x.f0, ((putT x.f0).length : Int), 0) := by rw [e0, List.append_assoc]; exact getT_put (by have := hs.1; omega) _
  have e2 : (putR x ++ rest).drop ((putT x.f0).length : Int).toNat = r ++ rest := by rw [e0, List.append_assoc, Int.toNat_natCast]; exact List.drop_left
  have e3 : (putR x).length = (putT x.f0).length + r.length := by rw [e0, List.length_append]
  unfold getR
  rw [e1]
  simp only [if_true]
  rw [if_pos h.1, e2, e3]
  unfold tailR
  by_cases g : x.f1 = true
  · rw [if_pos g] at hr
    have h3 := of_decide_eq_true (show decide (x.f2.f0 = 0 ∧ x.f2.f1 = 0 ∧ x.f2.f2.size = 0) = true by have := h.2; rw [if_pos g] at this; exact this)
    have e4 : getN (r ++ rest) = (0, ((putN 0).length : Int), 0) := by rw [hr]; exact getN_put (by unfold I64; omega) _
    rw [e4]
    simp only [if_true]
    refine Prod.ext (rc_ext.1 ⟨rfl, g.symm, h3.1.symm, h3.2.1.symm, (size0 h3.2.2).symm⟩) (Prod.ext ?_ rfl)
    rw [hr]
    show ((putT x.f0).length : Int) + ((putN 0).length : Int) = (((putT x.f0).length + (putN 0).length : Nat) : Int)
    omega
  · rw [if_neg g] at hr
    have h3 : mayV x.f2.f0 x.f2.f1 x.f2.f2 = true := by have := h.2; rw [if_neg g] at this; exact this
    have e4 := getN_val h3 rest
    have e5 : getV (r ++ rest) = (x.f2.f0, x.f2.f1, x.f2.f2, ((putV x.f2.f0 x.f2.f1 x.f2.f2).length : Int), 0) := by rw [hr]; exact getV_put h3 hb rest
    rw [← hr] at e4
    rw [if_pos e4.1, if_neg (by rw [e4.2]; rcases mayV_a h3 with e | e <;> omega), e5]
    simp only [if_true]
    refine Prod.ext (rc_ext.1 ⟨rfl, (Bool.eq_false_iff.2 g).symm, rfl, rfl, rfl⟩) (Prod.ext ?_ rfl)
    rw [hr]
    show ((putT x.f0).length : Int) + ((putV x.f2.f0 x.f2.f1 x.f2.f2).length : Int) = (((putT x.f0).length + (putV x.f2.f0 x.f2.f1 x.f2.f2).length : Nat) : Int)
    omega
end Go.Proofs.Ytbogcnfmdakdmaa.Q

/- batch.May, batch.Eq by hand: function values handed to slices.ContainsFunc, slices.EqualFunc. -/
-- GIVEN loess/batch.May 1 late
-- GIVEN loess/batch.Eq 1 late
namespace Go.Proofs.Ytbogcnfmdakdmaa.GL
open Go.RowKit Go.Proofs.YtbogcnfmdakdmaaW.PrintWords Go.Proofs.YtbogcnfmdakdmaaW.PrintLast Go.Proofs.YtbogcnfmdakdmaaW.PrintMore Go.Proofs.Ytbogcnfmdakdmaa.XBat Go.Proofs.Ytbogcnfmdakdmaa.Q
set_option linter.unusedVariables false
set_option linter.unusedSimpArgs false
def slotNat : Value → Nat
  | .int _ i => i.toNat
  | _ => 0
/-- The first record that may not be, from the i-th one on. -/
def findB : List Rc → Int → Int
  | [], _ => -1
  | x :: r, i => if mayR x = false then i else findB r (i + 1)
theorem findB_step (l : List Rc) (k : Nat) (h : k < l.length) : findB (l.drop k) k = if mayR (rd_T38 l k) = false then (k : Int) else findB (l.drop (k + 1)) ((k + 1 : Nat) : Int) := by
  rw [List.drop_eq_getElem_cons h]
  have e : rd_T38 l (k : Int) = l[k] := by simp [rd_T38, h]
  rw [e]
  rfl
theorem findB_all : ∀ (l : List Rc) (i : Int), 0 ≤ i → decide (0 ≤ findB l i) = !l.all mayR := by
  intro l
  induction l with
  | nil => intro i _; rfl
  | cons x r ih =>
    intro i hi
    unfold findB
    cases h : mayR x with
    | false => rw [if_pos rfl, decide_eq_true hi]; simp [h]
    | true => rw [if_neg (by decide), ih _ (by omega)]; simp [h]
set_option maxRecDepth 1000000 in
set_option maxHeartbeats 4000000 in
theorem may1 (x : Rc) (hx : x.f2.f2.size < 17592186044416) (W : World) :
    Calls Try.prog 23 #[.agg #[.string x.f0, .bool x.f1, .int .i64 x.f2.f0, .int .i64 x.f2.f1, .string x.f2.f2]] W fun e w' => e = .returned (.bool (!mayR x)) ∧ Below W.heap.size W w' := by
  have hu := Try.underlying38
  obtain ⟨k, hk⟩ := Ev.rounds (record_May_ev x hx)
  have A_ := Aside0.mk hk
  clear hk
  have HB := Aside0.mk (Below.refl W.heap.size W)
  go_enter Try.func23, Try.ntmps23
  go_wp2_with (first
    | ((with_reducible refine gate_dst (N := 1) rfl ?_); refine box_event ?hg (N := 1) ?hd (cs := #[.string x.f0, .bool x.f1, .int .i64 x.f2.f0, .int .i64 x.f2.f1, .string x.f2.f2]) (t := 38) ?hr ?_; (case hd => rfl); (case hg => rfl); (case hr => first | (go_simp; done) | (go_simp; rfl)); intro gb hg w7 hbox hb; have n0_ := Aside0.mk (hb : Below W.heap.size W w7); have n2_ := Aside0.mk hbox; clear HB; have HB := n0_; have BK := n2_; clear n0_ n2_; clear hbox hg; have hcz0 : w7.cell? ⟨gb, 0, none⟩ = some (.string x.f0) := (blk_cell BK.out 0).trans rfl; have hcz1 : w7.cell? ⟨gb, 1, none⟩ = some (.bool x.f1) := (blk_cell BK.out 1).trans rfl; have hcz2 : w7.cell? ⟨gb, 2, none⟩ = some (.int .i64 x.f2.f0) := (blk_cell BK.out 2).trans rfl; have hcz3 : w7.cell? ⟨gb, 3, none⟩ = some (.int .i64 x.f2.f1) := (blk_cell BK.out 3).trans rfl; have hcz4 : w7.cell? ⟨gb, 4, none⟩ = some (.string x.f2.f2) := (blk_cell BK.out 4).trans rfl)
    | (go_at_call 24; (with_reducible refine (record_May.calls k x.f0 x.f1 x.f2.f0 x.f2.f1 x.f2.f2 (mayR x) _ A_.out).mono ?_); rintro e w' ⟨rfl, hb'⟩; have n0_ := Aside0.mk (below_step HB.out hb'); clear HB hb'; have HB := n0_; clear n0_))
  go_ret
  exact ⟨rfl, HB.out⟩
set_option maxRecDepth 1000000 in
set_option maxHeartbeats 4000000 in
theorem idxB (A0 : Option Addr) (c0 : Nat) (l0 : List Rc) (w : World) (hr0 : Kd.C k38 w A0 l0.length l0) (hs : ∀ x ∈ l0, x.f2.f2.size < 17592186044416) :
    Calls Try.prog 39 #[.slice A0 l0.length c0, .func (.func 23) #[] #[]] w fun e w' => e = .returned (.int .i64 (findB l0 0)) ∧ Below w.heap.size w w' := by
  have hu := Try.underlying38
  have eg : ∀ args w, (callFunc 23 args).run Try.prog w = .ok (.enter 23 args) w := Go.Proofs.enters_of Try.func23 (by kernel_rfl) rfl
  have hbig := hr0.2.1
  have HR0 := Aside0.mk hr0
  have HS := Aside0.mk hs
  clear hr0 hs
  have HB := Aside0.mk (Below.refl w.heap.size w)
  go_enter Try.func39, Try.ntmps39
  go_wp2
  go_loopg [5, 8] l0.length (fun gg _ v8 wr => ∃ kk : Nat, kk ≤ l0.length ∧ l0.length - kk ≤ gg ∧ v8 = .int .i64 kk ∧ Aside0 (Below w.heap.size w wr) ∧ Aside0 (findB l0 0 = findB (l0.drop kk) kk))
  case atStart => exact ⟨0, Nat.zero_le _, by omega, rfl, HB, ⟨rfl⟩⟩
  case round =>
    clear HB
    obtain ⟨kk, hkk, hg, rfl, HB, HF⟩ := hrel
    by_cases hlt : kk < l0.length
    · have hltz : (kk : Int) < (l0.length : Int) := by omega
      have h0z : (0 : Int) ≤ (kk : Int) := by omega
      obtain ⟨ad, e, h0, h1, h2, h3, h4⟩ := at_T38 HR0.out (kk : Int) h0z hltz
      cases e
      replace h0 := (HB.out.cell (World.block_lt_of_cell? w _ h0)).trans h0
      replace h1 := (HB.out.cell (World.block_lt_of_cell? w _ h1)).trans h1
      replace h2 := (HB.out.cell (World.block_lt_of_cell? w _ h2)).trans h2
      replace h3 := (HB.out.cell (World.block_lt_of_cell? w _ h3)).trans h3
      replace h4 := (HB.out.cell (World.block_lt_of_cell? w _ h4)).trans h4
      simp only [Int.toNat_natCast] at h0 h1 h2 h3 h4
      have hmem : rd_T38 l0 (kk : Int) ∈ l0 := by
        have e : rd_T38 l0 (kk : Int) = l0[kk] := by simp [rd_T38, hlt]
        rw [e]; exact List.getElem_mem hlt
      have HCALL := Aside0.mk (may1 (rd_T38 l0 (kk : Int)) (HS.out _ hmem) wr)
      have HST := Aside0.mk (findB_step l0 kk hlt)
      clear hmem
      replace h0z := eq_true h0z
      cases hq : mayR (rd_T38 l0 (kk : Int)) with
      | false =>
        rw [hq] at HCALL HST
        clear hq
        go_wp2_with (go_at_fn 23; refine HCALL.out.mono ?_; rintro e w' ⟨rfl, hb'⟩)
        go_ret
        refine ⟨?_, below_step HB.out hb'⟩
        rw [HF.out, HST.out]
        first | rw [if_pos rfl] | rw [if_pos trivial]
        rfl
      | true =>
        rw [hq] at HCALL HST
        clear hq
        go_wp2_with (go_at_fn 23; refine HCALL.out.mono ?_; rintro e w' ⟨rfl, hb'⟩)
        go_roundg (l0.length - (kk + 1))
        case measure => omega
        case rel => exact ⟨kk + 1, by omega, by omega, by go_num, ⟨below_step HB.out hb'⟩, ⟨by rw [HF.out, HST.out, if_neg (by decide)]⟩⟩
    · have hltz : ¬ (kk : Int) < (l0.length : Int) := by omega
      have HE := Aside0.mk (show findB (l0.drop kk) kk = -1 by rw [List.drop_of_length_le (by omega)]; rfl)
      go_wp2
      go_ret
      exact ⟨by rw [HF.out, HE.out]; rfl, HB.out⟩
set_option maxRecDepth 1000000 in
set_option maxHeartbeats 4000000 in
theorem conB (A0 : Option Addr) (c0 : Nat) (l0 : List Rc) (w : World) (hr0 : Kd.C k38 w A0 l0.length l0) (hs : ∀ x ∈ l0, x.f2.f2.size < 17592186044416) :
    Calls Try.prog 22 #[.slice A0 l0.length c0, .func (.func 23) #[] #[]] w fun e w' => e = .returned (.bool (!l0.all mayR)) ∧ Below w.heap.size w w' := by
  have HR0 := Aside0.mk hr0
  have HS := Aside0.mk hs
  have HF := Aside0.mk (findB_all l0 0 (by decide))
  clear hr0 hs
  go_enter Try.func22, Try.ntmps22
  go_wp2_with (first
    | (go_at_call 39; refine (idxB A0 c0 l0 _ HR0.out HS.out).mono ?_; rintro e w' ⟨rfl, hb'⟩))
  go_ret
  exact ⟨by rw [← HF.out]; rfl, hb'⟩
def batch_May.f (l0 : List Rc) : Option Bool := if ∀ x ∈ l0, x.f2.f2.size < 17592186044416 then some (mayB l0) else none
set_option maxRecDepth 1000000 in
set_option maxHeartbeats 4000000 in
theorem batch_May.calls (A0 : Option Addr) (c0 : Nat) (l0 : List Rc) (r : Bool) (w : World) (hr0 : Kd.C k38 w A0 l0.length l0) (hc0 : l0.length ≤ c0) (h : batch_May.f l0 = some r) :
    Calls Try.prog 10 #[.slice A0 l0.length c0] w fun e w' => e = .returned (.bool r) ∧ Below w.heap.size w w' := by
  unfold batch_May.f at h
  split at h
  case isFalse => cases h
  rename_i hs
  have HR := Aside0.mk (Option.some.inj h)
  have HR0 := Aside0.mk hr0
  have HS := Aside0.mk hs
  clear hr0 hs h
  have HB := Aside0.mk (Below.refl w.heap.size w)
  by_cases hc : (l0.length : Int) ≤ 1000
  · have hcb : decide ((l0.length : Int) ≤ 1000) = true := decide_eq_true hc
    have hcb2 : decide (l0.length ≤ 1000) = true := decide_eq_true (by omega)
    have HM := Aside0.mk (show mayB l0 = l0.all mayR by unfold mayB; rw [hcb2, Bool.true_and])
    clear hc
    go_enter Try.func10, Try.ntmps10
    go_wp2_with (first
      | (go_at_call 22; refine (conB A0 c0 l0 _ HR0.out HS.out).mono ?_; rintro e w' ⟨rfl, hb'⟩; have n0_ := Aside0.mk (below_step HB.out hb'); clear HB hb'; have HB := n0_; clear n0_))
    go_ret
    exact ⟨by rw [← HR.out, HM.out]; simp, HB.out⟩
  · have hcb : decide ((l0.length : Int) ≤ 1000) = false := decide_eq_false hc
    have hcb2 : decide (l0.length ≤ 1000) = false := decide_eq_false (by omega)
    have HM := Aside0.mk (show mayB l0 = false by unfold mayB; rw [hcb2, Bool.false_and])
    clear hc
    go_enter Try.func10, Try.ntmps10
    go_wp2_with (first
      | (go_at_call 22; refine (conB A0 c0 l0 _ HR0.out HS.out).mono ?_; rintro e w' ⟨rfl, hb'⟩; have n0_ := Aside0.mk (below_step HB.out hb'); clear HB hb'; have HB := n0_; clear n0_))
    go_ret
    exact ⟨by rw [← HR.out, HM.out]; rfl, HB.out⟩
set_option maxRecDepth 1000000 in
set_option maxHeartbeats 8000000 in
theorem eqB (A0 : Option Addr) (c0 : Nat) (l0 : List Rc) (A1 : Option Addr) (c1 : Nat) (l1 : List Rc) (w : World) (hr0 : Kd.C k38 w A0 l0.length l0) (hr1 : Kd.C k38 w A1 l1.length l1) :
    Calls Try.prog 27 #[.slice A0 l0.length c0, .slice A1 l1.length c1, .func (.func 28) #[] #[]] w fun e w' => e = .returned (.bool (decide (l0 = l1))) ∧ Below w.heap.size w w' := by
  have hu := Try.underlying38
  have eg : ∀ args w, (callFunc 28 args).run Try.prog w = .ok (.enter 28 args) w := Go.Proofs.enters_of Try.func28 (by kernel_rfl) rfl
  have hbig := hr0.2.1
  have HR0 := Aside0.mk hr0
  have HR1 := Aside0.mk hr1
  clear hr0 hr1
  have HB := Aside0.mk (Below.refl w.heap.size w)
  by_cases hl : l0.length = l1.length
  · have hlb : ((l0.length : Int) != (l1.length : Int)) = false := by rw [hl]; simp
    have HL := Aside0.mk hl
    rw [← hl] at HR1 ⊢
    clear hl hlb
    go_enter Try.func27, Try.ntmps27
    go_wp2
    go_loopw [17] (fun v17 wr => ∃ kk : Nat, kk ≤ l0.length ∧ v17 = .int .i64 kk ∧ Aside0 (Below w.heap.size w wr) ∧ Aside0 (decide (l0 = l1) = decide (l0.drop kk = l1.drop kk))) (fun v _ => l0.length - slotNat v)
    case atStart => exact ⟨0, Nat.zero_le _, rfl, HB, ⟨by simp⟩⟩
    case round =>
      clear HB
      obtain ⟨kk, hkk, rfl, HB, HF⟩ := hrel
      by_cases hlt : kk < l0.length
      · have hltz : (kk : Int) < (l0.length : Int) := by omega
        have h0z : (0 : Int) ≤ (kk : Int) := by omega
        have hlt1 : kk < l1.length := by have := HL.out; omega
        obtain ⟨ad, e, h0, h1, h2, h3, h4⟩ := at_T38 HR0.out (kk : Int) h0z hltz
        cases e
        obtain ⟨ad1, e, hw0, hw1, hw2, hw3, hw4⟩ := at_T38 HR1.out (kk : Int) h0z hltz
        cases e
        have hd0 : l0.drop kk = rd_T38 l0 (kk : Int) :: l0.drop (kk + 1) := by
          rw [List.drop_eq_getElem_cons hlt]; congr 1; simp [rd_T38, hlt]
        have hd1 : l1.drop kk = rd_T38 l1 (kk : Int) :: l1.drop (kk + 1) := by
          rw [List.drop_eq_getElem_cons hlt1]; congr 1; simp [rd_T38, hlt1]
        obtain ⟨x, hx⟩ : ∃ x, x = rd_T38 l0 (kk : Int) := ⟨_, rfl⟩
        obtain ⟨y, hy⟩ : ∃ y, y = rd_T38 l1 (kk : Int) := ⟨_, rfl⟩
        rw [← hx] at h0 h1 h2 h3 h4 hd0
        rw [← hy] at hw0 hw1 hw2 hw3 hw4 hd1
        clear hx hy hlt1
        replace h0 := (HB.out.cell (World.block_lt_of_cell? w _ h0)).trans h0
        replace h1 := (HB.out.cell (World.block_lt_of_cell? w _ h1)).trans h1
        replace h2 := (HB.out.cell (World.block_lt_of_cell? w _ h2)).trans h2
        replace h3 := (HB.out.cell (World.block_lt_of_cell? w _ h3)).trans h3
        replace h4 := (HB.out.cell (World.block_lt_of_cell? w _ h4)).trans h4
        simp only [Int.toNat_natCast] at h0 h1 h2 h3 h4 hw0 hw1 hw2 hw3 hw4
        have HST := Aside0.mk (show decide (l0 = l1) = (decide (x = y) && decide (l0.drop (kk + 1) = l1.drop (kk + 1))) by
          rw [HF.out, hd0, hd1]; simp)
        have HE := Aside0.mk (record_Eq_eq x y)
        clear hd0 hd1 HF
        replace h0z := eq_true h0z
        by_cases hxy : x = y
        · have hq : decide (x = y) = true := decide_eq_true hxy
          rw [hq] at HE HST
          clear hq hxy
          go_wp2_with (first
            | ((with_reducible refine gate_dst (N := 8) rfl ?_); refine box_event ?hg (N := 8) ?hd (cs := #[.string (⟨#[]⟩ : ByteArray), .bool false, .int .i64 0, .int .i64 0, .string (⟨#[]⟩ : ByteArray)]) (t := 38) ?hr ?_; (case hd => rfl); (case hg => rfl); (case hr => first | (go_simp; done) | (go_simp; rfl)); intro g8 hg w7 hbox hb; have n1_ := Aside0.mk (below_step HB.out hb); have n2_ := Aside0.mk hbox; have n3_ := Aside0.mk (show w.heap.size ≤ g8 by rw [hg]; exact HB.out.size); clear HB; have HB := n1_; have BK8 := n2_; have GE8 := n3_; clear n1_ n2_ n3_ hb hbox hg; have hz0 : w7.cell? ⟨g8, 0, none⟩ = some (.string (⟨#[]⟩ : ByteArray)) := (blk_cell BK8.out 0).trans rfl; have hz1 : w7.cell? ⟨g8, 1, none⟩ = some (.bool false) := (blk_cell BK8.out 1).trans rfl; have hz2 : w7.cell? ⟨g8, 2, none⟩ = some (.int .i64 0) := (blk_cell BK8.out 2).trans rfl; have hz3 : w7.cell? ⟨g8, 3, none⟩ = some (.int .i64 0) := (blk_cell BK8.out 3).trans rfl; have hz4 : w7.cell? ⟨g8, 4, none⟩ = some (.string (⟨#[]⟩ : ByteArray)) := (blk_cell BK8.out 4).trans rfl; have hzf0 := blk_frozen BK8.out 0; have hzf1 := blk_frozen BK8.out 1; have hzf2 := blk_frozen BK8.out 2; have hzf3 := blk_frozen BK8.out 3; have hzf4 := blk_frozen BK8.out 4)
            | ((with_reducible refine gate_store (t := 38) (p := 8) rfl ?_); refine store_event (t := 38) (p := 8) (v := ?vo1) (w1 := (((((w7.setCell ⟨g8, 0, none⟩ (.string x.f0)).setCell ⟨g8, 1, none⟩ (.bool x.f1)).setCell ⟨g8, 2, none⟩ (.int .i64 x.f2.f0)).setCell ⟨g8, 3, none⟩ (.int .i64 x.f2.f1)).setCell ⟨g8, 4, none⟩ (.string x.f2.f2))) ?hg ?ho ?hn ?hr ?_; (case ho => rfl); (case hg => rfl); (case hn => rfl); (case hr => first | (go_simp; done) | (go_simp; rfl)); intro w7s hw; have n1_ : Aside0 (Below w.heap.size w w7s) := ⟨by rw [hw]; exact (below_set (below_set (below_set (below_set (below_set HB.out GE8.out) GE8.out) GE8.out) GE8.out) GE8.out)⟩; have n2_ : Aside0 (w7s.heap[g8]? = some (.cells #[.string x.f0, .bool x.f1, .int .i64 x.f2.f0, .int .i64 x.f2.f1, .string x.f2.f2] 38 (0, 0))) := ⟨by rw [hw]; refine blk_put (cs := #[.string x.f0, .bool x.f1, .int .i64 x.f2.f0, .int .i64 x.f2.f1, .string (⟨#[]⟩ : ByteArray)]) ?_ 4 _ rfl; refine blk_put (cs := #[.string x.f0, .bool x.f1, .int .i64 x.f2.f0, .int .i64 0, .string (⟨#[]⟩ : ByteArray)]) ?_ 3 _ rfl; refine blk_put (cs := #[.string x.f0, .bool x.f1, .int .i64 0, .int .i64 0, .string (⟨#[]⟩ : ByteArray)]) ?_ 2 _ rfl; refine blk_put (cs := #[.string x.f0, .bool false, .int .i64 0, .int .i64 0, .string (⟨#[]⟩ : ByteArray)]) ?_ 1 _ rfl; refine blk_put (cs := #[.string (⟨#[]⟩ : ByteArray), .bool false, .int .i64 0, .int .i64 0, .string (⟨#[]⟩ : ByteArray)]) ?_ 0 _ rfl; exact BK8.out⟩; clear HB BK8 hz0 hz1 hz2 hz3 hz4 hzf0 hzf1 hzf2 hzf3 hzf4 hw; have HB := n1_; have BK8 := n2_; clear n1_ n2_; have hy0 := (HB.out.cell (World.block_lt_of_cell? w _ hw0)).trans hw0; have hy1 := (HB.out.cell (World.block_lt_of_cell? w _ hw1)).trans hw1; have hy2 := (HB.out.cell (World.block_lt_of_cell? w _ hw2)).trans hw2; have hy3 := (HB.out.cell (World.block_lt_of_cell? w _ hw3)).trans hw3; have hy4 := (HB.out.cell (World.block_lt_of_cell? w _ hw4)).trans hw4)
            | ((with_reducible refine gate_dst (N := 9) rfl ?_); refine box_event ?hg (N := 9) ?hd (cs := #[.string (⟨#[]⟩ : ByteArray), .bool false, .int .i64 0, .int .i64 0, .string (⟨#[]⟩ : ByteArray)]) (t := 38) ?hr ?_; (case hd => rfl); (case hg => rfl); (case hr => first | (go_simp; done) | (go_simp; rfl)); intro g9 hg w8 hbox hb; have n1_ := Aside0.mk (below_step HB.out hb); have n2_ := Aside0.mk hbox; have n3_ := Aside0.mk (show w.heap.size ≤ g9 by rw [hg]; exact HB.out.size); have n4_ : g8 ≠ g9 := (by have h2 := blk_lt BK8.out; omega); have n5_ := Aside0.mk (blk_below BK8.out hb); clear BK8; have BK8 := n5_; have hne := n4_; clear n4_ n5_; clear hy0 hy1 hy2 hy3 hy4; clear HB; have HB := n1_; have BK9 := n2_; have GE9 := n3_; clear n1_ n2_ n3_ hb hbox hg; have hq0 : w8.cell? ⟨g9, 0, none⟩ = some (.string (⟨#[]⟩ : ByteArray)) := (blk_cell BK9.out 0).trans rfl; have hq1 : w8.cell? ⟨g9, 1, none⟩ = some (.bool false) := (blk_cell BK9.out 1).trans rfl; have hq2 : w8.cell? ⟨g9, 2, none⟩ = some (.int .i64 0) := (blk_cell BK9.out 2).trans rfl; have hq3 : w8.cell? ⟨g9, 3, none⟩ = some (.int .i64 0) := (blk_cell BK9.out 3).trans rfl; have hq4 : w8.cell? ⟨g9, 4, none⟩ = some (.string (⟨#[]⟩ : ByteArray)) := (blk_cell BK9.out 4).trans rfl; have hqf0 := blk_frozen BK9.out 0; have hqf1 := blk_frozen BK9.out 1; have hqf2 := blk_frozen BK9.out 2; have hqf3 := blk_frozen BK9.out 3; have hqf4 := blk_frozen BK9.out 4)
            | ((with_reducible refine gate_store (t := 38) (p := 9) rfl ?_); refine store_event (t := 38) (p := 9) (v := ?vo2) (w1 := (((((w8.setCell ⟨g9, 0, none⟩ (.string y.f0)).setCell ⟨g9, 1, none⟩ (.bool y.f1)).setCell ⟨g9, 2, none⟩ (.int .i64 y.f2.f0)).setCell ⟨g9, 3, none⟩ (.int .i64 y.f2.f1)).setCell ⟨g9, 4, none⟩ (.string y.f2.f2))) ?hg ?ho ?hn ?hr ?_; (case ho => rfl); (case hg => rfl); (case hn => rfl); (case hr => first | (go_simp; done) | (go_simp; rfl)); intro w9 hw; have n1_ : Aside0 (Below w.heap.size w w9) := ⟨by rw [hw]; exact (below_set (below_set (below_set (below_set (below_set HB.out GE9.out) GE9.out) GE9.out) GE9.out) GE9.out)⟩; have n2_ : Aside0 (w9.heap[g9]? = some (.cells #[.string y.f0, .bool y.f1, .int .i64 y.f2.f0, .int .i64 y.f2.f1, .string y.f2.f2] 38 (0, 0))) := ⟨by rw [hw]; refine blk_put (cs := #[.string y.f0, .bool y.f1, .int .i64 y.f2.f0, .int .i64 y.f2.f1, .string (⟨#[]⟩ : ByteArray)]) ?_ 4 _ rfl; refine blk_put (cs := #[.string y.f0, .bool y.f1, .int .i64 y.f2.f0, .int .i64 0, .string (⟨#[]⟩ : ByteArray)]) ?_ 3 _ rfl; refine blk_put (cs := #[.string y.f0, .bool y.f1, .int .i64 0, .int .i64 0, .string (⟨#[]⟩ : ByteArray)]) ?_ 2 _ rfl; refine blk_put (cs := #[.string y.f0, .bool false, .int .i64 0, .int .i64 0, .string (⟨#[]⟩ : ByteArray)]) ?_ 1 _ rfl; refine blk_put (cs := #[.string (⟨#[]⟩ : ByteArray), .bool false, .int .i64 0, .int .i64 0, .string (⟨#[]⟩ : ByteArray)]) ?_ 0 _ rfl; exact BK9.out⟩; have n3_ : Aside0 (w9.heap[g8]? = some (.cells #[.string x.f0, .bool x.f1, .int .i64 x.f2.f0, .int .i64 x.f2.f1, .string x.f2.f2] 38 (0, 0))) := ⟨by rw [hw]; exact (blk_far (blk_far (blk_far (blk_far (blk_far BK8.out hne _) hne _) hne _) hne _) hne _)⟩; clear HB BK8 BK9 hq0 hq1 hq2 hq3 hq4 hqf0 hqf1 hqf2 hqf3 hqf4 hw; have HB := n1_; have BK9 := n2_; have BK8 := n3_; clear n1_ n2_ n3_; have he0 : w9.cell? ⟨g8, 0, none⟩ = some (.string x.f0) := (blk_cell BK8.out 0).trans rfl; have he1 : w9.cell? ⟨g8, 1, none⟩ = some (.bool x.f1) := (blk_cell BK8.out 1).trans rfl; have he2 : w9.cell? ⟨g8, 2, none⟩ = some (.int .i64 x.f2.f0) := (blk_cell BK8.out 2).trans rfl; have he3 : w9.cell? ⟨g8, 3, none⟩ = some (.int .i64 x.f2.f1) := (blk_cell BK8.out 3).trans rfl; have he4 : w9.cell? ⟨g8, 4, none⟩ = some (.string x.f2.f2) := (blk_cell BK8.out 4).trans rfl; have hf0 : w9.cell? ⟨g9, 0, none⟩ = some (.string y.f0) := (blk_cell BK9.out 0).trans rfl; have hf1 : w9.cell? ⟨g9, 1, none⟩ = some (.bool y.f1) := (blk_cell BK9.out 1).trans rfl; have hf2 : w9.cell? ⟨g9, 2, none⟩ = some (.int .i64 y.f2.f0) := (blk_cell BK9.out 2).trans rfl; have hf3 : w9.cell? ⟨g9, 3, none⟩ = some (.int .i64 y.f2.f1) := (blk_cell BK9.out 3).trans rfl; have hf4 : w9.cell? ⟨g9, 4, none⟩ = some (.string y.f2.f2) := (blk_cell BK9.out 4).trans rfl)
            | (go_at_fn 28; (with_reducible refine (record_Eq.calls x.f0 x.f1 x.f2.f0 x.f2.f1 x.f2.f2 y.f0 y.f1 y.f2.f0 y.f2.f1 y.f2.f2 true _ HE.out).mono ?_); rintro e w' ⟨rfl, hb'⟩; have n1_ := Aside0.mk (below_step HB.out hb'); clear HB hb'; have HB := n1_; clear n1_))
          go_roundw
          case rel => exact ⟨kk + 1, by omega, by go_num, HB, ⟨by rw [HST.out, Bool.true_and]⟩⟩
          case measure => simp [slotNat]; omega
        · have hq : decide (x = y) = false := decide_eq_false hxy
          rw [hq] at HE HST
          clear hq hxy
          go_wp2_with (first
            | ((with_reducible refine gate_dst (N := 8) rfl ?_); refine box_event ?hg (N := 8) ?hd (cs := #[.string (⟨#[]⟩ : ByteArray), .bool false, .int .i64 0, .int .i64 0, .string (⟨#[]⟩ : ByteArray)]) (t := 38) ?hr ?_; (case hd => rfl); (case hg => rfl); (case hr => first | (go_simp; done) | (go_simp; rfl)); intro g8 hg w7 hbox hb; have n1_ := Aside0.mk (below_step HB.out hb); have n2_ := Aside0.mk hbox; have n3_ := Aside0.mk (show w.heap.size ≤ g8 by rw [hg]; exact HB.out.size); clear HB; have HB := n1_; have BK8 := n2_; have GE8 := n3_; clear n1_ n2_ n3_ hb hbox hg; have hz0 : w7.cell? ⟨g8, 0, none⟩ = some (.string (⟨#[]⟩ : ByteArray)) := (blk_cell BK8.out 0).trans rfl; have hz1 : w7.cell? ⟨g8, 1, none⟩ = some (.bool false) := (blk_cell BK8.out 1).trans rfl; have hz2 : w7.cell? ⟨g8, 2, none⟩ = some (.int .i64 0) := (blk_cell BK8.out 2).trans rfl; have hz3 : w7.cell? ⟨g8, 3, none⟩ = some (.int .i64 0) := (blk_cell BK8.out 3).trans rfl; have hz4 : w7.cell? ⟨g8, 4, none⟩ = some (.string (⟨#[]⟩ : ByteArray)) := (blk_cell BK8.out 4).trans rfl; have hzf0 := blk_frozen BK8.out 0; have hzf1 := blk_frozen BK8.out 1; have hzf2 := blk_frozen BK8.out 2; have hzf3 := blk_frozen BK8.out 3; have hzf4 := blk_frozen BK8.out 4)
            | ((with_reducible refine gate_store (t := 38) (p := 8) rfl ?_); refine store_event (t := 38) (p := 8) (v := ?vo3) (w1 := (((((w7.setCell ⟨g8, 0, none⟩ (.string x.f0)).setCell ⟨g8, 1, none⟩ (.bool x.f1)).setCell ⟨g8, 2, none⟩ (.int .i64 x.f2.f0)).setCell ⟨g8, 3, none⟩ (.int .i64 x.f2.f1)).setCell ⟨g8, 4, none⟩ (.string x.f2.f2))) ?hg ?ho ?hn ?hr ?_; (case ho => rfl); (case hg => rfl); (case hn => rfl); (case hr => first | (go_simp; done) | (go_simp; rfl)); intro w7s hw; have n1_ : Aside0 (Below w.heap.size w w7s) := ⟨by rw [hw]; exact (below_set (below_set (below_set (below_set (below_set HB.out GE8.out) GE8.out) GE8.out) GE8.out) GE8.out)⟩; have n2_ : Aside0 (w7s.heap[g8]? = some (.cells #[.string x.f0, .bool x.f1, .int .i64 x.f2.f0, .int .i64 x.f2.f1, .string x.f2.f2] 38 (0, 0))) := ⟨by rw [hw]; refine blk_put (cs := #[.string x.f0, .bool x.f1, .int .i64 x.f2.f0, .int .i64 x.f2.f1, .string (⟨#[]⟩ : ByteArray)]) ?_ 4 _ rfl; refine blk_put (cs := #[.string x.f0, .bool x.f1, .int .i64 x.f2.f0, .int .i64 0, .string (⟨#[]⟩ : ByteArray)]) ?_ 3 _ rfl; refine blk_put (cs := #[.string x.f0, .bool x.f1, .int .i64 0, .int .i64 0, .string (⟨#[]⟩ : ByteArray)]) ?_ 2 _ rfl; refine blk_put (cs := #[.string x.f0, .bool false, .int .i64 0, .int .i64 0, .string (⟨#[]⟩ : ByteArray)]) ?_ 1 _ rfl; refine blk_put (cs := #[.string (⟨#[]⟩ : ByteArray), .bool false, .int .i64 0, .int .i64 0, .string (⟨#[]⟩ : ByteArray)]) ?_ 0 _ rfl; exact BK8.out⟩; clear HB BK8 hz0 hz1 hz2 hz3 hz4 hzf0 hzf1 hzf2 hzf3 hzf4 hw; have HB := n1_; have BK8 := n2_; clear n1_ n2_; have hy0 := (HB.out.cell (World.block_lt_of_cell? w _ hw0)).trans hw0; have hy1 := (HB.out.cell (World.block_lt_of_cell? w _ hw1)).trans hw1; have hy2 := (HB.out.cell (World.block_lt_of_cell? w _ hw2)).trans hw2; have hy3 := (HB.out.cell (World.block_lt_of_cell? w _ hw3)).trans hw3; have hy4 := (HB.out.cell (World.block_lt_of_cell? w _ hw4)).trans hw4)
            | ((with_reducible refine gate_dst (N := 9) rfl ?_); refine box_event ?hg (N := 9) ?hd (cs := #[.string (⟨#[]⟩ : ByteArray), .bool false, .int .i64 0, .int .i64 0, .string (⟨#[]⟩ : ByteArray)]) (t := 38) ?hr ?_; (case hd => rfl); (case hg => rfl); (case hr => first | (go_simp; done) | (go_simp; rfl)); intro g9 hg w8 hbox hb; have n1_ := Aside0.mk (below_step HB.out hb); have n2_ := Aside0.mk hbox; have n3_ := Aside0.mk (show w.heap.size ≤ g9 by rw [hg]; exact HB.out.size); have n4_ : g8 ≠ g9 := (by have h2 := blk_lt BK8.out; omega); have n5_ := Aside0.mk (blk_below BK8.out hb); clear BK8; have BK8 := n5_; have hne := n4_; clear n4_ n5_; clear hy0 hy1 hy2 hy3 hy4; clear HB; have HB := n1_; have BK9 := n2_; have GE9 := n3_; clear n1_ n2_ n3_ hb hbox hg; have hq0 : w8.cell? ⟨g9, 0, none⟩ = some (.string (⟨#[]⟩ : ByteArray)) := (blk_cell BK9.out 0).trans rfl; have hq1 : w8.cell? ⟨g9, 1, none⟩ = some (.bool false) := (blk_cell BK9.out 1).trans rfl; have hq2 : w8.cell? ⟨g9, 2, none⟩ = some (.int .i64 0) := (blk_cell BK9.out 2).trans rfl; have hq3 : w8.cell? ⟨g9, 3, none⟩ = some (.int .i64 0) := (blk_cell BK9.out 3).trans rfl; have hq4 : w8.cell? ⟨g9, 4, none⟩ = some (.string (⟨#[]⟩ : ByteArray)) := (blk_cell BK9.out 4).trans rfl; have hqf0 := blk_frozen BK9.out 0; have hqf1 := blk_frozen BK9.out 1; have hqf2 := blk_frozen BK9.out 2; have hqf3 := blk_frozen BK9.out 3; have hqf4 := blk_frozen BK9.out 4)
            | ((with_reducible refine gate_store (t := 38) (p := 9) rfl ?_); refine store_event (t := 38) (p := 9) (v := ?vo4) (w1 := (((((w8.setCell ⟨g9, 0, none⟩ (.string y.f0)).setCell ⟨g9, 1, none⟩ (.bool y.f1)).setCell ⟨g9, 2, none⟩ (.int .i64 y.f2.f0)).setCell ⟨g9, 3, none⟩ (.int .i64 y.f2.f1)).setCell ⟨g9, 4, none⟩ (.string y.f2.f2))) ?hg ?ho ?hn ?hr ?_; (case ho => rfl); (case hg => rfl); (case hn => rfl); (case hr => first | (go_simp; done) | (go_simp; rfl)); intro w9 hw; have n1_ : Aside0 (Below w.heap.size w w9) := ⟨by rw [hw]; exact (below_set (below_set (below_set (below_set (below_set HB.out GE9.out) GE9.out) GE9.out) GE9.out) GE9.out)⟩; have n2_ : Aside0 (w9.heap[g9]? = some (.cells #[.string y.f0, .bool y.f1, .int .i64 y.f2.f0, .int .i64 y.f2.f1, .string y.f2.f2] 38 (0, 0))) := ⟨by rw [hw]; refine blk_put (cs := #[.string y.f0, .bool y.f1, .int .i64 y.f2.f0, .int .i64 y.f2.f1, .string (⟨#[]⟩ : ByteArray)]) ?_ 4 _ rfl; refine blk_put (cs := #[.string y.f0, .bool y.f1, .int .i64 y.f2.f0, .int .i64 0, .string (⟨#[]⟩ : ByteArray)]) ?_ 3 _ rfl; refine blk_put (cs := #[.string y.f0, .bool y.f1, .int .i64 0, .int .i64 0, .string (⟨#[]⟩ : ByteArray)]) ?_ 2 _ rfl; refine blk_put (cs := #[.string y.f0, .bool false, .int .i64 0, .int .i64 0, .string (⟨#[]⟩ : ByteArray)]) ?_ 1 _ rfl; refine blk_put (cs := #[.string (⟨#[]⟩ : ByteArray), .bool false, .int .i64 0, .int .i64 0, .string (⟨#[]⟩ : ByteArray)]) ?_ 0 _ rfl; exact BK9.out⟩; have n3_ : Aside0 (w9.heap[g8]? = some (.cells #[.string x.f0, .bool x.f1, .int .i64 x.f2.f0, .int .i64 x.f2.f1, .string x.f2.f2] 38 (0, 0))) := ⟨by rw [hw]; exact (blk_far (blk_far (blk_far (blk_far (blk_far BK8.out hne _) hne _) hne _) hne _) hne _)⟩; clear HB BK8 BK9 hq0 hq1 hq2 hq3 hq4 hqf0 hqf1 hqf2 hqf3 hqf4 hw; have HB := n1_; have BK9 := n2_; have BK8 := n3_; clear n1_ n2_ n3_; have he0 : w9.cell? ⟨g8, 0, none⟩ = some (.string x.f0) := (blk_cell BK8.out 0).trans rfl; have he1 : w9.cell? ⟨g8, 1, none⟩ = some (.bool x.f1) := (blk_cell BK8.out 1).trans rfl; have he2 : w9.cell? ⟨g8, 2, none⟩ = some (.int .i64 x.f2.f0) := (blk_cell BK8.out 2).trans rfl; have he3 : w9.cell? ⟨g8, 3, none⟩ = some (.int .i64 x.f2.f1) := (blk_cell BK8.out 3).trans rfl; have he4 : w9.cell? ⟨g8, 4, none⟩ = some (.string x.f2.f2) := (blk_cell BK8.out 4).trans rfl; have hf0 : w9.cell? ⟨g9, 0, none⟩ = some (.string y.f0) := (blk_cell BK9.out 0).trans rfl; have hf1 : w9.cell? ⟨g9, 1, none⟩ = some (.bool y.f1) := (blk_cell BK9.out 1).trans rfl; have hf2 : w9.cell? ⟨g9, 2, none⟩ = some (.int .i64 y.f2.f0) := (blk_cell BK9.out 2).trans rfl; have hf3 : w9.cell? ⟨g9, 3, none⟩ = some (.int .i64 y.f2.f1) := (blk_cell BK9.out 3).trans rfl; have hf4 : w9.cell? ⟨g9, 4, none⟩ = some (.string y.f2.f2) := (blk_cell BK9.out 4).trans rfl)
            | (go_at_fn 28; (with_reducible refine (record_Eq.calls x.f0 x.f1 x.f2.f0 x.f2.f1 x.f2.f2 y.f0 y.f1 y.f2.f0 y.f2.f1 y.f2.f2 false _ HE.out).mono ?_); rintro e w' ⟨rfl, hb'⟩; have n1_ := Aside0.mk (below_step HB.out hb'); clear HB hb'; have HB := n1_; clear n1_))
          go_ret
          exact ⟨by rw [HST.out]; rfl, HB.out⟩
      · have hltz : ¬ (kk : Int) < (l0.length : Int) := by omega
        have HE := Aside0.mk (show decide (l0.drop kk = l1.drop kk) = true by
          rw [List.drop_of_length_le (by omega), List.drop_of_length_le (by have := HL.out; omega)]; simp)
        go_wp2
        go_ret
        exact ⟨by rw [HF.out, HE.out]; rfl, HB.out⟩
  · have hlb : ((l0.length : Int) != (l1.length : Int)) = true := by simp; omega
    have HE := Aside0.mk (show decide (l0 = l1) = false from decide_eq_false (fun e => hl (by rw [e])))
    have hlc : ((l0.length : Int) == (l1.length : Int)) = false := by simp; omega
    clear hl
    go_enter Try.func27, Try.ntmps27
    go_wp2
    go_ret
    exact ⟨by rw [HE.out]; rfl, HB.out⟩
def batch_Eq.f (l0 : List Rc) (l1 : List Rc) : Option Bool := some (decide (l0 = l1))
set_option maxRecDepth 1000000 in
set_option maxHeartbeats 4000000 in
theorem batch_Eq.calls (A0 : Option Addr) (c0 : Nat) (l0 : List Rc) (A1 : Option Addr) (c1 : Nat) (l1 : List Rc) (r : Bool) (w : World) (hr0 : Kd.C k38 w A0 l0.length l0) (hc0 : l0.length ≤ c0) (hr1 : Kd.C k38 w A1 l1.length l1) (hc1 : l1.length ≤ c1) (h : batch_Eq.f l0 l1 = some r) :
    Calls Try.prog 13 #[.slice A0 l0.length c0, .slice A1 l1.length c1] w fun e w' => e = .returned (.bool r) ∧ Below w.heap.size w w' := by
  have HR := Aside0.mk (Option.some.inj h)
  have HR0 := Aside0.mk hr0
  have HR1 := Aside0.mk hr1
  clear hr0 hr1 h
  go_enter Try.func13, Try.ntmps13
  go_wp2_with (first
    | (go_at_call 27; refine (eqB A0 c0 l0 A1 c1 l1 _ HR0.out HR1.out).mono ?_; rintro e w' ⟨rfl, hb'⟩))
  go_ret
  exact ⟨by rw [← HR.out]; rfl, hb'⟩
end Go.Proofs.Ytbogcnfmdakdmaa.GL

/- The printed functions of the reference of package num tell what QNum says. -/
set_option linter.unusedVariables false
set_option linter.unusedSimpArgs false
namespace Go.Proofs.Ytbogcnfmdakdmaa.Q
open Go.RowKit Go.Proofs.YtbogcnfmdakdmaaW.PrintWords Go.Proofs.YtbogcnfmdakdmaaW.PrintMore Go.Proofs.Ytbogcnfmdakdmaa.XBat
theorem zig_bitsR {n : Int} (h : I64 n) : (if n < 0 then Go.bits .xor .u64 18446744073709551615 (IntKind.u64.wrap (IntKind.u64.wrap n * 2)) else IntKind.u64.wrap (IntKind.u64.wrap n * 2)) = (zig n : Int) := by
  unfold I64 at h
  unfold zig
  split
  · rw [u64_mod, u64_mod, not_u64 (by omega) (by omega)]
    omega
  · rw [u64_mod, u64_mod]
    omega
theorem ref_Put_l (u : Nat) : ∀ l : List Int, l.length + (putU u).length ≤ 140737488355328 → u < 18446744073709551616 → Ev (fun k => loessref1_Put.l0 k (u : Int) l) (l ++ putU u) := by
  induction u using Nat.strongRecOn with
  | _ u ih =>
    intro l hl hu
    by_cases h : u < 128
    · rw [putU_lt h] at hl ⊢
      refine Ev.step (f := fun _ => some (l ++ [(u : Int)])) (fun k => ?_) (Ev.now _)
      simp only [loessref1_Put.l0]
      simp only [List.length_cons, List.length_nil] at hl
      rw [if_neg (by omega), if_pos (by omega), show (u : Int) % 256 = u by omega]
    · rw [putU_ge h] at hl ⊢
      simp only [List.length_cons] at hl
      refine Ev.step (f := fun k => loessref1_Put.l0 k ((u / 128 : Nat) : Int) (l ++ [((u % 128 + 128 : Nat) : Int)])) (fun k => ?_) ?_
      · simp only [loessref1_Put.l0]
        rw [if_pos (by omega), if_pos (by omega), Int.tdiv_eq_ediv_of_nonneg (by omega), Int.tmod_eq_emod_of_nonneg (by omega), u64 (x := (u : Int) / 128) (by omega) (by omega), u64 (x := (u : Int) % 128 + 128) (by omega) (by omega)]
        rw [show ((u : Int) % 128 + 128) % 256 = ((u % 128 + 128 : Nat) : Int) by omega, show (u : Int) / 128 = ((u / 128 : Nat) : Int) by omega]
      · refine evEq (ih (u / 128) (by omega) (l ++ [((u % 128 + 128 : Nat) : Int)]) (by simp only [List.length_append, List.length_cons, List.length_nil]; omega) (by omega)) ?_
        rw [List.append_assoc]
        rfl
theorem ref_Put_ev {n : Int} (h : I64 n) : Ev (fun k => loessref1_Put.f k n) (putN n) := by
  have hz := zig_bitsR h
  have := putN_len h
  have h1 : Ev (fun k => loessref1_Put.j0 k (zig n : Int)) (putN n) := Ev.step (fun k => by simp only [loessref1_Put.j0]) (ref_Put_l (zig n) [] (by unfold putN at this; simp only [List.length_nil]; omega) (zig_lt h))
  refine Ev.congr (fun k => ?_) h1
  unfold loessref1_Put.f
  split
  · rename_i hn; rw [if_pos hn] at hz; rw [hz]
  · rename_i hn; rw [if_neg hn] at hz; rw [hz]
theorem ref_PutText_ev {s : ByteArray} (h : s.size ≤ 70368744177664) : Ev (fun k => loessref1_PutText.f k s) (putT s) := by
  have hi : I64 (s.size : Int) := by unfold I64; omega
  have := putN_len hi
  have h2 : Ev (fun _ => if (putN (s.size : Int)).length + s.size < 140737488355328 then some (putN (s.size : Int) ++ bytesOf s) else none) (putN (s.size : Int) ++ bytesOf s) :=
    evC (if_pos (by omega))
  exact Ev.bind (ref_Put_ev hi) h2
end Go.Proofs.Ytbogcnfmdakdmaa.Q

-- Written by wip/xprint.py, this session's wrapper round the kit's print program. Not trusted: Lean checks it.
namespace Go.Proofs.Ytbogcnfmdakdmaa.XBat
open Go.RowKit Go.Proofs.Ytbogcnfmdakdmaa.G Go.Proofs.YtbogcnfmdakdmaaW.PrintWords Go.Proofs.YtbogcnfmdakdmaaW.PrintLast Go.Proofs.YtbogcnfmdakdmaaW.PrintMore
attribute [local go_sem] max2_int min2_int max_two min_two max_three min_three max_four min_four   -- for this text's walks alone
set_option linter.unusedVariables false
set_option linter.unusedSimpArgs false

open Go.Proofs.Ytbogcnfmdakdmaa.GL
/-! ### batch_Encode: function 9 -/
def batch_Encode.l0 : Nat → List Int → List (S38) → Int → Int → Option (List Int)
  | 0, _, _, _, _ => none
  | k + 1, x3, x12, x13, x14 => if x14 < x13 then (if 0 ≤ x14 then (if x14 < (x12.length : Int) then ((record_Put.f k x3 ((rd_T38 x12 x14).f0) ((rd_T38 x12 x14).f1) ((rd_T38 x12 x14).f2.f0) ((rd_T38 x12 x14).f2.f1) ((rd_T38 x12 x14).f2.f2)).bind fun t147 => (batch_Encode.l0 k t147 x12 x13 (wrap64 (x14 + 1)))) else (none)) else (none)) else (some x3)
def batch_Encode.f (k : Nat) (l0 : List (S38)) : Option (List Int) := (batch_May.f l0).bind fun t141 => (if t141 = true then ((num_Put.f k ([] : List Int) (l0.length : Int)).bind fun t142 => (batch_Encode.l0 k t142 l0 (l0.length : Int) 0)) else (some ([] : List Int)))
theorem batch_Encode.mono_l : ∀ k, (∀ y0 y1 y2 y3, LeO (batch_Encode.l0 k y0 y1 y2 y3) (batch_Encode.l0 (k + 1) y0 y1 y2 y3))
  | 0 => fun _ _ _ _ r h => by simp [batch_Encode.l0] at h
  | k + 1 => by
    have ih0 := batch_Encode.mono_l k
    · intro y0 y1 y2 y3
      unfold batch_Encode.l0
      repeat' first
      | (with_reducible exact ih0 _ _ _ _)
      | (with_reducible exact num_Put.mono _ _ _)
      | (with_reducible exact record_Put.mono _ _ _ _ _ _ _)
      | (with_reducible exact LeO.refl _)
      | (with_reducible exact LeO.none _)
      | (with_reducible refine LeO.ite ?_ ?_)
      | (with_reducible refine LeO.bind ?_ (fun _ => ?_))
      | exact ih0 _ _ _ _
      | exact num_Put.mono _ _ _
      | exact record_Put.mono _ _ _ _ _ _ _
      | exact LeO.none _
      | refine LeO.ite ?_ ?_
      | refine LeO.bind ?_ (fun _ => ?_)
theorem batch_Encode.mono : ∀ a0 k, LeO (batch_Encode.f k a0) (batch_Encode.f (k + 1) a0) := by
  intro a0 k
  have ih0 := batch_Encode.mono_l k
  unfold batch_Encode.f
  repeat' first
      | (with_reducible exact ih0 _ _ _ _)
      | (with_reducible exact num_Put.mono _ _ _)
      | (with_reducible exact record_Put.mono _ _ _ _ _ _ _)
      | (with_reducible exact LeO.refl _)
      | (with_reducible exact LeO.none _)
      | (with_reducible refine LeO.ite ?_ ?_)
      | (with_reducible refine LeO.bind ?_ (fun _ => ?_))
      | exact ih0 _ _ _ _
      | exact num_Put.mono _ _ _
      | exact record_Put.mono _ _ _ _ _ _ _
      | exact LeO.none _
      | refine LeO.ite ?_ ?_
      | refine LeO.bind ?_ (fun _ => ?_)
set_option maxHeartbeats 8000000 in
set_option maxRecDepth 100000 in
theorem batch_Encode.calls (k : Nat) (A0 : Option Addr) (c0 : Nat) (l0 : List (S38)) (r : List Int) (w : World) (hr0 : Kd.C k38 w A0 l0.length l0) (hc0 : l0.length ≤ c0) (h : batch_Encode.f k l0 = some r) :
    Calls Try.prog 9 #[.slice A0 l0.length c0] w fun e w' => ∃ v0_ : Value, e = .returned (v0_) ∧ Kd.R (Kd.int .u8) 5 w' w.heap.size (fun _ => True) v0_ r ∧ Below w.heap.size w w' := by
  have hu38 := Try.underlying38
  have HR0 := Aside0.mk hr0
  have HC0 := Aside0.mk hc0
  clear hr0 hc0
  have HB := Aside0.mk (Below.refl w.heap.size w)
  have H : ((batch_May.f l0).bind fun t141 => (if t141 = true then ((num_Put.f k ([] : List Int) (l0.length : Int)).bind fun t142 => (batch_Encode.l0 k t142 l0 (l0.length : Int) 0)) else (some ([] : List Int)))) = some r := h
  clear h
  replace H := Option.bind_eq_some_iff.mp H
  obtain ⟨t141, A20, H⟩ := H
  replace H : (if t141 = true then ((num_Put.f k ([] : List Int) (l0.length : Int)).bind fun t142 => (batch_Encode.l0 k t142 l0 (l0.length : Int) 0)) else (some ([] : List Int))) = some r := H
  have A2 := Aside0.mk A20
  clear A20
  by_cases c3 : t141 = true
  · subst c3
    have H1 : ((num_Put.f k ([] : List Int) (l0.length : Int)).bind fun t142 => (batch_Encode.l0 k t142 l0 (l0.length : Int) 0)) = some r := by rw [if_pos rfl] at H; exact H
    clear H
    have H := H1
    clear H1
    replace H := Option.bind_eq_some_iff.mp H
    obtain ⟨t142, A40, H⟩ := H
    replace H : (batch_Encode.l0 k t142 l0 (l0.length : Int) 0) = some r := H
    have A4 := Aside0.mk A40
    clear A40
    have H' := Aside0.mk H
    clear H
    go_enter Try.func9, Try.ntmps9
    go_wp2_with (first | ((with_reducible refine gate_callee (f := 10) rfl ?_); refine goesL_ (some 7) rfl rfl Try.func10 (by kernel_rfl) rfl #[.slice A0 l0.length c0] rfl (by (try simp only [List.map_toArray, List.map_cons, List.map_nil]); first | done | rfl | (simp only [List.length_drop, List.length_take]; rfl)) ?_; (with_reducible refine (batch_May.calls _ _ l0 true _ ?side1 ?side2 A2.out).mono ?_); (case side1 => repeat (first | exact HR0.out | (with_reducible refine Kd.C_alloc ?_ _) | (with_reducible refine Kd.C_drewN ?_ _) | (with_reducible refine Kd.C_drew ?_))); (case side2 => exact HC0.out); rintro e w5 ⟨rfl, hb⟩; refine ⟨_, rfl, ?_⟩; have n0_ := Aside0.mk (below_step (by repeat (first | (with_reducible first | exact HB.out | apply below_alloc | apply pw_below_drewN | apply below_drew1) | exact HB.out)) hb); clear HB; have HB := n0_; clear n0_; (try clear hb); (try clear hb2); (try clear hk); (try clear hi)) | ((with_reducible refine gate_callee (f := 20) rfl ?_); refine goesL_ (some 11) rfl rfl Try.func20 (by kernel_rfl) rfl #[.slice none 0 0, .int .i64 (l0.length : Int)] rfl (by (try simp only [List.map_toArray, List.map_cons, List.map_nil]); first | done | rfl | (simp only [List.length_drop, List.length_take]; rfl)) ?_; (refine (num_Put.calls k (fun k_ => some k_ = (.slice none 0 0 : Value).ownBlock) (.slice none 0 0) ([] : List Int) (l0.length : Int) t142 w _ ?side1 ?side2 A4.out).mono ?_); (case side1 => repeat (first | (with_reducible first | exact HB.out | apply below_alloc | apply pw_below_drewN | apply below_drew1) | exact HB.out)); (case side2 => exact Kd.R_nil _ _ _ _ _); rintro e w6 ⟨v143, rfl, ho0, hb, hkp⟩; refine ⟨_, rfl, ?_⟩; have n0_ := Aside0.mk (Kd.R_mono (ok' := fun k_ => True) ho0 (fun k_ hk_ => trivial)); have n1_ := Aside0.mk (hb); clear HB; have HO144 := n0_; have HB := n1_; clear n0_ n1_; (try clear hb); (try clear hkp); (try clear ho0)))
    go_loopg [3, 14] k (fun kq v3 v14 w' => ∃ (x3_1 : List Int) (x14_1 : Int), v14 = .int .i64 x14_1 ∧ Aside0 (batch_Encode.l0 kq x3_1 l0 (l0.length : Int) x14_1 = some r) ∧ Aside0 (kq ≤ k) ∧ Aside0 (Kd.R (Kd.int .u8) 5 w' w.heap.size (fun _ => True) v3 x3_1) ∧ Aside0 (Below w.heap.size w w'))
    case atStart => exact ⟨(t142), (0), (by first | rfl | (simp; done) | (simp [*]; done)), H', ⟨Nat.le_refl _⟩, ⟨by (with_reducible repeat (first | apply Kd.R_alloc | apply Kd.R_drewN | apply Kd.R_drew)); exact HO144.out⟩, ⟨by repeat (first | (with_reducible first | exact HB.out | apply below_alloc | apply pw_below_drewN | apply below_drew1) | exact HB.out)⟩⟩
    case round =>
      clear H'
      try clear c1
      try clear c2
      try clear p2
      try clear c3
      obtain ⟨x3_1, x14_1, rfl, HA, HK1, HO_3, HB⟩ := hrel
      cases gk with
      | zero => exact absurd HA.out (by simp [batch_Encode.l0])
      | succ k1 =>
        have H := HA.out
        clear HA
        simp only [batch_Encode.l0] at H
        by_cases c7 : x14_1 < (l0.length : Int)
        · rw [if_pos c7] at H
          have c7b0 : decide (x14_1 < (l0.length : Int)) = true := decide_eq_true c7
          clear c7
          by_cases c8 : 0 ≤ x14_1
          · rw [if_pos c8] at H
            have c8b0 : decide (0 ≤ x14_1) = true := decide_eq_true c8
            clear c8
            by_cases c9 : x14_1 < (l0.length : Int)
            · rw [if_pos c9] at H
              have c9b0 : decide (x14_1 < (l0.length : Int)) = true := decide_eq_true c9
              clear c9
              replace H := Option.bind_eq_some_iff.mp H
              obtain ⟨t147, A100, H⟩ := H
              replace H : (batch_Encode.l0 k1 t147 l0 (l0.length : Int) (wrap64 (x14_1 + 1))) = some r := H
              have A10 := Aside0.mk A100
              clear A100
              have H' := Aside0.mk H
              clear H
              have p145 : 0 ≤ (x14_1 : Int) := of_decide_eq_true (by first | (with_reducible assumption) | assumption)
              have q145 : x14_1 < (l0.length : Int) := of_decide_eq_true (by first | (with_reducible assumption) | assumption)
              obtain ⟨ad145, e145, hx145_0, hx145_1, hx145_2, hx145_3, hx145_4⟩ := at_T38 HR0.out x14_1 p145 q145
              cases e145
              replace hx145_0 := (HB.out.cell (World.block_lt_of_cell? w _ hx145_0)).trans hx145_0
              replace hx145_1 := (HB.out.cell (World.block_lt_of_cell? w _ hx145_1)).trans hx145_1
              replace hx145_2 := (HB.out.cell (World.block_lt_of_cell? w _ hx145_2)).trans hx145_2
              replace hx145_3 := (HB.out.cell (World.block_lt_of_cell? w _ hx145_3)).trans hx145_3
              replace hx145_4 := (HB.out.cell (World.block_lt_of_cell? w _ hx145_4)).trans hx145_4
              replace p145 := eq_true p145
              replace q145 := eq_true q145
              go_wp2_with (first | ((with_reducible refine gate_dst (N := 5) rfl ?_); refine box_event ?hg (N := 5) ?hd (cs := #[.string (⟨#[]⟩ : ByteArray), .bool false, .int .i64 0, .int .i64 0, .string (⟨#[]⟩ : ByteArray)]) (t := 38) ?hr ?_; (case hd => rfl); (case hg => rfl); (case hr => first | (go_simp; done) | (go_simp; rfl)); intro gb146 hg w11 hbox hb; have n0_ := Aside0.mk (Kd.R_below (by (with_reducible repeat (first | apply Kd.R_alloc | apply Kd.R_drewN | apply Kd.R_drew)); exact HO_3.out) hb); have n1_ := Aside0.mk (below_step (by repeat (first | (with_reducible first | exact HB.out | apply below_alloc | apply pw_below_drewN | apply below_drew1) | exact HB.out)) hb); have n2_ := Aside0.mk (hbox); have n3_ := Aside0.mk ((by rw [hg]; exact (below_size (by repeat (first | (with_reducible first | exact HB.out | apply below_alloc | apply pw_below_drewN | apply below_drew1) | exact HB.out))) : w.heap.size ≤ gb146)); have n4_ := Aside0.mk ((by rw [hg]; exact (below_size (by repeat (first | (with_reducible first | exact HB.out | apply below_alloc | apply pw_below_drewN | apply below_drew1) | exact HB.out))) : w.heap.size ≤ gb146)); clear HO_3; clear HB; have HO_3 := n0_; have HB := n1_; have BK146 := n2_; have GW146 := n3_; have GE146 := n4_; clear n0_ n1_ n2_ n3_ n4_; clear hb hbox hg; have hcz12_0 : w11.cell? ⟨gb146, 0, none⟩ = some (.string (⟨#[]⟩ : ByteArray)) := (blk_cell BK146.out 0).trans rfl; have hcz12_1 : w11.cell? ⟨gb146, 1, none⟩ = some (.bool false) := (blk_cell BK146.out 1).trans rfl; have hcz12_2 : w11.cell? ⟨gb146, 2, none⟩ = some (.int .i64 0) := (blk_cell BK146.out 2).trans rfl; have hcz12_3 : w11.cell? ⟨gb146, 3, none⟩ = some (.int .i64 0) := (blk_cell BK146.out 3).trans rfl; have hcz12_4 : w11.cell? ⟨gb146, 4, none⟩ = some (.string (⟨#[]⟩ : ByteArray)) := (blk_cell BK146.out 4).trans rfl; have hfz12_0 := blk_frozen BK146.out 0; have hfz12_1 := blk_frozen BK146.out 1; have hfz12_2 := blk_frozen BK146.out 2; have hfz12_3 := blk_frozen BK146.out 3; have hfz12_4 := blk_frozen BK146.out 4) | ((with_reducible refine gate_store (t := 38) (p := 5) rfl ?_); refine store_event (t := 38) (p := 5) (v := ?vo_w13) (w1 := (((((w11.setCell ⟨gb146, 0, none⟩ (.string ((rd_T38 l0 x14_1).f0))).setCell ⟨gb146, 1, none⟩ (.bool ((rd_T38 l0 x14_1).f1))).setCell ⟨gb146, 2, none⟩ (.int .i64 ((rd_T38 l0 x14_1).f2.f0))).setCell ⟨gb146, 3, none⟩ (.int .i64 ((rd_T38 l0 x14_1).f2.f1))).setCell ⟨gb146, 4, none⟩ (.string ((rd_T38 l0 x14_1).f2.f2)))) ?hg ?ho ?hn ?hr ?_; (case ho => rfl); (case hg => rfl); (case hn => rfl); (case hr => first | (go_simp; done) | (go_simp; rfl)); intro w13 hw; have n0_ : Aside0 (Kd.R (Kd.int .u8) 5 w13 w.heap.size (fun _ => True) u3 x3_1) := ⟨(by rw [hw]; exact (by (with_reducible repeat (first | apply Kd.R_alloc | apply Kd.R_drewN | apply Kd.R_drew)); exact Kd.R_mono (Kd.R_far (p := ⟨gb146, 4, none⟩) (Kd.R_far (p := ⟨gb146, 3, none⟩) (Kd.R_far (p := ⟨gb146, 2, none⟩) (Kd.R_far (p := ⟨gb146, 1, none⟩) (Kd.R_far (p := ⟨gb146, 0, none⟩) (Kd.R_types HO_3.out BK146.out (by decide)) (fun _ hk => hk.2) (.string ((rd_T38 l0 x14_1).f0))) (fun _ hk => hk.2) (.bool ((rd_T38 l0 x14_1).f1))) (fun _ hk => hk.2) (.int .i64 ((rd_T38 l0 x14_1).f2.f0))) (fun _ hk => hk.2) (.int .i64 ((rd_T38 l0 x14_1).f2.f1))) (fun _ hk => hk.2) (.string ((rd_T38 l0 x14_1).f2.f2))) (fun _ hk => trivial)))⟩; have n1_ : Aside0 (w13.heap[gb146]? = some (.cells #[.string ((rd_T38 l0 x14_1).f0), .bool ((rd_T38 l0 x14_1).f1), .int .i64 ((rd_T38 l0 x14_1).f2.f0), .int .i64 ((rd_T38 l0 x14_1).f2.f1), .string ((rd_T38 l0 x14_1).f2.f2)] 38 (0, 0))) := ⟨(by rw [hw]; exact (by (with_reducible repeat (first | refine blk_drewN ?_ _ | refine blk_drew ?_ | refine blk_alloc ?_ _)); refine blk_put (cs := #[.string ((rd_T38 l0 x14_1).f0), .bool ((rd_T38 l0 x14_1).f1), .int .i64 ((rd_T38 l0 x14_1).f2.f0), .int .i64 ((rd_T38 l0 x14_1).f2.f1), .string (⟨#[]⟩ : ByteArray)]) ?_ 4 _ rfl; (with_reducible repeat (first | refine blk_drewN ?_ _ | refine blk_drew ?_ | refine blk_alloc ?_ _)); refine blk_put (cs := #[.string ((rd_T38 l0 x14_1).f0), .bool ((rd_T38 l0 x14_1).f1), .int .i64 ((rd_T38 l0 x14_1).f2.f0), .int .i64 0, .string (⟨#[]⟩ : ByteArray)]) ?_ 3 _ rfl; (with_reducible repeat (first | refine blk_drewN ?_ _ | refine blk_drew ?_ | refine blk_alloc ?_ _)); refine blk_put (cs := #[.string ((rd_T38 l0 x14_1).f0), .bool ((rd_T38 l0 x14_1).f1), .int .i64 0, .int .i64 0, .string (⟨#[]⟩ : ByteArray)]) ?_ 2 _ rfl; (with_reducible repeat (first | refine blk_drewN ?_ _ | refine blk_drew ?_ | refine blk_alloc ?_ _)); refine blk_put (cs := #[.string ((rd_T38 l0 x14_1).f0), .bool false, .int .i64 0, .int .i64 0, .string (⟨#[]⟩ : ByteArray)]) ?_ 1 _ rfl; (with_reducible repeat (first | refine blk_drewN ?_ _ | refine blk_drew ?_ | refine blk_alloc ?_ _)); refine blk_put (cs := #[.string (⟨#[]⟩ : ByteArray), .bool false, .int .i64 0, .int .i64 0, .string (⟨#[]⟩ : ByteArray)]) ?_ 0 _ rfl; (with_reducible repeat (first | refine blk_drewN ?_ _ | refine blk_drew ?_ | refine blk_alloc ?_ _)); exact BK146.out))⟩; have n2_ : Aside0 (Below w.heap.size w w13) := ⟨(by rw [hw]; exact (by repeat (first | (with_reducible first | exact HB.out | apply below_alloc | apply pw_below_drewN | apply below_drew1 | refine below_set ?_ GE146.out) | exact HB.out)))⟩; clear hw; clear HO_3; clear BK146; clear HB; have HO_3 := n0_; have BK146 := n1_; have HB := n2_; clear n0_ n1_ n2_; have hcz14_0 : w13.cell? ⟨gb146, 0, none⟩ = some (.string ((rd_T38 l0 x14_1).f0)) := (blk_cell BK146.out 0).trans rfl; have hcz14_1 : w13.cell? ⟨gb146, 1, none⟩ = some (.bool ((rd_T38 l0 x14_1).f1)) := (blk_cell BK146.out 1).trans rfl; have hcz14_2 : w13.cell? ⟨gb146, 2, none⟩ = some (.int .i64 ((rd_T38 l0 x14_1).f2.f0)) := (blk_cell BK146.out 2).trans rfl; have hcz14_3 : w13.cell? ⟨gb146, 3, none⟩ = some (.int .i64 ((rd_T38 l0 x14_1).f2.f1)) := (blk_cell BK146.out 3).trans rfl; have hcz14_4 : w13.cell? ⟨gb146, 4, none⟩ = some (.string ((rd_T38 l0 x14_1).f2.f2)) := (blk_cell BK146.out 4).trans rfl; have hfz14_0 := blk_frozen BK146.out 0; have hfz14_1 := blk_frozen BK146.out 1; have hfz14_2 := blk_frozen BK146.out 2; have hfz14_3 := blk_frozen BK146.out 3; have hfz14_4 := blk_frozen BK146.out 4; obtain ⟨Ao15, co15, eo15⟩ := Kd.R_slice HO_3.out; subst eo15) | ((with_reducible refine gate_callee (f := 21) rfl ?_); refine goesL_ (some 20) rfl rfl Try.func21 (by kernel_rfl) rfl #[.slice Ao15 x3_1.length co15, .agg #[.string ((rd_T38 l0 x14_1).f0), .bool ((rd_T38 l0 x14_1).f1), .int .i64 ((rd_T38 l0 x14_1).f2.f0), .int .i64 ((rd_T38 l0 x14_1).f2.f1), .string ((rd_T38 l0 x14_1).f2.f2)]] rfl (by (try simp only [List.map_toArray, List.map_cons, List.map_nil]); first | done | rfl | (simp only [List.length_drop, List.length_take]; rfl)) ?_; (with_reducible refine (record_Put.calls k1 (fun k_ => some k_ = (.slice Ao15 x3_1.length co15 : Value).ownBlock) (.slice Ao15 x3_1.length co15) x3_1 ((rd_T38 l0 x14_1).f0) ((rd_T38 l0 x14_1).f1) ((rd_T38 l0 x14_1).f2.f0) ((rd_T38 l0 x14_1).f2.f1) ((rd_T38 l0 x14_1).f2.f2) t147 w _ ?side1 ?side2 A10.out).mono ?_); (case side1 => repeat (first | (with_reducible first | exact HB.out | apply below_alloc | apply pw_below_drewN | apply below_drew1 | refine below_set ?_ GE146.out) | exact HB.out)); (case side2 => exact Kd.R_tight rfl HO_3.out); rintro e w16 ⟨v148, rfl, ho0, hb, hkp⟩; refine ⟨_, rfl, ?_⟩; have n0_ := Aside0.mk (blk_kept (by (with_reducible repeat (first | refine blk_drewN ?_ _ | refine blk_drew ?_ | refine blk_alloc ?_ _)); exact BK146.out) hkp (fun hs_ => (fun e_ => (Kd.R_ne HO_3.out BK146.out (by decide)) e_) hs_)); have n1_ := Aside0.mk (Kd.R_mono (ok' := fun k_ => True) ho0 (fun k_ hk_ => trivial)); have n2_ := Aside0.mk (hb); clear BK146; clear HB; clear HO_3; have BK146 := n0_; have HO149 := n1_; have HB := n2_; clear n0_ n1_ n2_; (try clear hb); (try clear hkp); (try clear ho0)))
              go_roundg k1
              case measure => have := HK1.out; omega
              case rel => exact ⟨(t147), (wrap64 (x14_1 + 1)), (by first | rfl | (simp; done) | (simp [*]; done)), H', ⟨by have := HK1.out; omega⟩, ⟨by (with_reducible repeat (first | apply Kd.R_alloc | apply Kd.R_drewN | apply Kd.R_drew)); exact HO149.out⟩, ⟨by repeat (first | (with_reducible first | exact HB.out | apply below_alloc | apply pw_below_drewN | apply below_drew1 | refine below_set ?_ GE146.out) | exact HB.out)⟩⟩
            · rw [if_neg c9] at H
              exact absurd H (by simp)
          · rw [if_neg c8] at H
            exact absurd H (by simp)
        · rw [if_neg c7] at H
          have c7b0 : decide (x14_1 < (l0.length : Int)) = false := decide_eq_false c7
          clear c7
          obtain rfl := Option.some.inj H
          go_wp2
          go_ret
          exact ⟨_, by first | rfl | (simp [errW_none, errW_some] <;> rfl) | (simp [*, errW_none, errW_some] <;> rfl), by (with_reducible repeat (first | apply Kd.R_alloc | apply Kd.R_drewN | apply Kd.R_drew)); exact HO_3.out, by repeat (first | (with_reducible first | exact HB.out | apply below_alloc | apply pw_below_drewN | apply below_drew1) | exact HB.out)⟩
  · replace c3 := Bool.eq_false_iff.mpr c3
    subst c3
    have H1 : (some ([] : List Int)) = some r := by rw [if_neg (show ¬ (false = true) by decide)] at H; exact H
    clear H
    have H := H1
    clear H1
    obtain rfl := Option.some.inj H
    go_enter Try.func9, Try.ntmps9
    go_wp2_with (first | ((with_reducible refine gate_callee (f := 10) rfl ?_); refine goesL_ (some 7) rfl rfl Try.func10 (by kernel_rfl) rfl #[.slice A0 l0.length c0] rfl (by (try simp only [List.map_toArray, List.map_cons, List.map_nil]); first | done | rfl | (simp only [List.length_drop, List.length_take]; rfl)) ?_; (with_reducible refine (batch_May.calls _ _ l0 false _ ?side1 ?side2 A2.out).mono ?_); (case side1 => repeat (first | exact HR0.out | (with_reducible refine Kd.C_alloc ?_ _) | (with_reducible refine Kd.C_drewN ?_ _) | (with_reducible refine Kd.C_drew ?_))); (case side2 => exact HC0.out); rintro e w17 ⟨rfl, hb⟩; refine ⟨_, rfl, ?_⟩; have n0_ := Aside0.mk (below_step (by repeat (first | (with_reducible first | exact HB.out | apply below_alloc | apply pw_below_drewN | apply below_drew1) | exact HB.out)) hb); clear HB; have HB := n0_; clear n0_; (try clear hb); (try clear hb2); (try clear hk); (try clear hi)))
    go_ret
    exact ⟨_, by first | rfl | (simp [errW_none, errW_some] <;> rfl) | (simp [*, errW_none, errW_some] <;> rfl), by first | exact Kd.R_nil _ _ _ _ _ | exact Kd.N_nil _ _ _ _ _ | exact Kd.V_nil _ _ _ _ _ | exact Kd.Q_nil _ _ _ _ _ | exact Kd.S_nil _ _ _ _ _, by repeat (first | (with_reducible first | exact HB.out | apply below_alloc | apply pw_below_drewN | apply below_drew1) | exact HB.out)⟩

end Go.Proofs.Ytbogcnfmdakdmaa.XBat

-- Written by wip/xprint.py, this session's wrapper round the kit's print program. Not trusted: Lean checks it.
namespace Go.Proofs.Ytbogcnfmdakdmaa.XBat
open Go.RowKit Go.Proofs.Ytbogcnfmdakdmaa.G Go.Proofs.YtbogcnfmdakdmaaW.PrintWords Go.Proofs.YtbogcnfmdakdmaaW.PrintLast Go.Proofs.YtbogcnfmdakdmaaW.PrintMore
attribute [local go_sem] max2_int min2_int max_two min_two max_three min_three max_four min_four   -- for this text's walks alone
set_option linter.unusedVariables false
set_option linter.unusedSimpArgs false

/-! ### bytes_Equal: function 32 -/
def bytes_Equal.f (l0 : List Int) (l1 : List Int) : Option (Bool) := some ((strOfNums l0).toList == (strOfNums l1).toList)
set_option maxHeartbeats 8000000 in
set_option maxRecDepth 100000 in
theorem bytes_Equal.calls (A0 : Option Addr) (c0 : Nat) (l0 : List Int) (A1 : Option Addr) (c1 : Nat) (l1 : List Int) (r : Bool) (w : World) (hr0 : Kd.C (Kd.int .u8) w A0 l0.length l0) (hc0 : l0.length ≤ c0) (hr1 : Kd.C (Kd.int .u8) w A1 l1.length l1) (hc1 : l1.length ≤ c1) (h : bytes_Equal.f l0 l1 = some r) :
    Calls Try.prog 32 #[.slice A0 l0.length c0, .slice A1 l1.length c1] w fun e w' => e = .returned (.bool r) ∧ Drawn0 w w' := by
  have HR0 := Aside0.mk hr0
  have HC0 := Aside0.mk hc0
  clear hr0 hc0
  have HR1 := Aside0.mk hr1
  have HC1 := Aside0.mk hc1
  clear hr1 hc1
  have H : (some ((strOfNums l0).toList == (strOfNums l1).toList)) = some r := h
  clear h
  obtain rfl := Option.some.inj H
  have hcv3 := Kd.C_string (P := Try.prog) (A := A0) (c := c0) Try.underlying25 Try.underlying5 Try.underlying9 HR0.out
  have hcvz3 := fun m_ : Nat => Kd.C_string (P := Try.prog) (A := A0) (c := c0) Try.underlying25 Try.underlying5 Try.underlying9 (Kd.C_drewN HR0.out m_)
  have hcv4 := Kd.C_string (P := Try.prog) (A := A1) (c := c1) Try.underlying25 Try.underlying5 Try.underlying9 HR1.out
  have hcvz4 := fun m_ : Nat => Kd.C_string (P := Try.prog) (A := A1) (c := c1) Try.underlying25 Try.underlying5 Try.underlying9 (Kd.C_drewN HR1.out m_)
  go_enter Try.func32, Try.ntmps32
  go_wp2
  go_ret
  exact ⟨by first | rfl | (simp; done) | (simp [*]; done), by repeat (first | exact Drawn0.refl _ | apply Drawn0.step)⟩

end Go.Proofs.Ytbogcnfmdakdmaa.XBat

-- Written by wip/xprint.py, this session's wrapper round the kit's print program. Not trusted: Lean checks it.
namespace Go.Proofs.Ytbogcnfmdakdmaa.XBat
open Go.RowKit Go.Proofs.Ytbogcnfmdakdmaa.G Go.Proofs.YtbogcnfmdakdmaaW.PrintWords Go.Proofs.YtbogcnfmdakdmaaW.PrintLast Go.Proofs.YtbogcnfmdakdmaaW.PrintMore
attribute [local go_sem] max2_int min2_int max_two min_two max_three min_three max_four min_four   -- for this text's walks alone
set_option linter.unusedVariables false
set_option linter.unusedSimpArgs false

/-! ### batch_Decode: function 15 -/
mutual
def batch_Decode.j0 : Nat → List Int → Int → Int → Bool → Option ((List (S38)) × Int)
  | 0, _, _, _, _ => none
  | k + 1, x0, x4, x5, x26 => if x26 = true then (some (([] : List (S38)), 8)) else (batch_Decode.l0 k x0 x5 ([] : List (S38)) x4 0)
def batch_Decode.l0 : Nat → List Int → Int → List (S38) → Int → Int → Option ((List (S38)) × Int)
  | 0, _, _, _, _, _ => none
  | k + 1, x0, x5, x7, x27, x28 => if x28 < x27 then (if 0 ≤ x5 then (if x5 ≤ (x0.length : Int) then ((record_Get.f k (x0.drop (x5 : Int).toNat)).bind fun bt210 => (if bt210.2.2.2.2.2.2 = 0 then (if x7.length < 2513169434916 then (batch_Decode.l0 k x0 (wrap64 (x5 + bt210.2.2.2.2.2.1)) (x7 ++ [(⟨bt210.1, bt210.2.1, (⟨bt210.2.2.1, bt210.2.2.2.1, bt210.2.2.2.2.1⟩ : S36)⟩ : S38)]) x27 (wrap64 (x28 + 1))) else (none)) else (some (([] : List (S38)), 8)))) else (none)) else (none)) else ((batch_Encode.f k x7).bind fun t221 => ((bytes_Equal.f t221 x0).bind fun t224 => (if t224 = true then (some (x7, 0)) else (some (([] : List (S38)), 8)))))
end
def batch_Decode.f (k : Nat) (l0 : List Int) : Option ((List (S38)) × Int) := (num_Get.f k l0).bind fun bt203 => (if bt203.2.2 = 0 then (if bt203.1 < 0 then (batch_Decode.j0 k l0 bt203.1 bt203.2.1 true) else (batch_Decode.j0 k l0 bt203.1 bt203.2.1 (decide (bt203.1 > 1000)))) else (batch_Decode.j0 k l0 bt203.1 bt203.2.1 true))
theorem batch_Decode.mono_l : ∀ k, (∀ y0 y1 y2 y3, LeO (batch_Decode.j0 k y0 y1 y2 y3) (batch_Decode.j0 (k + 1) y0 y1 y2 y3)) ∧ (∀ y0 y1 y2 y3 y4, LeO (batch_Decode.l0 k y0 y1 y2 y3 y4) (batch_Decode.l0 (k + 1) y0 y1 y2 y3 y4))
  | 0 => ⟨fun _ _ _ _ r h => by simp [batch_Decode.j0] at h, fun _ _ _ _ _ r h => by simp [batch_Decode.l0] at h⟩
  | k + 1 => by
    obtain ⟨ih0, ih1⟩ := batch_Decode.mono_l k
    refine ⟨?_, ?_⟩
    · intro y0 y1 y2 y3
      unfold batch_Decode.j0
      repeat' first
      | (with_reducible exact ih0 _ _ _ _)
      | (with_reducible exact ih1 _ _ _ _ _)
      | (with_reducible exact batch_Encode.mono _ _)
      | (with_reducible exact num_Get.mono _ _)
      | (with_reducible exact record_Get.mono _ _)
      | (with_reducible exact LeO.refl _)
      | (with_reducible exact LeO.none _)
      | (with_reducible refine LeO.ite ?_ ?_)
      | (with_reducible refine LeO.bind ?_ (fun _ => ?_))
      | exact ih0 _ _ _ _
      | exact ih1 _ _ _ _ _
      | exact batch_Encode.mono _ _
      | exact num_Get.mono _ _
      | exact record_Get.mono _ _
      | exact LeO.none _
      | refine LeO.ite ?_ ?_
      | refine LeO.bind ?_ (fun _ => ?_)
    · intro y0 y1 y2 y3 y4
      unfold batch_Decode.l0
      repeat' first
      | (with_reducible exact ih0 _ _ _ _)
      | (with_reducible exact ih1 _ _ _ _ _)
      | (with_reducible exact batch_Encode.mono _ _)
      | (with_reducible exact num_Get.mono _ _)
      | (with_reducible exact record_Get.mono _ _)
      | (with_reducible exact LeO.refl _)
      | (with_reducible exact LeO.none _)
      | (with_reducible refine LeO.ite ?_ ?_)
      | (with_reducible refine LeO.bind ?_ (fun _ => ?_))
      | exact ih0 _ _ _ _
      | exact ih1 _ _ _ _ _
      | exact batch_Encode.mono _ _
      | exact num_Get.mono _ _
      | exact record_Get.mono _ _
      | exact LeO.none _
      | refine LeO.ite ?_ ?_
      | refine LeO.bind ?_ (fun _ => ?_)
theorem batch_Decode.mono : ∀ a0 k, LeO (batch_Decode.f k a0) (batch_Decode.f (k + 1) a0) := by
  intro a0 k
  obtain ⟨ih0, ih1⟩ := batch_Decode.mono_l k
  unfold batch_Decode.f
  repeat' first
      | (with_reducible exact ih0 _ _ _ _)
      | (with_reducible exact ih1 _ _ _ _ _)
      | (with_reducible exact batch_Encode.mono _ _)
      | (with_reducible exact num_Get.mono _ _)
      | (with_reducible exact record_Get.mono _ _)
      | (with_reducible exact LeO.refl _)
      | (with_reducible exact LeO.none _)
      | (with_reducible refine LeO.ite ?_ ?_)
      | (with_reducible refine LeO.bind ?_ (fun _ => ?_))
      | exact ih0 _ _ _ _
      | exact ih1 _ _ _ _ _
      | exact batch_Encode.mono _ _
      | exact num_Get.mono _ _
      | exact record_Get.mono _ _
      | exact LeO.none _
      | refine LeO.ite ?_ ?_
      | refine LeO.bind ?_ (fun _ => ?_)
set_option maxHeartbeats 8000000 in
set_option maxRecDepth 100000 in
theorem batch_Decode.calls (k : Nat) (A0 : Option Addr) (c0 : Nat) (l0 : List Int) (r1 : List (S38)) (r2 : Int) (w : World) (hr0 : Kd.C (Kd.int .u8) w A0 l0.length l0) (hc0 : l0.length ≤ c0) (h : batch_Decode.f k l0 = some (r1, r2)) :
    Calls Try.prog 15 #[.slice A0 l0.length c0] w fun e w' => ∃ v0_ : Value, e = .returned (.tuple #[v0_, .int .i64 r2]) ∧ Kd.R k38 38 w' w.heap.size (fun _ => True) v0_ r1 ∧ Below w.heap.size w w' := by
  have hu38 := Try.underlying38
  have HR0 := Aside0.mk hr0
  have HC0 := Aside0.mk hc0
  clear hr0 hc0
  have HB := Aside0.mk (Below.refl w.heap.size w)
  have H : ((num_Get.f k l0).bind fun bt203 => (if bt203.2.2 = 0 then (if bt203.1 < 0 then (batch_Decode.j0 k l0 bt203.1 bt203.2.1 true) else (batch_Decode.j0 k l0 bt203.1 bt203.2.1 (decide (bt203.1 > 1000)))) else (batch_Decode.j0 k l0 bt203.1 bt203.2.1 true))) = some (r1, r2) := h
  clear h
  replace H := Option.bind_eq_some_iff.mp H
  obtain ⟨⟨t203, t204, t205⟩, A20, H⟩ := H
  replace H : (if t205 = 0 then (if t203 < 0 then (batch_Decode.j0 k l0 t203 t204 true) else (batch_Decode.j0 k l0 t203 t204 (decide (t203 > 1000)))) else (batch_Decode.j0 k l0 t203 t204 true)) = some (r1, r2) := H
  have A2 := Aside0.mk A20
  clear A20
  have HC3 := Aside0.mk H
  clear H
  go_enter Try.func15, Try.ntmps15
  go_upto_region 2 with (first | ((with_reducible refine gate_callee (f := 30) rfl ?_); refine goesL_ (some 13) rfl rfl Try.func30 (by kernel_rfl) rfl #[.slice A0 l0.length c0] rfl (by (try simp only [List.map_toArray, List.map_cons, List.map_nil]); first | done | rfl | (simp only [List.length_drop, List.length_take]; rfl)) ?_; (with_reducible refine (num_Get.calls k _ _ l0 t203 t204 t205 _ ?side1 ?side2 A2.out).mono ?_); (case side1 => repeat (first | exact HR0.out | (with_reducible refine Kd.C_alloc ?_ _) | (with_reducible refine Kd.C_drewN ?_ _) | (with_reducible refine Kd.C_drew ?_))); (case side2 => exact HC0.out); rintro e w' ⟨rfl, ⟨nd, rfl⟩⟩; refine ⟨_, rfl, ?_⟩))
  (try simp only [Act.put, List.setIfInBounds_toArray, List.set_cons_zero, List.set_cons_succ])
  go_cut [26] (fun v26 wc => ∃ (kq : Nat) (x26_2 : Bool), v26 = .bool x26_2 ∧ Aside0 (batch_Decode.j0 kq l0 t203 t204 x26_2 = some (r1, r2)) ∧ Aside0 (kq ≤ k) ∧ Aside0 (Below w.heap.size w wc))
  case first =>
    have H := HC3.out
    clear HC3
    by_cases c4 : t205 = 0
    · rw [if_pos c4] at H
      have c4b0 : (t205 == 0) = true := beq_iff_eq.mpr c4
      have c4b1 : (t205 != 0) = false := bne_eq_false_iff_eq.mpr c4
      clear c4
      (first | rw [c4b0] | (simp only [i64_w, i32_w]; rw [c4b0]) | skip)
      by_cases c5 : t203 < 0
      · rw [if_pos c5] at H
        have c5b0 : decide (t203 < 0) = true := decide_eq_true c5
        clear c5
        have H' := Aside0.mk H
        clear H
        go_wp2
        go_meet
        case rel => exact ⟨_, (true), (by first | rfl | (simp; done) | (simp [*]; done)), H', ⟨by first | omega | exact Nat.le_refl _⟩, ⟨by repeat (first | (with_reducible first | exact HB.out | apply below_alloc | apply pw_below_drewN | apply below_drew1) | exact HB.out)⟩⟩
      · rw [if_neg c5] at H
        have c5b0 : decide (t203 < 0) = false := decide_eq_false c5
        clear c5
        have H' := Aside0.mk H
        clear H
        go_wp2
        go_meet
        case rel => exact ⟨_, (decide (t203 > 1000)), (by first | rfl | (simp; done) | (simp [*]; done)), H', ⟨by first | omega | exact Nat.le_refl _⟩, ⟨by repeat (first | (with_reducible first | exact HB.out | apply below_alloc | apply pw_below_drewN | apply below_drew1) | exact HB.out)⟩⟩
    · rw [if_neg c4] at H
      have c4b0 : (t205 == 0) = false := beq_eq_false_iff_ne.mpr c4
      have c4b1 : (t205 != 0) = true := bne_iff_ne.mpr c4
      (first | rw [c4b0] | (simp only [i64_w, i32_w]; rw [c4b0]) | skip)
      have H' := Aside0.mk H
      clear H
      go_wp2
      go_meet
      case rel => exact ⟨_, (true), (by first | rfl | (simp; done) | (simp [*]; done)), H', ⟨by first | omega | exact Nat.le_refl _⟩, ⟨by repeat (first | (with_reducible first | exact HB.out | apply below_alloc | apply pw_below_drewN | apply below_drew1) | exact HB.out)⟩⟩
  case rest =>
    clear HC3
    try clear c1
    try clear p2
    try clear c3
    try clear c4
    try clear c4b0
    try clear c4b1
    try clear c5
    try clear c5b0
    obtain ⟨kq, x26_2, rfl, HA, HJ2, HB⟩ := hcut
    cases kq with
    | zero => exact absurd HA.out (by simp [batch_Decode.j0])
    | succ kj2 =>
      have H := HA.out
      clear HA
      simp only [batch_Decode.j0] at H
      by_cases c6 : x26_2 = true
      · subst c6
        have H1 : (some (([] : List (S38)), 8)) = some (r1, r2) := by rw [if_pos rfl] at H; exact H
        clear H
        have H := H1
        clear H1
        simp only [Option.some.injEq, Prod.mk.injEq] at H
        obtain ⟨rfl, rfl⟩ := H
        go_wp2
        go_ret2
        exact ⟨_, by first | rfl | (simp [errW_none, errW_some] <;> rfl) | (simp [*, errW_none, errW_some] <;> rfl), by first | exact Kd.R_nil _ _ _ _ _ | exact Kd.N_nil _ _ _ _ _ | exact Kd.V_nil _ _ _ _ _ | exact Kd.Q_nil _ _ _ _ _ | exact Kd.S_nil _ _ _ _ _, by repeat (first | (with_reducible first | exact HB.out | apply below_alloc | apply pw_below_drewN | apply below_drew1) | exact HB.out)⟩
      · replace c6 := Bool.eq_false_iff.mpr c6
        subst c6
        have H1 : (batch_Decode.l0 kj2 l0 t204 ([] : List (S38)) t203 0) = some (r1, r2) := by rw [if_neg (show ¬ (false = true) by decide)] at H; exact H
        clear H
        have H := H1
        clear H1
        have H' := Aside0.mk H
        clear H
        go_wp2
        go_loopg [5, 7, 28] kj2 (fun kq v5 v7 v28 w' => ∃ (x5_2 : Int) (x7_2 : List (S38)) (x28_2 : Int), v5 = .int .i64 x5_2 ∧ v28 = .int .i64 x28_2 ∧ Aside0 (batch_Decode.l0 kq l0 x5_2 x7_2 t203 x28_2 = some (r1, r2)) ∧ Aside0 (kq ≤ kj2) ∧ Aside0 (Kd.R k38 38 w' w.heap.size (fun _ => True) v7 x7_2) ∧ Aside0 (Below w.heap.size w w'))
        case atStart => exact ⟨(t204), (([] : List (S38))), (0), (by first | rfl | (simp; done) | (simp [*]; done)), (by first | rfl | (simp; done) | (simp [*]; done)), H', ⟨Nat.le_refl _⟩, ⟨by first | exact Kd.R_nil _ _ _ _ _ | exact Kd.N_nil _ _ _ _ _ | exact Kd.V_nil _ _ _ _ _ | exact Kd.Q_nil _ _ _ _ _ | exact Kd.S_nil _ _ _ _ _⟩, ⟨by repeat (first | (with_reducible first | exact HB.out | apply below_alloc | apply pw_below_drewN | apply below_drew1) | exact HB.out)⟩⟩
        case round =>
          clear H'
          try clear c1
          try clear p2
          try clear c3
          try clear c4
          try clear c4b0
          try clear c4b1
          try clear c5
          try clear c5b0
          try clear c6
          try clear p2
          obtain ⟨x5_2, x7_2, x28_2, rfl, rfl, HA, HK2, HO_7, HB⟩ := hrel
          cases gk with
          | zero => exact absurd HA.out (by simp [batch_Decode.l0])
          | succ k2 =>
            have H := HA.out
            clear HA
            simp only [batch_Decode.l0] at H
            by_cases c7 : x28_2 < t203
            · rw [if_pos c7] at H
              have c7b0 : decide (x28_2 < t203) = true := decide_eq_true c7
              clear c7
              by_cases c8 : 0 ≤ x5_2
              · rw [if_pos c8] at H
                have c8b0 := eq_true c8
                have c8b1 : decide (0 ≤ x5_2) = true := decide_eq_true c8
                clear c8
                by_cases c9 : x5_2 ≤ (l0.length : Int)
                · rw [if_pos c9] at H
                  have c9b0 := eq_true c9
                  have c9b1 : decide (x5_2 ≤ (l0.length : Int)) = true := decide_eq_true c9
                  clear c9
                  obtain ⟨y206, hy206⟩ : ∃ y_ : List Int, y_ = (l0.drop (x5_2 : Int).toNat) := ⟨_, rfl⟩
                  replace H : ((record_Get.f k2 y206).bind fun bt210 => (if bt210.2.2.2.2.2.2 = 0 then (if x7_2.length < 2513169434916 then (batch_Decode.l0 k2 l0 (wrap64 (x5_2 + bt210.2.2.2.2.2.1)) (x7_2 ++ [(⟨bt210.1, bt210.2.1, (⟨bt210.2.2.1, bt210.2.2.2.1, bt210.2.2.2.2.1⟩ : S36)⟩ : S38)]) t203 (wrap64 (x28_2 + 1))) else (none)) else (some (([] : List (S38)), 8)))) = some (r1, r2) := by first | (rw [hy206]; with_reducible exact H) | (have H2_ := (Option.bind_some _ _).symm.trans H; rw [hy206]; with_reducible exact H2_) | (have H2_ := (Option.bind_some _ _).symm.trans H; with_reducible exact H2_) | with_reducible exact H | (rw [hy206]; exact H) | exact H
                  have Ny206 := Aside0.mk hy206
                  clear hy206
                  replace H := Option.bind_eq_some_iff.mp H
                  obtain ⟨⟨t210, t211, t212, t213, t214, t215, t216⟩, A100, H⟩ := H
                  replace H : (if t216 = 0 then (if x7_2.length < 2513169434916 then (batch_Decode.l0 k2 l0 (wrap64 (x5_2 + t215)) (x7_2 ++ [(⟨t210, t211, (⟨t212, t213, t214⟩ : S36)⟩ : S38)]) t203 (wrap64 (x28_2 + 1))) else (none)) else (some (([] : List (S38)), 8))) = some (r1, r2) := H
                  have A10 := Aside0.mk A100
                  clear A100
                  by_cases c11 : t216 = 0
                  · rw [if_pos c11] at H
                    have c11b0 : (t216 == 0) = true := beq_iff_eq.mpr c11
                    have c11b1 : (t216 != 0) = false := bne_eq_false_iff_eq.mpr c11
                    clear c11
                    by_cases c12 : x7_2.length < 2513169434916
                    · rw [if_pos c12] at H
                      have LMc12 := Aside0.mk c12
                      clear c12
                      obtain ⟨y218, hy218⟩ : ∃ y_ : List (S38), y_ = (x7_2 ++ [(⟨t210, t211, (⟨t212, t213, t214⟩ : S36)⟩ : S38)]) := ⟨_, rfl⟩
                      replace H : (batch_Decode.l0 k2 l0 (wrap64 (x5_2 + t215)) y218 t203 (wrap64 (x28_2 + 1))) = some (r1, r2) := by first | (rw [hy218]; with_reducible exact H) | (have H2_ := (Option.bind_some _ _).symm.trans H; rw [hy218]; with_reducible exact H2_) | (have H2_ := (Option.bind_some _ _).symm.trans H; with_reducible exact H2_) | with_reducible exact H | (rw [hy218]; exact H) | exact H
                      have Ny218 := Aside0.mk hy218
                      clear hy218
                      have H' := Aside0.mk H
                      clear H
                      have q13 : (x5_2 : Int) ≤ ((l0.length : Int) : Int) := of_decide_eq_true (by first | (with_reducible assumption) | assumption)
                      obtain ⟨i013, hi013, _, hsz13, _⟩ := info_parts info5
                      have hroom13 : l0.length ≤ c0 := HC0.out
                      have hC13 : Kd.C (Kd.int .u8) _ A0 l0.length l0 := HR0.out
                      have q013 : (0 : Int) ≤ (x5_2 : Int) := of_decide_eq_true (by first | (with_reducible assumption) | assumption)
                      have hcut13 := cut_from (P := Try.prog) 25 5 .i64 Try.underlying25 hi013 1 hsz13 A0 l0.length c0 x5_2 q013 q13
                      have hr13 := Kd.C_drop (m := (x5_2 : Int).toNat) (c := c0) hC13 (by omega) hroom13
                      obtain ⟨A13, hA13⟩ : ∃ A1, A1 = (if c0 = (x5_2 : Int).toNat then A0 else (A0 : Option Addr).map (·.add ((x5_2 : Int).toNat * 1))) := ⟨_, rfl⟩
                      obtain ⟨c13, hc13⟩ : ∃ c1, c1 = c0 - (x5_2 : Int).toNat := ⟨_, rfl⟩
                      have hy13 : y206.length = l0.length - (x5_2 : Int).toNat := (by rw [Ny206.out, List.length_drop] <;> omega)
                      rw [show (l0).drop (x5_2 : Int).toNat = y206 from Ny206.out.symm] at hr13
                      replace hr13 : Kd.C (Kd.int .u8) _ A13 y206.length y206 := (by rw [hA13]; exact hr13)
                      rw [← hy13, ← hA13, ← hc13] at hcut13
                      have HR209 := Aside0.mk hr13
                      have HC209 := Aside0.mk (show y206.length ≤ c13 from by rw [hy13, hc13]; exact Nat.sub_le_sub_right hroom13 _)
                      clear hr13 hC13 hroom13 hi013 hsz13 hc13
                      have KY13 := Aside0.mk hy13
                      have KA13 := Aside0.mk hA13
                      clear hy13 hA13
                      replace q13 := eq_true q13
                      go_wp2_with (first | ((with_reducible refine gate_callee (f := 31) rfl ?_); refine goesL_ (some 34) rfl rfl Try.func31 (by kernel_rfl) rfl #[.slice A13 y206.length c13] rfl (by (try simp only [List.map_toArray, List.map_cons, List.map_nil]); first | done | rfl | (simp only [List.length_drop, List.length_take]; rfl)) ?_; (with_reducible refine (record_Get.calls k2 _ _ y206 t210 t211 t212 t213 t214 t215 t216 _ ?side1 ?side2 A10.out).mono ?_); (case side1 => repeat (first | exact (Kd.C_below HR209.out HB.out) | (with_reducible refine Kd.C_alloc ?_ _) | (with_reducible refine Kd.C_drewN ?_ _) | (with_reducible refine Kd.C_drew ?_))); (case side2 => exact HC209.out); rintro e w14 ⟨rfl, hb⟩; refine ⟨_, rfl, ?_⟩; have n0_ := Aside0.mk (Kd.R_below (by (with_reducible repeat (first | apply Kd.R_alloc | apply Kd.R_drewN | apply Kd.R_drew)); exact HO_7.out) hb); have n1_ := Aside0.mk (below_step (by repeat (first | (with_reducible first | exact HB.out | apply below_alloc | apply pw_below_drewN | apply below_drew1) | exact HB.out)) hb); clear HO_7; clear HB; have HO_7 := n0_; have HB := n1_; clear n0_ n1_; (try clear hb); (try clear hb2); (try clear hk); (try clear hi)) | ((with_reducible refine gate_dst (N := 8) rfl ?_); refine box_event ?hg (N := 8) ?hd (cs := #[.string (⟨#[]⟩ : ByteArray), .bool false, .int .i64 0, .int .i64 0, .string (⟨#[]⟩ : ByteArray)]) (t := 38) ?hr ?_; (case hd => rfl); (case hg => rfl); (case hr => first | (go_simp; done) | (go_simp; rfl)); intro gb217 hg w15 hbox hb; have n0_ := Aside0.mk (Kd.R_below (Kd.R_elderB (by (with_reducible repeat (first | apply Kd.R_alloc | apply Kd.R_drewN | apply Kd.R_drew)); exact HO_7.out) gb217 (Nat.le_of_eq hg.symm)) hb); have n1_ := Aside0.mk (below_step (by repeat (first | (with_reducible first | exact HB.out | apply below_alloc | apply pw_below_drewN | apply below_drew1) | exact HB.out)) hb); have n2_ := Aside0.mk (hbox); have n3_ := Aside0.mk ((by rw [hg]; exact (below_size (by repeat (first | (with_reducible first | exact HB.out | apply below_alloc | apply pw_below_drewN | apply below_drew1) | exact HB.out))) : w.heap.size ≤ gb217)); have n4_ := Aside0.mk ((by rw [hg]; exact (below_size (by repeat (first | (with_reducible first | exact HB.out | apply below_alloc | apply pw_below_drewN | apply below_drew1) | exact HB.out))) : w.heap.size ≤ gb217)); clear HO_7; clear HB; have HO_7 := n0_; have HB := n1_; have BK217 := n2_; have GW217 := n3_; have GE217 := n4_; clear n0_ n1_ n2_ n3_ n4_; clear hb hbox hg; have hcz16_0 : w15.cell? ⟨gb217, 0, none⟩ = some (.string (⟨#[]⟩ : ByteArray)) := (blk_cell BK217.out 0).trans rfl; have hcz16_1 : w15.cell? ⟨gb217, 1, none⟩ = some (.bool false) := (blk_cell BK217.out 1).trans rfl; have hcz16_2 : w15.cell? ⟨gb217, 2, none⟩ = some (.int .i64 0) := (blk_cell BK217.out 2).trans rfl; have hcz16_3 : w15.cell? ⟨gb217, 3, none⟩ = some (.int .i64 0) := (blk_cell BK217.out 3).trans rfl; have hcz16_4 : w15.cell? ⟨gb217, 4, none⟩ = some (.string (⟨#[]⟩ : ByteArray)) := (blk_cell BK217.out 4).trans rfl; have hfz16_0 := blk_frozen BK217.out 0; have hfz16_1 := blk_frozen BK217.out 1; have hfz16_2 := blk_frozen BK217.out 2; have hfz16_3 := blk_frozen BK217.out 3; have hfz16_4 := blk_frozen BK217.out 4) | ((with_reducible refine gate_builtin (b := .append) (xs := #[.tmp 40, .tmp 42]) rfl ?_); at_builtin; refine Kd.R_append k38 (w0 := w) w.heap.size rfl (.tmp 40) (.tmp 42) 22 38 (.agg #[(.string ⟨#[]⟩), (.bool false), (.int .i64 0), (.int .i64 0), (.string ⟨#[]⟩)]) 56 rfl Try.underlying22 info38 rfl (by decide) (by omega) u7 x7_2 (⟨t210, t211, (⟨t212, t213, t214⟩ : S36)⟩ : S38) [.string t210, .bool t211, .int .i64 t212, .int .i64 t213, .string t214] (fun k_ => k_ ≠ gb217) (fun _ => False) rfl (by first | (go_simp; done) | (go_simp; rfl)) ?aP (fun _ hk => hk.elim) ?aF ?aO ?aB ?aS ?aL ?_; (case aP => exact k38_mkM _ _ _ (⟨t210, t211, (⟨t212, t213, t214⟩ : S36)⟩ : S38)); (case aB => exact (by repeat (first | (with_reducible first | exact HB.out | apply below_alloc | apply pw_below_drewN | apply below_drew1 | refine below_set ?_ GE217.out) | exact HB.out))); (case aF => exact (fun k_ hk => Kd.freshB (g := gb217) (o := .cells #[.string t210, .bool t211, .int .i64 t212, .int .i64 t213, .string t214] 38 (0, 0)) (by (with_reducible repeat (first | refine blk_drewN ?_ _ | refine blk_drew ?_ | refine blk_alloc ?_ _)); refine blk_put (cs := #[.string t210, .bool t211, .int .i64 t212, .int .i64 t213, .string (⟨#[]⟩ : ByteArray)]) ?_ 4 _ rfl; (with_reducible repeat (first | refine blk_drewN ?_ _ | refine blk_drew ?_ | refine blk_alloc ?_ _)); refine blk_put (cs := #[.string t210, .bool t211, .int .i64 t212, .int .i64 0, .string (⟨#[]⟩ : ByteArray)]) ?_ 3 _ rfl; (with_reducible repeat (first | refine blk_drewN ?_ _ | refine blk_drew ?_ | refine blk_alloc ?_ _)); refine blk_put (cs := #[.string t210, .bool t211, .int .i64 0, .int .i64 0, .string (⟨#[]⟩ : ByteArray)]) ?_ 2 _ rfl; (with_reducible repeat (first | refine blk_drewN ?_ _ | refine blk_drew ?_ | refine blk_alloc ?_ _)); refine blk_put (cs := #[.string t210, .bool false, .int .i64 0, .int .i64 0, .string (⟨#[]⟩ : ByteArray)]) ?_ 1 _ rfl; (with_reducible repeat (first | refine blk_drewN ?_ _ | refine blk_drew ?_ | refine blk_alloc ?_ _)); refine blk_put (cs := #[.string (⟨#[]⟩ : ByteArray), .bool false, .int .i64 0, .int .i64 0, .string (⟨#[]⟩ : ByteArray)]) ?_ 0 _ rfl; (with_reducible repeat (first | refine blk_drewN ?_ _ | refine blk_drew ?_ | refine blk_alloc ?_ _)); exact BK217.out) k_ hk)); (case aO => exact (by (with_reducible repeat (first | apply Kd.R_alloc | apply Kd.R_drewN | apply Kd.R_drew)); exact Kd.R_mono (Kd.R_far (p := ⟨gb217, 4, none⟩) (Kd.R_far (p := ⟨gb217, 3, none⟩) (Kd.R_far (p := ⟨gb217, 2, none⟩) (Kd.R_far (p := ⟨gb217, 1, none⟩) (Kd.R_far (p := ⟨gb217, 0, none⟩) (Kd.R_mono HO_7.out (fun k_ hk => (⟨hk, hk.2⟩ : _ ∧ k_ ≠ gb217))) (fun _ hk => hk.2) (.string t210)) (fun _ hk => hk.2) (.bool t211)) (fun _ hk => hk.2) (.int .i64 t212)) (fun _ hk => hk.2) (.int .i64 t213)) (fun _ hk => hk.2) (.string t214)) (fun _ hk => hk.1.2))); (case aS => exact (below_size (by repeat (first | (with_reducible first | exact HB.out | apply below_alloc | apply pw_below_drewN | apply below_drew1 | refine below_set ?_ GE217.out) | exact HB.out)))); (case aL => have := LMc12.out; omega); intro v219 w17 ho hb hg hat; rw [← Ny218.out] at ho; have n0_ := Aside0.mk (blk_grown (g := gb217) (o := .cells #[.string t210, .bool t211, .int .i64 t212, .int .i64 t213, .string t214] 38 (0, 0)) (by (with_reducible repeat (first | refine blk_drewN ?_ _ | refine blk_drew ?_ | refine blk_alloc ?_ _)); refine blk_put (cs := #[.string t210, .bool t211, .int .i64 t212, .int .i64 t213, .string (⟨#[]⟩ : ByteArray)]) ?_ 4 _ rfl; (with_reducible repeat (first | refine blk_drewN ?_ _ | refine blk_drew ?_ | refine blk_alloc ?_ _)); refine blk_put (cs := #[.string t210, .bool t211, .int .i64 t212, .int .i64 0, .string (⟨#[]⟩ : ByteArray)]) ?_ 3 _ rfl; (with_reducible repeat (first | refine blk_drewN ?_ _ | refine blk_drew ?_ | refine blk_alloc ?_ _)); refine blk_put (cs := #[.string t210, .bool t211, .int .i64 0, .int .i64 0, .string (⟨#[]⟩ : ByteArray)]) ?_ 2 _ rfl; (with_reducible repeat (first | refine blk_drewN ?_ _ | refine blk_drew ?_ | refine blk_alloc ?_ _)); refine blk_put (cs := #[.string t210, .bool false, .int .i64 0, .int .i64 0, .string (⟨#[]⟩ : ByteArray)]) ?_ 1 _ rfl; (with_reducible repeat (first | refine blk_drewN ?_ _ | refine blk_drew ?_ | refine blk_alloc ?_ _)); refine blk_put (cs := #[.string (⟨#[]⟩ : ByteArray), .bool false, .int .i64 0, .int .i64 0, .string (⟨#[]⟩ : ByteArray)]) ?_ 0 _ rfl; (with_reducible repeat (first | refine blk_drewN ?_ _ | refine blk_drew ?_ | refine blk_alloc ?_ _)); exact BK217.out) hg (Kd.R_away HO_7.out (fun _ hk => hk.2))); have n1_ := Aside0.mk (hb); have n2_ := Aside0.mk (ho); clear BK217; clear HB; clear HO_7; have BK217 := n0_; have HB := n1_; have HO220 := n2_; clear n0_ n1_ n2_; clear ho hb hg hat))
                      go_roundg k2
                      case measure => have := HJ2.out; have := HK2.out; omega
                      case rel => exact ⟨(wrap64 (x5_2 + t215)), (y218), (wrap64 (x28_2 + 1)), (by first | rfl | (simp; done) | (simp [*]; done)), (by first | rfl | (simp; done) | (simp [*]; done)), H', ⟨by have := HJ2.out; have := HK2.out; omega⟩, ⟨by (with_reducible repeat (first | apply Kd.R_alloc | apply Kd.R_drewN | apply Kd.R_drew)); exact Kd.R_mono HO220.out (fun _ hk => trivial)⟩, ⟨by repeat (first | (with_reducible first | exact HB.out | apply below_alloc | apply pw_below_drewN | apply below_drew1 | refine below_set ?_ GE217.out) | exact HB.out)⟩⟩
                    · rw [if_neg c12] at H
                      exact absurd H (by simp)
                  · rw [if_neg c11] at H
                    have c11b0 : (t216 == 0) = false := beq_eq_false_iff_ne.mpr c11
                    have c11b1 : (t216 != 0) = true := bne_iff_ne.mpr c11
                    simp only [Option.some.injEq, Prod.mk.injEq] at H
                    obtain ⟨rfl, rfl⟩ := H
                    have q18 : (x5_2 : Int) ≤ ((l0.length : Int) : Int) := of_decide_eq_true (by first | (with_reducible assumption) | assumption)
                    obtain ⟨i018, hi018, _, hsz18, _⟩ := info_parts info5
                    have hroom18 : l0.length ≤ c0 := HC0.out
                    have hC18 : Kd.C (Kd.int .u8) _ A0 l0.length l0 := HR0.out
                    have q018 : (0 : Int) ≤ (x5_2 : Int) := of_decide_eq_true (by first | (with_reducible assumption) | assumption)
                    have hcut18 := cut_from (P := Try.prog) 25 5 .i64 Try.underlying25 hi018 1 hsz18 A0 l0.length c0 x5_2 q018 q18
                    have hr18 := Kd.C_drop (m := (x5_2 : Int).toNat) (c := c0) hC18 (by omega) hroom18
                    obtain ⟨A18, hA18⟩ : ∃ A1, A1 = (if c0 = (x5_2 : Int).toNat then A0 else (A0 : Option Addr).map (·.add ((x5_2 : Int).toNat * 1))) := ⟨_, rfl⟩
                    obtain ⟨c18, hc18⟩ : ∃ c1, c1 = c0 - (x5_2 : Int).toNat := ⟨_, rfl⟩
                    have hy18 : y206.length = l0.length - (x5_2 : Int).toNat := (by rw [Ny206.out, List.length_drop] <;> omega)
                    rw [show (l0).drop (x5_2 : Int).toNat = y206 from Ny206.out.symm] at hr18
                    replace hr18 : Kd.C (Kd.int .u8) _ A18 y206.length y206 := (by rw [hA18]; exact hr18)
                    rw [← hy18, ← hA18, ← hc18] at hcut18
                    have HR209 := Aside0.mk hr18
                    have HC209 := Aside0.mk (show y206.length ≤ c18 from by rw [hy18, hc18]; exact Nat.sub_le_sub_right hroom18 _)
                    clear hr18 hC18 hroom18 hi018 hsz18 hc18
                    have KY18 := Aside0.mk hy18
                    have KA18 := Aside0.mk hA18
                    clear hy18 hA18
                    replace q18 := eq_true q18
                    go_wp2_with (first | ((with_reducible refine gate_callee (f := 31) rfl ?_); refine goesL_ (some 34) rfl rfl Try.func31 (by kernel_rfl) rfl #[.slice A18 y206.length c18] rfl (by (try simp only [List.map_toArray, List.map_cons, List.map_nil]); first | done | rfl | (simp only [List.length_drop, List.length_take]; rfl)) ?_; (with_reducible refine (record_Get.calls k2 _ _ y206 t210 t211 t212 t213 t214 t215 t216 _ ?side1 ?side2 A10.out).mono ?_); (case side1 => repeat (first | exact (Kd.C_below HR209.out HB.out) | (with_reducible refine Kd.C_alloc ?_ _) | (with_reducible refine Kd.C_drewN ?_ _) | (with_reducible refine Kd.C_drew ?_))); (case side2 => exact HC209.out); rintro e w19 ⟨rfl, hb⟩; refine ⟨_, rfl, ?_⟩; have n0_ := Aside0.mk (Kd.R_below (by (with_reducible repeat (first | apply Kd.R_alloc | apply Kd.R_drewN | apply Kd.R_drew)); exact HO_7.out) hb); have n1_ := Aside0.mk (below_step (by repeat (first | (with_reducible first | exact HB.out | apply below_alloc | apply pw_below_drewN | apply below_drew1) | exact HB.out)) hb); clear HO_7; clear HB; have HO_7 := n0_; have HB := n1_; clear n0_ n1_; (try clear hb); (try clear hb2); (try clear hk); (try clear hi)) | ((with_reducible refine gate_dst (N := 8) rfl ?_); refine box_event ?hg (N := 8) ?hd (cs := #[.string (⟨#[]⟩ : ByteArray), .bool false, .int .i64 0, .int .i64 0, .string (⟨#[]⟩ : ByteArray)]) (t := 38) ?hr ?_; (case hd => rfl); (case hg => rfl); (case hr => first | (go_simp; done) | (go_simp; rfl)); intro gb217 hg w20 hbox hb; have n0_ := Aside0.mk (Kd.R_below (Kd.R_elderB (by (with_reducible repeat (first | apply Kd.R_alloc | apply Kd.R_drewN | apply Kd.R_drew)); exact HO_7.out) gb217 (Nat.le_of_eq hg.symm)) hb); have n1_ := Aside0.mk (below_step (by repeat (first | (with_reducible first | exact HB.out | apply below_alloc | apply pw_below_drewN | apply below_drew1) | exact HB.out)) hb); have n2_ := Aside0.mk (hbox); have n3_ := Aside0.mk ((by rw [hg]; exact (below_size (by repeat (first | (with_reducible first | exact HB.out | apply below_alloc | apply pw_below_drewN | apply below_drew1) | exact HB.out))) : w.heap.size ≤ gb217)); have n4_ := Aside0.mk ((by rw [hg]; exact (below_size (by repeat (first | (with_reducible first | exact HB.out | apply below_alloc | apply pw_below_drewN | apply below_drew1) | exact HB.out))) : w.heap.size ≤ gb217)); clear HO_7; clear HB; have HO_7 := n0_; have HB := n1_; have BK217 := n2_; have GW217 := n3_; have GE217 := n4_; clear n0_ n1_ n2_ n3_ n4_; clear hb hbox hg; have hcz21_0 : w20.cell? ⟨gb217, 0, none⟩ = some (.string (⟨#[]⟩ : ByteArray)) := (blk_cell BK217.out 0).trans rfl; have hcz21_1 : w20.cell? ⟨gb217, 1, none⟩ = some (.bool false) := (blk_cell BK217.out 1).trans rfl; have hcz21_2 : w20.cell? ⟨gb217, 2, none⟩ = some (.int .i64 0) := (blk_cell BK217.out 2).trans rfl; have hcz21_3 : w20.cell? ⟨gb217, 3, none⟩ = some (.int .i64 0) := (blk_cell BK217.out 3).trans rfl; have hcz21_4 : w20.cell? ⟨gb217, 4, none⟩ = some (.string (⟨#[]⟩ : ByteArray)) := (blk_cell BK217.out 4).trans rfl; have hfz21_0 := blk_frozen BK217.out 0; have hfz21_1 := blk_frozen BK217.out 1; have hfz21_2 := blk_frozen BK217.out 2; have hfz21_3 := blk_frozen BK217.out 3; have hfz21_4 := blk_frozen BK217.out 4))
                    go_ret2
                    exact ⟨_, by first | rfl | (simp [errW_none, errW_some] <;> rfl) | (simp [*, errW_none, errW_some] <;> rfl), by first | exact Kd.R_nil _ _ _ _ _ | exact Kd.N_nil _ _ _ _ _ | exact Kd.V_nil _ _ _ _ _ | exact Kd.Q_nil _ _ _ _ _ | exact Kd.S_nil _ _ _ _ _, by repeat (first | (with_reducible first | exact HB.out | apply below_alloc | apply pw_below_drewN | apply below_drew1 | refine below_set ?_ GE217.out) | exact HB.out)⟩
                · rw [if_neg c9] at H
                  exact absurd H (by simp)
              · rw [if_neg c8] at H
                exact absurd H (by simp)
            · rw [if_neg c7] at H
              have c7b0 : decide (x28_2 < t203) = false := decide_eq_false c7
              clear c7
              replace H := Option.bind_eq_some_iff.mp H
              obtain ⟨t221, A220, H⟩ := H
              replace H : ((bytes_Equal.f t221 l0).bind fun t224 => (if t224 = true then (some (x7_2, 0)) else (some (([] : List (S38)), 8)))) = some (r1, r2) := H
              have A22 := Aside0.mk A220
              clear A220
              replace H := Option.bind_eq_some_iff.mp H
              obtain ⟨t224, A230, H⟩ := H
              replace H : (if t224 = true then (some (x7_2, 0)) else (some (([] : List (S38)), 8))) = some (r1, r2) := H
              have A23 := Aside0.mk A230
              clear A230
              by_cases c24 : t224 = true
              · subst c24
                have H1 : (some (x7_2, 0)) = some (r1, r2) := by rw [if_pos rfl] at H; exact H
                clear H
                have H := H1
                clear H1
                simp only [Option.some.injEq, Prod.mk.injEq] at H
                obtain ⟨rfl, rfl⟩ := H
                obtain ⟨Ao25, co25, eo25⟩ := Kd.R_slice HO_7.out
                subst eo25
                go_wp2_with (first | ((with_reducible refine gate_callee (f := 9) rfl ?_); refine goesL_ (some 49) rfl rfl Try.func9 (by kernel_rfl) rfl #[.slice Ao25 x7_2.length co25] rfl (by (try simp only [List.map_toArray, List.map_cons, List.map_nil]); first | done | rfl | (simp only [List.length_drop, List.length_take]; rfl)) ?_; (with_reducible refine (batch_Encode.calls k2 _ _ x7_2 t221 _ ?side1 ?side2 A22.out).mono ?_); (case side1 => repeat (first | exact (Kd.R_reads' HO_7.out).2.2 | (with_reducible refine Kd.C_alloc ?_ _) | (with_reducible refine Kd.C_drewN ?_ _) | (with_reducible refine Kd.C_drew ?_))); (case side2 => exact (Kd.R_reads' HO_7.out).2.1); rintro e w26 ⟨v222, rfl, ho0, hb⟩; refine ⟨_, rfl, ?_⟩; have n0_ := Aside0.mk (Kd.R_below (by (with_reducible repeat (first | apply Kd.R_alloc | apply Kd.R_drewN | apply Kd.R_drew)); exact HO_7.out) hb); have n1_ := Aside0.mk (Kd.R_lower ho0 (below_size (by repeat (first | (with_reducible first | exact HB.out | apply below_alloc | apply pw_below_drewN | apply below_drew1) | exact HB.out)))); have n2_ := Aside0.mk (below_step (by repeat (first | (with_reducible first | exact HB.out | apply below_alloc | apply pw_below_drewN | apply below_drew1) | exact HB.out)) hb); clear HO_7; clear HB; have HO_7 := n0_; have HO223 := n1_; have HB := n2_; clear n0_ n1_ n2_; (try clear hb); (try clear hb2); (try clear hk); (try clear hi); (try clear ho0); obtain ⟨Ao27, co27, eo27⟩ := Kd.R_slice HO223.out; subst eo27) | ((with_reducible refine gate_callee (f := 32) rfl ?_); refine goesL_ (some 51) rfl rfl Try.func32 (by kernel_rfl) rfl #[.slice Ao27 t221.length co27, .slice A0 l0.length c0] rfl (by (try simp only [List.map_toArray, List.map_cons, List.map_nil]); first | done | rfl | (simp only [List.length_drop, List.length_take]; rfl)) ?_; (with_reducible refine (bytes_Equal.calls _ _ t221 _ _ l0 true _ ?side1 ?side2 ?side3 ?side4 A23.out).mono ?_); (case side1 => repeat (first | exact (Kd.R_reads' HO223.out).2.2 | (with_reducible refine Kd.C_alloc ?_ _) | (with_reducible refine Kd.C_drewN ?_ _) | (with_reducible refine Kd.C_drew ?_))); (case side2 => exact (Kd.R_reads' HO223.out).2.1); (case side3 => repeat (first | exact (Kd.C_below HR0.out HB.out) | (with_reducible refine Kd.C_alloc ?_ _) | (with_reducible refine Kd.C_drewN ?_ _) | (with_reducible refine Kd.C_drew ?_))); (case side4 => exact HC0.out); rintro e w' ⟨rfl, ⟨nd, rfl⟩⟩; refine ⟨_, rfl, ?_⟩))
                go_ret2
                exact ⟨_, by first | rfl | (simp [errW_none, errW_some] <;> rfl) | (simp [*, errW_none, errW_some] <;> rfl), by (with_reducible repeat (first | apply Kd.R_alloc | apply Kd.R_drewN | apply Kd.R_drew)); exact HO_7.out, by repeat (first | (with_reducible first | exact HB.out | apply below_alloc | apply pw_below_drewN | apply below_drew1) | exact HB.out)⟩
              · replace c24 := Bool.eq_false_iff.mpr c24
                subst c24
                have H1 : (some (([] : List (S38)), 8)) = some (r1, r2) := by rw [if_neg (show ¬ (false = true) by decide)] at H; exact H
                clear H
                have H := H1
                clear H1
                simp only [Option.some.injEq, Prod.mk.injEq] at H
                obtain ⟨rfl, rfl⟩ := H
                obtain ⟨Ao28, co28, eo28⟩ := Kd.R_slice HO_7.out
                subst eo28
                go_wp2_with (first | ((with_reducible refine gate_callee (f := 9) rfl ?_); refine goesL_ (some 49) rfl rfl Try.func9 (by kernel_rfl) rfl #[.slice Ao28 x7_2.length co28] rfl (by (try simp only [List.map_toArray, List.map_cons, List.map_nil]); first | done | rfl | (simp only [List.length_drop, List.length_take]; rfl)) ?_; (with_reducible refine (batch_Encode.calls k2 _ _ x7_2 t221 _ ?side1 ?side2 A22.out).mono ?_); (case side1 => repeat (first | exact (Kd.R_reads' HO_7.out).2.2 | (with_reducible refine Kd.C_alloc ?_ _) | (with_reducible refine Kd.C_drewN ?_ _) | (with_reducible refine Kd.C_drew ?_))); (case side2 => exact (Kd.R_reads' HO_7.out).2.1); rintro e w29 ⟨v222, rfl, ho0, hb⟩; refine ⟨_, rfl, ?_⟩; have n0_ := Aside0.mk (Kd.R_below (by (with_reducible repeat (first | apply Kd.R_alloc | apply Kd.R_drewN | apply Kd.R_drew)); exact HO_7.out) hb); have n1_ := Aside0.mk (Kd.R_lower ho0 (below_size (by repeat (first | (with_reducible first | exact HB.out | apply below_alloc | apply pw_below_drewN | apply below_drew1) | exact HB.out)))); have n2_ := Aside0.mk (below_step (by repeat (first | (with_reducible first | exact HB.out | apply below_alloc | apply pw_below_drewN | apply below_drew1) | exact HB.out)) hb); clear HO_7; clear HB; have HO_7 := n0_; have HO223 := n1_; have HB := n2_; clear n0_ n1_ n2_; (try clear hb); (try clear hb2); (try clear hk); (try clear hi); (try clear ho0); obtain ⟨Ao30, co30, eo30⟩ := Kd.R_slice HO223.out; subst eo30) | ((with_reducible refine gate_callee (f := 32) rfl ?_); refine goesL_ (some 51) rfl rfl Try.func32 (by kernel_rfl) rfl #[.slice Ao30 t221.length co30, .slice A0 l0.length c0] rfl (by (try simp only [List.map_toArray, List.map_cons, List.map_nil]); first | done | rfl | (simp only [List.length_drop, List.length_take]; rfl)) ?_; (with_reducible refine (bytes_Equal.calls _ _ t221 _ _ l0 false _ ?side1 ?side2 ?side3 ?side4 A23.out).mono ?_); (case side1 => repeat (first | exact (Kd.R_reads' HO223.out).2.2 | (with_reducible refine Kd.C_alloc ?_ _) | (with_reducible refine Kd.C_drewN ?_ _) | (with_reducible refine Kd.C_drew ?_))); (case side2 => exact (Kd.R_reads' HO223.out).2.1); (case side3 => repeat (first | exact (Kd.C_below HR0.out HB.out) | (with_reducible refine Kd.C_alloc ?_ _) | (with_reducible refine Kd.C_drewN ?_ _) | (with_reducible refine Kd.C_drew ?_))); (case side4 => exact HC0.out); rintro e w' ⟨rfl, ⟨nd, rfl⟩⟩; refine ⟨_, rfl, ?_⟩))
                go_ret2
                exact ⟨_, by first | rfl | (simp [errW_none, errW_some] <;> rfl) | (simp [*, errW_none, errW_some] <;> rfl), by first | exact Kd.R_nil _ _ _ _ _ | exact Kd.N_nil _ _ _ _ _ | exact Kd.V_nil _ _ _ _ _ | exact Kd.Q_nil _ _ _ _ _ | exact Kd.S_nil _ _ _ _ _, by repeat (first | (with_reducible first | exact HB.out | apply below_alloc | apply pw_below_drewN | apply below_drew1) | exact HB.out)⟩

end Go.Proofs.Ytbogcnfmdakdmaa.XBat

-- Written by wip/xprint.py, this session's wrapper round the kit's print program. Not trusted: Lean checks it.
namespace Go.Proofs.Ytbogcnfmdakdmaa.XBat
open Go.RowKit Go.Proofs.Ytbogcnfmdakdmaa.G Go.Proofs.YtbogcnfmdakdmaaW.PrintWords Go.Proofs.YtbogcnfmdakdmaaW.PrintLast Go.Proofs.YtbogcnfmdakdmaaW.PrintMore
attribute [local go_sem] max2_int min2_int max_two min_two max_three min_three max_four min_four   -- for this text's walks alone
set_option linter.unusedVariables false
set_option linter.unusedSimpArgs false

/-! ### loessref10_MayAll: function 11 -/
def loessref10_MayAll.l0 : Nat → List (S38) → Int → Option (Bool)
  | 0, _, _ => none
  | k + 1, x0, x3 => if x3 < (x0.length : Int) then (if 0 ≤ x3 then ((loessref10_May.f k ((rd_T38 x0 x3).f0) ((rd_T38 x0 x3).f1) ((rd_T38 x0 x3).f2.f0) ((rd_T38 x0 x3).f2.f1) ((rd_T38 x0 x3).f2.f2)).bind fun t287 => (if t287 = true then (loessref10_MayAll.l0 k x0 (wrap64 (x3 + 1))) else (some false))) else (none)) else (some (decide ((x0.length : Int) ≤ 1000)))
def loessref10_MayAll.f (k : Nat) (l0 : List (S38)) : Option (Bool) := loessref10_MayAll.l0 k l0 0
theorem loessref10_MayAll.mono_l : ∀ k, (∀ y0 y1, LeO (loessref10_MayAll.l0 k y0 y1) (loessref10_MayAll.l0 (k + 1) y0 y1))
  | 0 => fun _ _ r h => by simp [loessref10_MayAll.l0] at h
  | k + 1 => by
    have ih0 := loessref10_MayAll.mono_l k
    · intro y0 y1
      unfold loessref10_MayAll.l0
      repeat' first
      | (with_reducible exact ih0 _ _)
      | (with_reducible exact loessref10_May.mono _ _ _ _ _ _)
      | (with_reducible exact LeO.refl _)
      | (with_reducible exact LeO.none _)
      | (with_reducible refine LeO.ite ?_ ?_)
      | (with_reducible refine LeO.bind ?_ (fun _ => ?_))
      | exact ih0 _ _
      | exact loessref10_May.mono _ _ _ _ _ _
      | exact LeO.none _
      | refine LeO.ite ?_ ?_
      | refine LeO.bind ?_ (fun _ => ?_)
theorem loessref10_MayAll.mono : ∀ a0 k, LeO (loessref10_MayAll.f k a0) (loessref10_MayAll.f (k + 1) a0) := by
  intro a0 k
  have ih0 := loessref10_MayAll.mono_l k
  unfold loessref10_MayAll.f
  repeat' first
      | (with_reducible exact ih0 _ _)
      | (with_reducible exact loessref10_May.mono _ _ _ _ _ _)
      | (with_reducible exact LeO.refl _)
      | (with_reducible exact LeO.none _)
      | (with_reducible refine LeO.ite ?_ ?_)
      | (with_reducible refine LeO.bind ?_ (fun _ => ?_))
      | exact ih0 _ _
      | exact loessref10_May.mono _ _ _ _ _ _
      | exact LeO.none _
      | refine LeO.ite ?_ ?_
      | refine LeO.bind ?_ (fun _ => ?_)
set_option maxHeartbeats 8000000 in
set_option maxRecDepth 100000 in
theorem loessref10_MayAll.calls (k : Nat) (A0 : Option Addr) (c0 : Nat) (l0 : List (S38)) (r : Bool) (w : World) (hr0 : Kd.C k38 w A0 l0.length l0) (hc0 : l0.length ≤ c0) (h : loessref10_MayAll.f k l0 = some r) :
    Calls Try.prog 11 #[.slice A0 l0.length c0] w fun e w' => e = .returned (.bool r) ∧ Below w.heap.size w w' := by
  have hu38 := Try.underlying38
  have HR0 := Aside0.mk hr0
  have HC0 := Aside0.mk hc0
  clear hr0 hc0
  have HB := Aside0.mk (Below.refl w.heap.size w)
  have H : (loessref10_MayAll.l0 k l0 0) = some r := h
  clear h
  have H' := Aside0.mk H
  clear H
  go_enter Try.func11, Try.ntmps11
  go_wp2
  go_loopg [3] k (fun kq v3 w' => ∃ (x3_1 : Int), v3 = .int .i64 x3_1 ∧ Aside0 (loessref10_MayAll.l0 kq l0 x3_1 = some r) ∧ Aside0 (kq ≤ k) ∧ Aside0 (Below w.heap.size w w'))
  case atStart => exact ⟨(0), (by first | rfl | (simp; done) | (simp [*]; done)), H', ⟨Nat.le_refl _⟩, ⟨by repeat (first | (with_reducible first | exact HB.out | apply below_alloc | apply pw_below_drewN | apply below_drew1) | exact HB.out)⟩⟩
  case round =>
    clear H'
    try clear c1
    obtain ⟨x3_1, rfl, HA, HK1, HB⟩ := hrel
    cases gk with
    | zero => exact absurd HA.out (by simp [loessref10_MayAll.l0])
    | succ k1 =>
      have H := HA.out
      clear HA
      simp only [loessref10_MayAll.l0] at H
      by_cases c2 : x3_1 < (l0.length : Int)
      · rw [if_pos c2] at H
        have c2b0 : decide (x3_1 < (l0.length : Int)) = true := decide_eq_true c2
        clear c2
        by_cases c3 : 0 ≤ x3_1
        · rw [if_pos c3] at H
          have c3b0 : decide (0 ≤ x3_1) = true := decide_eq_true c3
          clear c3
          replace H := Option.bind_eq_some_iff.mp H
          obtain ⟨t287, A40, H⟩ := H
          replace H : (if t287 = true then (loessref10_MayAll.l0 k1 l0 (wrap64 (x3_1 + 1))) else (some false)) = some r := H
          have A4 := Aside0.mk A40
          clear A40
          by_cases c5 : t287 = true
          · subst c5
            have H1 : (loessref10_MayAll.l0 k1 l0 (wrap64 (x3_1 + 1))) = some r := by rw [if_pos rfl] at H; exact H
            clear H
            have H := H1
            clear H1
            have H' := Aside0.mk H
            clear H
            have p286 : 0 ≤ (x3_1 : Int) := of_decide_eq_true (by first | (with_reducible assumption) | assumption)
            have q286 : x3_1 < (l0.length : Int) := of_decide_eq_true (by first | (with_reducible assumption) | assumption)
            obtain ⟨ad286, e286, hx286_0, hx286_1, hx286_2, hx286_3, hx286_4⟩ := at_T38 HR0.out x3_1 p286 q286
            cases e286
            replace hx286_0 := (HB.out.cell (World.block_lt_of_cell? w _ hx286_0)).trans hx286_0
            replace hx286_1 := (HB.out.cell (World.block_lt_of_cell? w _ hx286_1)).trans hx286_1
            replace hx286_2 := (HB.out.cell (World.block_lt_of_cell? w _ hx286_2)).trans hx286_2
            replace hx286_3 := (HB.out.cell (World.block_lt_of_cell? w _ hx286_3)).trans hx286_3
            replace hx286_4 := (HB.out.cell (World.block_lt_of_cell? w _ hx286_4)).trans hx286_4
            replace p286 := eq_true p286
            replace q286 := eq_true q286
            go_wp2_with (first | ((with_reducible refine gate_callee (f := 19) rfl ?_); refine goesL_ (some 14) rfl rfl Try.func19 (by kernel_rfl) rfl #[.agg #[.string ((rd_T38 l0 x3_1).f0), .bool ((rd_T38 l0 x3_1).f1), .int .i64 ((rd_T38 l0 x3_1).f2.f0), .int .i64 ((rd_T38 l0 x3_1).f2.f1), .string ((rd_T38 l0 x3_1).f2.f2)]] rfl (by (try simp only [List.map_toArray, List.map_cons, List.map_nil]); first | done | rfl | (simp only [List.length_drop, List.length_take]; rfl)) ?_; (with_reducible refine (loessref10_May.calls k1 ((rd_T38 l0 x3_1).f0) ((rd_T38 l0 x3_1).f1) ((rd_T38 l0 x3_1).f2.f0) ((rd_T38 l0 x3_1).f2.f1) ((rd_T38 l0 x3_1).f2.f2) true _ A4.out).mono ?_); rintro e w6 ⟨rfl, hb⟩; refine ⟨_, rfl, ?_⟩; have n0_ := Aside0.mk (below_step (by repeat (first | (with_reducible first | exact HB.out | apply below_alloc | apply pw_below_drewN | apply below_drew1) | exact HB.out)) hb); clear HB; have HB := n0_; clear n0_; (try clear hb); (try clear hb2); (try clear hk); (try clear hi)))
            go_roundg k1
            case measure => have := HK1.out; omega
            case rel => exact ⟨(wrap64 (x3_1 + 1)), (by first | rfl | (simp; done) | (simp [*]; done)), H', ⟨by have := HK1.out; omega⟩, ⟨by repeat (first | (with_reducible first | exact HB.out | apply below_alloc | apply pw_below_drewN | apply below_drew1) | exact HB.out)⟩⟩
          · replace c5 := Bool.eq_false_iff.mpr c5
            subst c5
            have H1 : (some false) = some r := by rw [if_neg (show ¬ (false = true) by decide)] at H; exact H
            clear H
            have H := H1
            clear H1
            obtain rfl := Option.some.inj H
            have p286 : 0 ≤ (x3_1 : Int) := of_decide_eq_true (by first | (with_reducible assumption) | assumption)
            have q286 : x3_1 < (l0.length : Int) := of_decide_eq_true (by first | (with_reducible assumption) | assumption)
            obtain ⟨ad286, e286, hx286_0, hx286_1, hx286_2, hx286_3, hx286_4⟩ := at_T38 HR0.out x3_1 p286 q286
            cases e286
            replace hx286_0 := (HB.out.cell (World.block_lt_of_cell? w _ hx286_0)).trans hx286_0
            replace hx286_1 := (HB.out.cell (World.block_lt_of_cell? w _ hx286_1)).trans hx286_1
            replace hx286_2 := (HB.out.cell (World.block_lt_of_cell? w _ hx286_2)).trans hx286_2
            replace hx286_3 := (HB.out.cell (World.block_lt_of_cell? w _ hx286_3)).trans hx286_3
            replace hx286_4 := (HB.out.cell (World.block_lt_of_cell? w _ hx286_4)).trans hx286_4
            replace p286 := eq_true p286
            replace q286 := eq_true q286
            go_wp2_with (first | ((with_reducible refine gate_callee (f := 19) rfl ?_); refine goesL_ (some 14) rfl rfl Try.func19 (by kernel_rfl) rfl #[.agg #[.string ((rd_T38 l0 x3_1).f0), .bool ((rd_T38 l0 x3_1).f1), .int .i64 ((rd_T38 l0 x3_1).f2.f0), .int .i64 ((rd_T38 l0 x3_1).f2.f1), .string ((rd_T38 l0 x3_1).f2.f2)]] rfl (by (try simp only [List.map_toArray, List.map_cons, List.map_nil]); first | done | rfl | (simp only [List.length_drop, List.length_take]; rfl)) ?_; (with_reducible refine (loessref10_May.calls k1 ((rd_T38 l0 x3_1).f0) ((rd_T38 l0 x3_1).f1) ((rd_T38 l0 x3_1).f2.f0) ((rd_T38 l0 x3_1).f2.f1) ((rd_T38 l0 x3_1).f2.f2) false _ A4.out).mono ?_); rintro e w7 ⟨rfl, hb⟩; refine ⟨_, rfl, ?_⟩; have n0_ := Aside0.mk (below_step (by repeat (first | (with_reducible first | exact HB.out | apply below_alloc | apply pw_below_drewN | apply below_drew1) | exact HB.out)) hb); clear HB; have HB := n0_; clear n0_; (try clear hb); (try clear hb2); (try clear hk); (try clear hi)))
            go_ret
            exact ⟨by first | rfl | (simp [errW_none, errW_some] <;> rfl) | (simp [*, errW_none, errW_some] <;> rfl), by repeat (first | (with_reducible first | exact HB.out | apply below_alloc | apply pw_below_drewN | apply below_drew1) | exact HB.out)⟩
        · rw [if_neg c3] at H
          exact absurd H (by simp)
      · rw [if_neg c2] at H
        have c2b0 : decide (x3_1 < (l0.length : Int)) = false := decide_eq_false c2
        clear c2
        obtain rfl := Option.some.inj H
        go_wp2
        go_ret
        exact ⟨by first | rfl | (simp [errW_none, errW_some] <;> rfl) | (simp [*, errW_none, errW_some] <;> rfl), by repeat (first | (with_reducible first | exact HB.out | apply below_alloc | apply pw_below_drewN | apply below_drew1) | exact HB.out)⟩

end Go.Proofs.Ytbogcnfmdakdmaa.XBat

-- Written by wip/xprint.py, this session's wrapper round the kit's print program. Not trusted: Lean checks it.
namespace Go.Proofs.Ytbogcnfmdakdmaa.XBat
open Go.RowKit Go.Proofs.Ytbogcnfmdakdmaa.G Go.Proofs.YtbogcnfmdakdmaaW.PrintWords Go.Proofs.YtbogcnfmdakdmaaW.PrintLast Go.Proofs.YtbogcnfmdakdmaaW.PrintMore
attribute [local go_sem] max2_int min2_int max_two min_two max_three min_three max_four min_four   -- for this text's walks alone
set_option linter.unusedVariables false
set_option linter.unusedSimpArgs false

/-! ### loessref10_Row: function 12 -/
def loessref10_Row.l0 : Nat → List (S38) → List Int → Int → Option (List Int)
  | 0, _, _, _ => none
  | k + 1, x0, x3, x4 => if x4 < (x0.length : Int) then (if 0 ≤ x4 then ((loessref10_Bytes.f k ((rd_T38 x0 x4).f0) ((rd_T38 x0 x4).f1) ((rd_T38 x0 x4).f2.f0) ((rd_T38 x0 x4).f2.f1) ((rd_T38 x0 x4).f2.f2)).bind fun t337 => (if x3.length + t337.length < 140737488355328 then (loessref10_Row.l0 k x0 (x3 ++ t337) (wrap64 (x4 + 1))) else (none))) else (none)) else (some x3)
def loessref10_Row.f (k : Nat) (l0 : List (S38)) : Option (List Int) := (loessref10_MayAll.f k l0).bind fun t332 => (if t332 = true then ((loessref1_Put.f k (l0.length : Int)).bind fun t333 => (loessref10_Row.l0 k l0 t333 0)) else (some ([] : List Int)))
theorem loessref10_Row.mono_l : ∀ k, (∀ y0 y1 y2, LeO (loessref10_Row.l0 k y0 y1 y2) (loessref10_Row.l0 (k + 1) y0 y1 y2))
  | 0 => fun _ _ _ r h => by simp [loessref10_Row.l0] at h
  | k + 1 => by
    have ih0 := loessref10_Row.mono_l k
    · intro y0 y1 y2
      unfold loessref10_Row.l0
      repeat' first
      | (with_reducible exact ih0 _ _ _)
      | (with_reducible exact loessref10_Bytes.mono _ _ _ _ _ _)
      | (with_reducible exact loessref10_MayAll.mono _ _)
      | (with_reducible exact loessref1_Put.mono _ _)
      | (with_reducible exact LeO.refl _)
      | (with_reducible exact LeO.none _)
      | (with_reducible refine LeO.ite ?_ ?_)
      | (with_reducible refine LeO.bind ?_ (fun _ => ?_))
      | exact ih0 _ _ _
      | exact loessref10_Bytes.mono _ _ _ _ _ _
      | exact loessref10_MayAll.mono _ _
      | exact loessref1_Put.mono _ _
      | exact LeO.none _
      | refine LeO.ite ?_ ?_
      | refine LeO.bind ?_ (fun _ => ?_)
theorem loessref10_Row.mono : ∀ a0 k, LeO (loessref10_Row.f k a0) (loessref10_Row.f (k + 1) a0) := by
  intro a0 k
  have ih0 := loessref10_Row.mono_l k
  unfold loessref10_Row.f
  repeat' first
      | (with_reducible exact ih0 _ _ _)
      | (with_reducible exact loessref10_Bytes.mono _ _ _ _ _ _)
      | (with_reducible exact loessref10_MayAll.mono _ _)
      | (with_reducible exact loessref1_Put.mono _ _)
      | (with_reducible exact LeO.refl _)
      | (with_reducible exact LeO.none _)
      | (with_reducible refine LeO.ite ?_ ?_)
      | (with_reducible refine LeO.bind ?_ (fun _ => ?_))
      | exact ih0 _ _ _
      | exact loessref10_Bytes.mono _ _ _ _ _ _
      | exact loessref10_MayAll.mono _ _
      | exact loessref1_Put.mono _ _
      | exact LeO.none _
      | refine LeO.ite ?_ ?_
      | refine LeO.bind ?_ (fun _ => ?_)
set_option maxHeartbeats 8000000 in
set_option maxRecDepth 100000 in
theorem loessref10_Row.calls (k : Nat) (A0 : Option Addr) (c0 : Nat) (l0 : List (S38)) (r : List Int) (w : World) (hr0 : Kd.C k38 w A0 l0.length l0) (hc0 : l0.length ≤ c0) (h : loessref10_Row.f k l0 = some r) :
    Calls Try.prog 12 #[.slice A0 l0.length c0] w fun e w' => ∃ v0_ : Value, e = .returned (v0_) ∧ Kd.R (Kd.int .u8) 5 w' w.heap.size (fun _ => True) v0_ r ∧ Below w.heap.size w w' := by
  have hu38 := Try.underlying38
  have HR0 := Aside0.mk hr0
  have HC0 := Aside0.mk hc0
  clear hr0 hc0
  have HB := Aside0.mk (Below.refl w.heap.size w)
  have H : ((loessref10_MayAll.f k l0).bind fun t332 => (if t332 = true then ((loessref1_Put.f k (l0.length : Int)).bind fun t333 => (loessref10_Row.l0 k l0 t333 0)) else (some ([] : List Int)))) = some r := h
  clear h
  replace H := Option.bind_eq_some_iff.mp H
  obtain ⟨t332, A20, H⟩ := H
  replace H : (if t332 = true then ((loessref1_Put.f k (l0.length : Int)).bind fun t333 => (loessref10_Row.l0 k l0 t333 0)) else (some ([] : List Int))) = some r := H
  have A2 := Aside0.mk A20
  clear A20
  by_cases c3 : t332 = true
  · subst c3
    have H1 : ((loessref1_Put.f k (l0.length : Int)).bind fun t333 => (loessref10_Row.l0 k l0 t333 0)) = some r := by rw [if_pos rfl] at H; exact H
    clear H
    have H := H1
    clear H1
    replace H := Option.bind_eq_some_iff.mp H
    obtain ⟨t333, A40, H⟩ := H
    replace H : (loessref10_Row.l0 k l0 t333 0) = some r := H
    have A4 := Aside0.mk A40
    clear A40
    have H' := Aside0.mk H
    clear H
    go_enter Try.func12, Try.ntmps12
    go_wp2_with (first | ((with_reducible refine gate_callee (f := 11) rfl ?_); refine goesL_ (some 6) rfl rfl Try.func11 (by kernel_rfl) rfl #[.slice A0 l0.length c0] rfl (by (try simp only [List.map_toArray, List.map_cons, List.map_nil]); first | done | rfl | (simp only [List.length_drop, List.length_take]; rfl)) ?_; (with_reducible refine (loessref10_MayAll.calls k _ _ l0 true _ ?side1 ?side2 A2.out).mono ?_); (case side1 => repeat (first | exact HR0.out | (with_reducible refine Kd.C_alloc ?_ _) | (with_reducible refine Kd.C_drewN ?_ _) | (with_reducible refine Kd.C_drew ?_))); (case side2 => exact HC0.out); rintro e w5 ⟨rfl, hb⟩; refine ⟨_, rfl, ?_⟩; have n0_ := Aside0.mk (below_step (by repeat (first | (with_reducible first | exact HB.out | apply below_alloc | apply pw_below_drewN | apply below_drew1) | exact HB.out)) hb); clear HB; have HB := n0_; clear n0_; (try clear hb); (try clear hb2); (try clear hk); (try clear hi)) | ((with_reducible refine gate_callee (f := 25) rfl ?_); refine goesL_ (some 10) rfl rfl Try.func25 (by kernel_rfl) rfl #[.int .i64 (l0.length : Int)] rfl (by (try simp only [List.map_toArray, List.map_cons, List.map_nil]); first | done | rfl | (simp only [List.length_drop, List.length_take]; rfl)) ?_; (with_reducible refine (loessref1_Put.calls k (l0.length : Int) t333 _ A4.out).mono ?_); rintro e w6 ⟨v334, rfl, ho0, hb⟩; refine ⟨_, rfl, ?_⟩; have n0_ := Aside0.mk (Kd.R_lower ho0 (below_size (by repeat (first | (with_reducible first | exact HB.out | apply below_alloc | apply pw_below_drewN | apply below_drew1) | exact HB.out)))); have n1_ := Aside0.mk (below_step (by repeat (first | (with_reducible first | exact HB.out | apply below_alloc | apply pw_below_drewN | apply below_drew1) | exact HB.out)) hb); clear HB; have HO335 := n0_; have HB := n1_; clear n0_ n1_; (try clear hb); (try clear hb2); (try clear hk); (try clear hi); (try clear ho0)))
    go_loopg [3, 4] k (fun kq v3 v4 w' => ∃ (x3_1 : List Int) (x4_1 : Int), v4 = .int .i64 x4_1 ∧ Aside0 (loessref10_Row.l0 kq l0 x3_1 x4_1 = some r) ∧ Aside0 (kq ≤ k) ∧ Aside0 (Kd.R (Kd.int .u8) 5 w' w.heap.size (fun _ => True) v3 x3_1) ∧ Aside0 (Below w.heap.size w w'))
    case atStart => exact ⟨(t333), (0), (by first | rfl | (simp; done) | (simp [*]; done)), H', ⟨Nat.le_refl _⟩, ⟨by (with_reducible repeat (first | apply Kd.R_alloc | apply Kd.R_drewN | apply Kd.R_drew)); exact HO335.out⟩, ⟨by repeat (first | (with_reducible first | exact HB.out | apply below_alloc | apply pw_below_drewN | apply below_drew1) | exact HB.out)⟩⟩
    case round =>
      clear H'
      try clear c1
      try clear c2
      try clear p2
      try clear c3
      obtain ⟨x3_1, x4_1, rfl, HA, HK1, HO_3, HB⟩ := hrel
      cases gk with
      | zero => exact absurd HA.out (by simp [loessref10_Row.l0])
      | succ k1 =>
        have H := HA.out
        clear HA
        simp only [loessref10_Row.l0] at H
        by_cases c7 : x4_1 < (l0.length : Int)
        · rw [if_pos c7] at H
          have c7b0 : decide (x4_1 < (l0.length : Int)) = true := decide_eq_true c7
          clear c7
          by_cases c8 : 0 ≤ x4_1
          · rw [if_pos c8] at H
            have c8b0 : decide (0 ≤ x4_1) = true := decide_eq_true c8
            clear c8
            replace H := Option.bind_eq_some_iff.mp H
            obtain ⟨t337, A90, H⟩ := H
            replace H : (if x3_1.length + t337.length < 140737488355328 then (loessref10_Row.l0 k1 l0 (x3_1 ++ t337) (wrap64 (x4_1 + 1))) else (none)) = some r := H
            have A9 := Aside0.mk A90
            clear A90
            by_cases c10 : x3_1.length + t337.length < 140737488355328
            · rw [if_pos c10] at H
              have LMc10 := Aside0.mk c10
              clear c10
              obtain ⟨y340, hy340⟩ : ∃ y_ : List Int, y_ = (x3_1 ++ t337) := ⟨_, rfl⟩
              replace H : (loessref10_Row.l0 k1 l0 y340 (wrap64 (x4_1 + 1))) = some r := by first | (rw [hy340]; with_reducible exact H) | (have H2_ := (Option.bind_some _ _).symm.trans H; rw [hy340]; with_reducible exact H2_) | (have H2_ := (Option.bind_some _ _).symm.trans H; with_reducible exact H2_) | with_reducible exact H | (rw [hy340]; exact H) | exact H
              have Ny340 := Aside0.mk hy340
              clear hy340
              have H' := Aside0.mk H
              clear H
              have p336 : 0 ≤ (x4_1 : Int) := of_decide_eq_true (by first | (with_reducible assumption) | assumption)
              have q336 : x4_1 < (l0.length : Int) := of_decide_eq_true (by first | (with_reducible assumption) | assumption)
              obtain ⟨ad336, e336, hx336_0, hx336_1, hx336_2, hx336_3, hx336_4⟩ := at_T38 HR0.out x4_1 p336 q336
              cases e336
              replace hx336_0 := (HB.out.cell (World.block_lt_of_cell? w _ hx336_0)).trans hx336_0
              replace hx336_1 := (HB.out.cell (World.block_lt_of_cell? w _ hx336_1)).trans hx336_1
              replace hx336_2 := (HB.out.cell (World.block_lt_of_cell? w _ hx336_2)).trans hx336_2
              replace hx336_3 := (HB.out.cell (World.block_lt_of_cell? w _ hx336_3)).trans hx336_3
              replace hx336_4 := (HB.out.cell (World.block_lt_of_cell? w _ hx336_4)).trans hx336_4
              replace p336 := eq_true p336
              replace q336 := eq_true q336
              go_wp2_with (first | ((with_reducible refine gate_callee (f := 26) rfl ?_); refine goesL_ (some 22) rfl rfl Try.func26 (by kernel_rfl) rfl #[.agg #[.string ((rd_T38 l0 x4_1).f0), .bool ((rd_T38 l0 x4_1).f1), .int .i64 ((rd_T38 l0 x4_1).f2.f0), .int .i64 ((rd_T38 l0 x4_1).f2.f1), .string ((rd_T38 l0 x4_1).f2.f2)]] rfl (by (try simp only [List.map_toArray, List.map_cons, List.map_nil]); first | done | rfl | (simp only [List.length_drop, List.length_take]; rfl)) ?_; (with_reducible refine (loessref10_Bytes.calls k1 ((rd_T38 l0 x4_1).f0) ((rd_T38 l0 x4_1).f1) ((rd_T38 l0 x4_1).f2.f0) ((rd_T38 l0 x4_1).f2.f1) ((rd_T38 l0 x4_1).f2.f2) t337 _ A9.out).mono ?_); rintro e w11 ⟨v338, rfl, ho0, hb⟩; refine ⟨_, rfl, ?_⟩; have n0_ := Aside0.mk (Kd.R_elder' (by (with_reducible repeat (first | apply Kd.R_alloc | apply Kd.R_drewN | apply Kd.R_drew)); exact HO_3.out) (Kd.R_base ho0) hb); have n1_ := Aside0.mk (Kd.R_lower (Kd.R_new' ho0 (Kd.R_lt (by (with_reducible repeat (first | apply Kd.R_alloc | apply Kd.R_drewN | apply Kd.R_drew)); exact HO_3.out))) (below_size (by repeat (first | (with_reducible first | exact HB.out | apply below_alloc | apply pw_below_drewN | apply below_drew1) | exact HB.out)))); have n2_ := Aside0.mk (below_step (by repeat (first | (with_reducible first | exact HB.out | apply below_alloc | apply pw_below_drewN | apply below_drew1) | exact HB.out)) hb); clear HO_3; clear HB; have HO_3 := n0_; have HO339 := n1_; have HB := n2_; clear n0_ n1_ n2_; (try clear hb); (try clear hb2); (try clear hk); (try clear hi); (try clear ho0); obtain ⟨Ao13, co13, eo13⟩ := Kd.R_slice HO339.out; subst eo13) | ((with_reducible refine gate_builtin (b := .append) (xs := #[.tmp 17, .tmp 22]) rfl ?_); at_builtin; refine Kd.R_append_rows (Kd.int .u8) (w0 := w) w.heap.size rfl (.tmp 17) (.tmp 22) 25 5 (.int .u8 0) 1 rfl Try.underlying25 info5 rfl (by decide) (by omega) u3 x3_1 t337 _ _ _ (fun k_ => some k_ ≠ (.slice Ao13 t337.length co13 : Value).ownBlock) (fun _ => False) rfl rfl ?aO ?aR (fun _ _ h => h) (fun _ h => h.elim) ?aF ?aB ?aS ?aL ?_; (case aR => repeat (first | exact (Kd.R_reads' HO339.out).2.2 | (with_reducible refine Kd.C_alloc ?_ _) | (with_reducible refine Kd.C_drewN ?_ _) | (with_reducible refine Kd.C_drew ?_))); (case aB => exact (by repeat (first | (with_reducible first | exact HB.out | apply below_alloc | apply pw_below_drewN | apply below_drew1) | exact HB.out))); (case aF => exact (fun k_ hk => Kd.fresh' (Kd.R_lt (by (with_reducible repeat (first | apply Kd.R_alloc | apply Kd.R_drewN | apply Kd.R_drew)); exact HO339.out)) k_ hk)); (case aO => exact (by (with_reducible repeat (first | apply Kd.R_alloc | apply Kd.R_drewN | apply Kd.R_drew)); exact Kd.R_mono HO_3.out (fun _ hk => hk.2))); (case aS => exact (below_size (by repeat (first | (with_reducible first | exact HB.out | apply below_alloc | apply pw_below_drewN | apply below_drew1) | exact HB.out)))); (case aL => have := LMc10.out; omega); intro v341 w12 ho hb hg hat; rw [← Ny340.out] at ho; have n0_ := Aside0.mk (Kd.R_after (ok := (fun _ => True)) (by (with_reducible repeat (first | apply Kd.R_alloc | apply Kd.R_drewN | apply Kd.R_drew)); exact HO339.out) hg hat); have n1_ := Aside0.mk (hb); have n2_ := Aside0.mk (ho); clear HO339; clear HB; clear HO_3; have HO339 := n0_; have HB := n1_; have HO342 := n2_; clear n0_ n1_ n2_; clear ho hb hg hat))
              go_roundg k1
              case measure => have := HK1.out; omega
              case rel => exact ⟨(y340), (wrap64 (x4_1 + 1)), (by first | rfl | (simp; done) | (simp [*]; done)), H', ⟨by have := HK1.out; omega⟩, ⟨by (with_reducible repeat (first | apply Kd.R_alloc | apply Kd.R_drewN | apply Kd.R_drew)); exact Kd.R_mono HO342.out (fun _ hk => trivial)⟩, ⟨by repeat (first | (with_reducible first | exact HB.out | apply below_alloc | apply pw_below_drewN | apply below_drew1) | exact HB.out)⟩⟩
            · rw [if_neg c10] at H
              exact absurd H (by simp)
          · rw [if_neg c8] at H
            exact absurd H (by simp)
        · rw [if_neg c7] at H
          have c7b0 : decide (x4_1 < (l0.length : Int)) = false := decide_eq_false c7
          clear c7
          obtain rfl := Option.some.inj H
          go_wp2
          go_ret
          exact ⟨_, by first | rfl | (simp [errW_none, errW_some] <;> rfl) | (simp [*, errW_none, errW_some] <;> rfl), by (with_reducible repeat (first | apply Kd.R_alloc | apply Kd.R_drewN | apply Kd.R_drew)); exact HO_3.out, by repeat (first | (with_reducible first | exact HB.out | apply below_alloc | apply pw_below_drewN | apply below_drew1) | exact HB.out)⟩
  · replace c3 := Bool.eq_false_iff.mpr c3
    subst c3
    have H1 : (some ([] : List Int)) = some r := by rw [if_neg (show ¬ (false = true) by decide)] at H; exact H
    clear H
    have H := H1
    clear H1
    obtain rfl := Option.some.inj H
    go_enter Try.func12, Try.ntmps12
    go_wp2_with (first | ((with_reducible refine gate_callee (f := 11) rfl ?_); refine goesL_ (some 6) rfl rfl Try.func11 (by kernel_rfl) rfl #[.slice A0 l0.length c0] rfl (by (try simp only [List.map_toArray, List.map_cons, List.map_nil]); first | done | rfl | (simp only [List.length_drop, List.length_take]; rfl)) ?_; (with_reducible refine (loessref10_MayAll.calls k _ _ l0 false _ ?side1 ?side2 A2.out).mono ?_); (case side1 => repeat (first | exact HR0.out | (with_reducible refine Kd.C_alloc ?_ _) | (with_reducible refine Kd.C_drewN ?_ _) | (with_reducible refine Kd.C_drew ?_))); (case side2 => exact HC0.out); rintro e w14 ⟨rfl, hb⟩; refine ⟨_, rfl, ?_⟩; have n0_ := Aside0.mk (below_step (by repeat (first | (with_reducible first | exact HB.out | apply below_alloc | apply pw_below_drewN | apply below_drew1) | exact HB.out)) hb); clear HB; have HB := n0_; clear n0_; (try clear hb); (try clear hb2); (try clear hk); (try clear hi)))
    go_ret
    exact ⟨_, by first | rfl | (simp [errW_none, errW_some] <;> rfl) | (simp [*, errW_none, errW_some] <;> rfl), by first | exact Kd.R_nil _ _ _ _ _ | exact Kd.N_nil _ _ _ _ _ | exact Kd.V_nil _ _ _ _ _ | exact Kd.Q_nil _ _ _ _ _ | exact Kd.S_nil _ _ _ _ _, by repeat (first | (with_reducible first | exact HB.out | apply below_alloc | apply pw_below_drewN | apply below_drew1) | exact HB.out)⟩

end Go.Proofs.Ytbogcnfmdakdmaa.XBat

-- Written by wip/xprint.py, this session's wrapper round the kit's print program. Not trusted: Lean checks it.
namespace Go.Proofs.Ytbogcnfmdakdmaa.XBat
open Go.RowKit Go.Proofs.Ytbogcnfmdakdmaa.G Go.Proofs.YtbogcnfmdakdmaaW.PrintWords Go.Proofs.YtbogcnfmdakdmaaW.PrintLast Go.Proofs.YtbogcnfmdakdmaaW.PrintMore
attribute [local go_sem] max2_int min2_int max_two min_two max_three min_three max_four min_four   -- for this text's walks alone
set_option linter.unusedVariables false
set_option linter.unusedSimpArgs false

/-! ### loessref10_EqRecs: function 14 -/
def loessref10_EqRecs.l0 : Nat → List (S38) → List (S38) → Int → Option (Bool)
  | 0, _, _, _ => none
  | k + 1, x0, x1, x5 => if x5 < (x0.length : Int) then (if 0 ≤ x5 then (if x5 < (x1.length : Int) then ((loessref10_Eq.f ((rd_T38 x0 x5).f0) ((rd_T38 x0 x5).f1) ((rd_T38 x0 x5).f2.f0) ((rd_T38 x0 x5).f2.f1) ((rd_T38 x0 x5).f2.f2) ((rd_T38 x1 x5).f0) ((rd_T38 x1 x5).f1) ((rd_T38 x1 x5).f2.f0) ((rd_T38 x1 x5).f2.f1) ((rd_T38 x1 x5).f2.f2)).bind fun t350 => (if t350 = true then (loessref10_EqRecs.l0 k x0 x1 (wrap64 (x5 + 1))) else (some false))) else (none)) else (none)) else (some true)
def loessref10_EqRecs.f (k : Nat) (l0 : List (S38)) (l1 : List (S38)) : Option (Bool) := if (l0.length : Int) = (l1.length : Int) then (loessref10_EqRecs.l0 k l0 l1 0) else (some false)
theorem loessref10_EqRecs.mono_l : ∀ k, (∀ y0 y1 y2, LeO (loessref10_EqRecs.l0 k y0 y1 y2) (loessref10_EqRecs.l0 (k + 1) y0 y1 y2))
  | 0 => fun _ _ _ r h => by simp [loessref10_EqRecs.l0] at h
  | k + 1 => by
    have ih0 := loessref10_EqRecs.mono_l k
    · intro y0 y1 y2
      unfold loessref10_EqRecs.l0
      repeat' first
      | (with_reducible exact ih0 _ _ _)
      | (with_reducible exact LeO.refl _)
      | (with_reducible exact LeO.none _)
      | (with_reducible refine LeO.ite ?_ ?_)
      | (with_reducible refine LeO.bind ?_ (fun _ => ?_))
      | exact ih0 _ _ _
      | exact LeO.none _
      | refine LeO.ite ?_ ?_
      | refine LeO.bind ?_ (fun _ => ?_)
theorem loessref10_EqRecs.mono : ∀ a0 a1 k, LeO (loessref10_EqRecs.f k a0 a1) (loessref10_EqRecs.f (k + 1) a0 a1) := by
  intro a0 a1 k
  have ih0 := loessref10_EqRecs.mono_l k
  unfold loessref10_EqRecs.f
  repeat' first
      | (with_reducible exact ih0 _ _ _)
      | (with_reducible exact LeO.refl _)
      | (with_reducible exact LeO.none _)
      | (with_reducible refine LeO.ite ?_ ?_)
      | (with_reducible refine LeO.bind ?_ (fun _ => ?_))
      | exact ih0 _ _ _
      | exact LeO.none _
      | refine LeO.ite ?_ ?_
      | refine LeO.bind ?_ (fun _ => ?_)
def loessref10_EqRecs.T6 : Bool × List (List Nat × List Nat) := (true, [([], []), ([], []), ([0, 1], [0, 1]), ([2], [2]), ([], []), ([], []), ([4, 5], [4, 5]), ([6], [6]), ([3, 7], [3, 7]), ([8], [8])])
def loessref10_EqRecs.B6 : List Nat := [0, 0, 3, 7, 0, 0, 48, 112, 255, 511]
theorem loessref10_EqRecs.tab6 : rtab .any (opsOf Try.f14 6) = loessref10_EqRecs.T6 := by kernel_rfl
theorem loessref10_EqRecs.bits6 : waitsOk loessref10_EqRecs.T6.2 loessref10_EqRecs.B6 = true := by kernel_rfl
set_option maxHeartbeats 8000000 in
set_option maxRecDepth 100000 in
theorem loessref10_EqRecs.calls (k : Nat) (A0 : Option Addr) (c0 : Nat) (l0 : List (S38)) (A1 : Option Addr) (c1 : Nat) (l1 : List (S38)) (r : Bool) (w : World) (hr0 : Kd.C k38 w A0 l0.length l0) (hc0 : l0.length ≤ c0) (hr1 : Kd.C k38 w A1 l1.length l1) (hc1 : l1.length ≤ c1) (h : loessref10_EqRecs.f k l0 l1 = some r) :
    Calls Try.prog 14 #[.slice A0 l0.length c0, .slice A1 l1.length c1] w fun e w' => e = .returned (.bool r) ∧ Below w.heap.size w w' := by
  have hu38 := Try.underlying38
  have HR0 := Aside0.mk hr0
  have HC0 := Aside0.mk hc0
  clear hr0 hc0
  have HR1 := Aside0.mk hr1
  have HC1 := Aside0.mk hc1
  clear hr1 hc1
  have HB := Aside0.mk (Below.refl w.heap.size w)
  have H : (if (l0.length : Int) = (l1.length : Int) then (loessref10_EqRecs.l0 k l0 l1 0) else (some false)) = some r := h
  clear h
  by_cases c3 : (l0.length : Int) = (l1.length : Int)
  · rw [if_pos c3] at H
    have c3b0 : ((l0.length : Int) == (l1.length : Int)) = true := beq_iff_eq.mpr c3
    have c3b1 : ((l0.length : Int) != (l1.length : Int)) = false := bne_eq_false_iff_eq.mpr c3
    have c3b2 : (l0.length == l1.length) = true := by first | simpa using c3 | (simp at c3 ⊢; omega)
    clear c3
    have H' := Aside0.mk H
    clear H
    go_enter Try.func14, Try.ntmps14
    go_wp2
    go_loopg [5] k (fun kq v5 w' => ∃ (x5_1 : Int), v5 = .int .i64 x5_1 ∧ Aside0 (loessref10_EqRecs.l0 kq l0 l1 x5_1 = some r) ∧ Aside0 (kq ≤ k) ∧ Aside0 (Below w.heap.size w w'))
    case atStart => exact ⟨(0), (by first | rfl | (simp; done) | (simp [*]; done)), H', ⟨Nat.le_refl _⟩, ⟨by repeat (first | (with_reducible first | exact HB.out | apply below_alloc | apply pw_below_drewN | apply below_drew1) | exact HB.out)⟩⟩
    case round =>
      clear H'
      try clear c1
      try clear p2
      try clear c3
      try clear c3b0
      try clear c3b1
      try clear c3b2
      obtain ⟨x5_1, rfl, HA, HK1, HB⟩ := hrel
      cases gk with
      | zero => exact absurd HA.out (by simp [loessref10_EqRecs.l0])
      | succ k1 =>
        have H := HA.out
        clear HA
        simp only [loessref10_EqRecs.l0] at H
        by_cases c4 : x5_1 < (l0.length : Int)
        · rw [if_pos c4] at H
          have c4b0 : decide (x5_1 < (l0.length : Int)) = true := decide_eq_true c4
          clear c4
          by_cases c5 : 0 ≤ x5_1
          · rw [if_pos c5] at H
            have c5b0 : decide (0 ≤ x5_1) = true := decide_eq_true c5
            clear c5
            by_cases c6 : x5_1 < (l1.length : Int)
            · rw [if_pos c6] at H
              have c6b0 : decide (x5_1 < (l1.length : Int)) = true := decide_eq_true c6
              clear c6
              replace H := Option.bind_eq_some_iff.mp H
              obtain ⟨t350, A70, H⟩ := H
              replace H : (if t350 = true then (loessref10_EqRecs.l0 k1 l0 l1 (wrap64 (x5_1 + 1))) else (some false)) = some r := H
              have A7 := Aside0.mk A70
              clear A70
              by_cases c8 : t350 = true
              · subst c8
                have H1 : (loessref10_EqRecs.l0 k1 l0 l1 (wrap64 (x5_1 + 1))) = some r := by rw [if_pos rfl] at H; exact H
                clear H
                have H := H1
                clear H1
                have H' := Aside0.mk H
                clear H
                try go_wp2
                have n0_ := Aside0.mk (below_drew1 HB.out)
                clear HB
                have HB := n0_
                clear n0_
                have p348 : 0 ≤ (x5_1 : Int) := of_decide_eq_true (by first | (with_reducible assumption) | assumption)
                have q348 : x5_1 < (l0.length : Int) := of_decide_eq_true (by first | (with_reducible assumption) | assumption)
                obtain ⟨ad348, e348, hx348_0, hx348_1, hx348_2, hx348_3, hx348_4⟩ := at_T38 HR0.out x5_1 p348 q348
                have hw348_4 := hx348_4
                have hw348_3 := hx348_3
                have hw348_2 := hx348_2
                have hw348_1 := hx348_1
                have hw348_0 := hx348_0
                cases e348
                replace hx348_0 := (HB.out.cell (World.block_lt_of_cell? w _ hx348_0)).trans hx348_0
                replace hx348_1 := (HB.out.cell (World.block_lt_of_cell? w _ hx348_1)).trans hx348_1
                replace hx348_2 := (HB.out.cell (World.block_lt_of_cell? w _ hx348_2)).trans hx348_2
                replace hx348_3 := (HB.out.cell (World.block_lt_of_cell? w _ hx348_3)).trans hx348_3
                replace hx348_4 := (HB.out.cell (World.block_lt_of_cell? w _ hx348_4)).trans hx348_4
                replace p348 := eq_true p348
                replace q348 := eq_true q348
                have p349 : 0 ≤ (x5_1 : Int) := of_decide_eq_true (by first | (with_reducible assumption) | assumption)
                have q349 : x5_1 < (l1.length : Int) := of_decide_eq_true (by first | (with_reducible assumption) | assumption)
                obtain ⟨ad349, e349, hx349_0, hx349_1, hx349_2, hx349_3, hx349_4⟩ := at_T38 HR1.out x5_1 p349 q349
                have hw349_4 := hx349_4
                have hw349_3 := hx349_3
                have hw349_2 := hx349_2
                have hw349_1 := hx349_1
                have hw349_0 := hx349_0
                cases e349
                replace hx349_0 := (HB.out.cell (World.block_lt_of_cell? w _ hx349_0)).trans hx349_0
                replace hx349_1 := (HB.out.cell (World.block_lt_of_cell? w _ hx349_1)).trans hx349_1
                replace hx349_2 := (HB.out.cell (World.block_lt_of_cell? w _ hx349_2)).trans hx349_2
                replace hx349_3 := (HB.out.cell (World.block_lt_of_cell? w _ hx349_3)).trans hx349_3
                replace hx349_4 := (HB.out.cell (World.block_lt_of_cell? w _ hx349_4)).trans hx349_4
                replace p349 := eq_true p349
                replace q349 := eq_true q349
                refine start_ (n := 10) (S := fun w' => w'.cell? (ad348.add ((x5_1).toNat * 5)) = some (.string ((rd_T38 l0 x5_1).f0)) ∧ w'.cell? ⟨(ad348.add ((x5_1).toNat * 5)).block, (ad348.add ((x5_1).toNat * 5)).off + 1, none⟩ = some (.bool ((rd_T38 l0 x5_1).f1)) ∧ w'.cell? ⟨(ad348.add ((x5_1).toNat * 5)).block, (ad348.add ((x5_1).toNat * 5)).off + 2, none⟩ = some (.int .i64 ((rd_T38 l0 x5_1).f2.f0)) ∧ w'.cell? ⟨(ad348.add ((x5_1).toNat * 5)).block, (ad348.add ((x5_1).toNat * 5)).off + 3, none⟩ = some (.int .i64 ((rd_T38 l0 x5_1).f2.f1)) ∧ w'.cell? ⟨(ad348.add ((x5_1).toNat * 5)).block, (ad348.add ((x5_1).toNat * 5)).off + 4, none⟩ = some (.string ((rd_T38 l0 x5_1).f2.f2)) ∧ w'.cell? (ad349.add ((x5_1).toNat * 5)) = some (.string ((rd_T38 l1 x5_1).f0)) ∧ w'.cell? ⟨(ad349.add ((x5_1).toNat * 5)).block, (ad349.add ((x5_1).toNat * 5)).off + 1, none⟩ = some (.bool ((rd_T38 l1 x5_1).f1)) ∧ w'.cell? ⟨(ad349.add ((x5_1).toNat * 5)).block, (ad349.add ((x5_1).toNat * 5)).off + 2, none⟩ = some (.int .i64 ((rd_T38 l1 x5_1).f2.f0)) ∧ w'.cell? ⟨(ad349.add ((x5_1).toNat * 5)).block, (ad349.add ((x5_1).toNat * 5)).off + 3, none⟩ = some (.int .i64 ((rd_T38 l1 x5_1).f2.f1)) ∧ w'.cell? ⟨(ad349.add ((x5_1).toNat * 5)).block, (ad349.add ((x5_1).toNat * 5)).off + 4, none⟩ = some (.string ((rd_T38 l1 x5_1).f2.f2))) (ds := []) #[false, false, false, false, false, false, false, false, false, false] (by kernel_rfl) rfl rfl ⟨((HB.out.cell (World.block_lt_of_cell? w _ hw348_0)).trans hw348_0), ((HB.out.cell (World.block_lt_of_cell? w _ hw348_1)).trans hw348_1), ((HB.out.cell (World.block_lt_of_cell? w _ hw348_2)).trans hw348_2), ((HB.out.cell (World.block_lt_of_cell? w _ hw348_3)).trans hw348_3), ((HB.out.cell (World.block_lt_of_cell? w _ hw348_4)).trans hw348_4), ((HB.out.cell (World.block_lt_of_cell? w _ hw349_0)).trans hw349_0), ((HB.out.cell (World.block_lt_of_cell? w _ hw349_1)).trans hw349_1), ((HB.out.cell (World.block_lt_of_cell? w _ hw349_2)).trans hw349_2), ((HB.out.cell (World.block_lt_of_cell? w _ hw349_3)).trans hw349_3), ((HB.out.cell (World.block_lt_of_cell? w _ hw349_4)).trans hw349_4)⟩ (fun hHeld => ?_); refine with_tabW loessref10_EqRecs.tab6 loessref10_EqRecs.bits6 (fun HT_ HW_ => ?_)
                generalize wr.drew = w9 at HB hx348_0 hx348_1 hx348_2 hx348_3 hx348_4 hx349_0 hx349_1 hx349_2 hx349_3 hx349_4 hHeld ⊢
                refine pure_ (i := 0) (N := some 17) (v := ?_) (a' := ?_) #[true, false, false, false, false, false, false, false, false, false] rfl rfl (any_of HT_.out (by kernel_rfl)) (fun _ _ _ h => h) (Or.inl ⟨by rfl, ?_⟩) ?_ ?_
                rotate_left
                · intro w'
                  go_simp
                  with_reducible rfl
                rotate_left
                · simp only [Act.put, List.setIfInBounds_toArray, List.set_cons_zero, List.set_cons_succ, i64_w, i32_w]
                  rfl
                refine pure_ (i := 1) (N := some 18) (v := ?_) (a' := ?_) #[true, true, false, false, false, false, false, false, false, false] rfl rfl (any_of HT_.out (by kernel_rfl)) (fun _ _ _ h => h) (Or.inl ⟨by rfl, ?_⟩) ?_ ?_
                rotate_left
                · intro w'
                  go_simp
                  with_reducible rfl
                rotate_left
                · simp only [Act.put, List.setIfInBounds_toArray, List.set_cons_zero, List.set_cons_succ, i64_w, i32_w]
                  rfl
                refine pure_ (i := 2) (N := some 19) (v := ?_) (a' := ?_) #[true, true, true, false, false, false, false, false, false, false] rfl rfl (any_of HT_.out (by kernel_rfl)) (fun _ _ _ h => h) (Or.inl ⟨by rfl, ?_⟩) ?_ ?_
                rotate_left
                · intro w'
                  go_simp
                  with_reducible rfl
                rotate_left
                · simp only [Act.put, List.setIfInBounds_toArray, List.set_cons_zero, List.set_cons_succ, i64_w, i32_w]
                  rfl
                refine pure_ (i := 4) (N := some 21) (v := ?_) (a' := ?_) #[true, true, true, false, true, false, false, false, false, false] rfl rfl (any_of HT_.out (by kernel_rfl)) (fun _ _ _ h => h) (Or.inl ⟨by rfl, ?_⟩) ?_ ?_
                rotate_left
                · intro w'
                  go_simp
                  with_reducible rfl
                rotate_left
                · simp only [Act.put, List.setIfInBounds_toArray, List.set_cons_zero, List.set_cons_succ, i64_w, i32_w]
                  rfl
                refine pure_ (i := 5) (N := some 22) (v := ?_) (a' := ?_) #[true, true, true, false, true, true, false, false, false, false] rfl rfl (any_of HT_.out (by kernel_rfl)) (fun _ _ _ h => h) (Or.inl ⟨by rfl, ?_⟩) ?_ ?_
                rotate_left
                · intro w'
                  go_simp
                  with_reducible rfl
                rotate_left
                · simp only [Act.put, List.setIfInBounds_toArray, List.set_cons_zero, List.set_cons_succ, i64_w, i32_w]
                  rfl
                refine pure_ (i := 6) (N := some 23) (v := ?_) (a' := ?_) #[true, true, true, false, true, true, true, false, false, false] rfl rfl (any_of HT_.out (by kernel_rfl)) (fun _ _ _ h => h) (Or.inl ⟨by rfl, ?_⟩) ?_ ?_
                rotate_left
                · intro w'
                  go_simp
                  with_reducible rfl
                rotate_left
                · simp only [Act.put, List.setIfInBounds_toArray, List.set_cons_zero, List.set_cons_succ, i64_w, i32_w]
                  rfl
                refine take_ (i := 3) (N := some 20) (v := ?_) (a' := ?_) #[true, true, true, true, true, true, true, false, false, false] rfl rfl (take_ofW HT_.out HW_.out (by kernel_rfl)) (fun _ _ _ h => h) (Or.inl ⟨by rfl, ?_⟩) hHeld ?_ ?_
                rotate_left
                · rintro w' ⟨s0, s1, s2, s3, s4, s5, s6, s7, s8, s9⟩
                  go_simp
                  with_reducible rfl
                rotate_left
                · simp only [Act.put, List.setIfInBounds_toArray, List.set_cons_zero, List.set_cons_succ, i64_w, i32_w]
                  rfl
                refine take_ (i := 7) (N := some 24) (v := ?_) (a' := ?_) #[true, true, true, true, true, true, true, true, false, false] rfl rfl (take_ofW HT_.out HW_.out (by kernel_rfl)) (fun _ _ _ h => h) (Or.inl ⟨by rfl, ?_⟩) hHeld ?_ ?_
                rotate_left
                · rintro w' ⟨s0, s1, s2, s3, s4, s5, s6, s7, s8, s9⟩
                  go_simp
                  with_reducible rfl
                rotate_left
                · simp only [Act.put, List.setIfInBounds_toArray, List.set_cons_zero, List.set_cons_succ, i64_w, i32_w]
                  rfl
                refine one_ (i := 8) (N := some 25) #[true, true, true, true, true, true, true, true, true, false] rfl rfl (one_of HT_.out (by kernel_rfl)) (by decide) (fun K hK => ?_)
                refine goes_ Try.func29 (by kernel_rfl) rfl #[.agg #[.string ((rd_T38 l0 x5_1).f0), .bool ((rd_T38 l0 x5_1).f1), .int .i64 ((rd_T38 l0 x5_1).f2.f0), .int .i64 ((rd_T38 l0 x5_1).f2.f1), .string ((rd_T38 l0 x5_1).f2.f2)], .agg #[.string ((rd_T38 l1 x5_1).f0), .bool ((rd_T38 l1 x5_1).f1), .int .i64 ((rd_T38 l1 x5_1).f2.f0), .int .i64 ((rd_T38 l1 x5_1).f2.f1), .string ((rd_T38 l1 x5_1).f2.f2)]] (by rfl) rfl rfl (by (try simp only [List.map_toArray, List.map_cons, List.map_nil]); first | done | rfl | (simp only [List.length_drop, List.length_take]; rfl)) ?_
                with_reducible refine (loessref10_Eq.calls ((rd_T38 l0 x5_1).f0) ((rd_T38 l0 x5_1).f1) ((rd_T38 l0 x5_1).f2.f0) ((rd_T38 l0 x5_1).f2.f1) ((rd_T38 l0 x5_1).f2.f2) ((rd_T38 l1 x5_1).f0) ((rd_T38 l1 x5_1).f1) ((rd_T38 l1 x5_1).f2.f0) ((rd_T38 l1 x5_1).f2.f1) ((rd_T38 l1 x5_1).f2.f2) true _ A7.out).mono ?_
                rintro e w10 ⟨rfl, hb⟩
                refine ⟨_, rfl, ?_⟩
                have n0_ := Aside0.mk (below_step (by repeat (first | (with_reducible first | exact HB.out | apply below_alloc | apply pw_below_drewN | apply below_drew1) | exact HB.out)) hb)
                clear HB
                have HB := n0_
                clear n0_
                (try clear hb)
                (try clear hb2)
                (try clear hk)
                (try clear hi)
                refine hK.out _ _ ⟨((HB.out.cell (World.block_lt_of_cell? w _ hw348_0)).trans hw348_0), ((HB.out.cell (World.block_lt_of_cell? w _ hw348_1)).trans hw348_1), ((HB.out.cell (World.block_lt_of_cell? w _ hw348_2)).trans hw348_2), ((HB.out.cell (World.block_lt_of_cell? w _ hw348_3)).trans hw348_3), ((HB.out.cell (World.block_lt_of_cell? w _ hw348_4)).trans hw348_4), ((HB.out.cell (World.block_lt_of_cell? w _ hw349_0)).trans hw349_0), ((HB.out.cell (World.block_lt_of_cell? w _ hw349_1)).trans hw349_1), ((HB.out.cell (World.block_lt_of_cell? w _ hw349_2)).trans hw349_2), ((HB.out.cell (World.block_lt_of_cell? w _ hw349_3)).trans hw349_3), ((HB.out.cell (World.block_lt_of_cell? w _ hw349_4)).trans hw349_4)⟩ (fun hHeld => ?_)
                clear hK K
                refine norm_ (a' := ?_) ?_ ?_
                rotate_left
                · show Act.put _ (some 25) _ = _
                  simp only [Act.put, List.setIfInBounds_toArray, List.set_cons_zero, List.set_cons_succ, i64_w, i32_w]
                  rfl
                refine pure_ (i := 9) (N := some 26) (v := ?_) (a' := ?_) #[true, true, true, true, true, true, true, true, true, true] rfl rfl (any_of HT_.out (by kernel_rfl)) (fun _ _ _ h => h) (Or.inl ⟨by rfl, ?_⟩) ?_ ?_
                rotate_left
                · intro w'
                  go_simp
                  with_reducible rfl
                rotate_left
                · simp only [Act.put, List.setIfInBounds_toArray, List.set_cons_zero, List.set_cons_succ, i64_w, i32_w]
                  rfl
                refine done_ (done_of HT_.out (by kernel_rfl)) ?_
                try go_wp2
                go_roundg k1
                case measure => have := HK1.out; omega
                case rel => exact ⟨(wrap64 (x5_1 + 1)), (by first | rfl | (simp; done) | (simp [*]; done)), H', ⟨by have := HK1.out; omega⟩, ⟨by repeat (first | (with_reducible first | exact HB.out | apply below_alloc | apply pw_below_drewN | apply below_drew1) | exact HB.out)⟩⟩
              · replace c8 := Bool.eq_false_iff.mpr c8
                subst c8
                have H1 : (some false) = some r := by rw [if_neg (show ¬ (false = true) by decide)] at H; exact H
                clear H
                have H := H1
                clear H1
                obtain rfl := Option.some.inj H
                try go_wp2
                have n0_ := Aside0.mk (below_drew1 HB.out)
                clear HB
                have HB := n0_
                clear n0_
                have p348 : 0 ≤ (x5_1 : Int) := of_decide_eq_true (by first | (with_reducible assumption) | assumption)
                have q348 : x5_1 < (l0.length : Int) := of_decide_eq_true (by first | (with_reducible assumption) | assumption)
                obtain ⟨ad348, e348, hx348_0, hx348_1, hx348_2, hx348_3, hx348_4⟩ := at_T38 HR0.out x5_1 p348 q348
                have hw348_4 := hx348_4
                have hw348_3 := hx348_3
                have hw348_2 := hx348_2
                have hw348_1 := hx348_1
                have hw348_0 := hx348_0
                cases e348
                replace hx348_0 := (HB.out.cell (World.block_lt_of_cell? w _ hx348_0)).trans hx348_0
                replace hx348_1 := (HB.out.cell (World.block_lt_of_cell? w _ hx348_1)).trans hx348_1
                replace hx348_2 := (HB.out.cell (World.block_lt_of_cell? w _ hx348_2)).trans hx348_2
                replace hx348_3 := (HB.out.cell (World.block_lt_of_cell? w _ hx348_3)).trans hx348_3
                replace hx348_4 := (HB.out.cell (World.block_lt_of_cell? w _ hx348_4)).trans hx348_4
                replace p348 := eq_true p348
                replace q348 := eq_true q348
                have p349 : 0 ≤ (x5_1 : Int) := of_decide_eq_true (by first | (with_reducible assumption) | assumption)
                have q349 : x5_1 < (l1.length : Int) := of_decide_eq_true (by first | (with_reducible assumption) | assumption)
                obtain ⟨ad349, e349, hx349_0, hx349_1, hx349_2, hx349_3, hx349_4⟩ := at_T38 HR1.out x5_1 p349 q349
                have hw349_4 := hx349_4
                have hw349_3 := hx349_3
                have hw349_2 := hx349_2
                have hw349_1 := hx349_1
                have hw349_0 := hx349_0
                cases e349
                replace hx349_0 := (HB.out.cell (World.block_lt_of_cell? w _ hx349_0)).trans hx349_0
                replace hx349_1 := (HB.out.cell (World.block_lt_of_cell? w _ hx349_1)).trans hx349_1
                replace hx349_2 := (HB.out.cell (World.block_lt_of_cell? w _ hx349_2)).trans hx349_2
                replace hx349_3 := (HB.out.cell (World.block_lt_of_cell? w _ hx349_3)).trans hx349_3
                replace hx349_4 := (HB.out.cell (World.block_lt_of_cell? w _ hx349_4)).trans hx349_4
                replace p349 := eq_true p349
                replace q349 := eq_true q349
                refine start_ (n := 10) (S := fun w' => w'.cell? (ad348.add ((x5_1).toNat * 5)) = some (.string ((rd_T38 l0 x5_1).f0)) ∧ w'.cell? ⟨(ad348.add ((x5_1).toNat * 5)).block, (ad348.add ((x5_1).toNat * 5)).off + 1, none⟩ = some (.bool ((rd_T38 l0 x5_1).f1)) ∧ w'.cell? ⟨(ad348.add ((x5_1).toNat * 5)).block, (ad348.add ((x5_1).toNat * 5)).off + 2, none⟩ = some (.int .i64 ((rd_T38 l0 x5_1).f2.f0)) ∧ w'.cell? ⟨(ad348.add ((x5_1).toNat * 5)).block, (ad348.add ((x5_1).toNat * 5)).off + 3, none⟩ = some (.int .i64 ((rd_T38 l0 x5_1).f2.f1)) ∧ w'.cell? ⟨(ad348.add ((x5_1).toNat * 5)).block, (ad348.add ((x5_1).toNat * 5)).off + 4, none⟩ = some (.string ((rd_T38 l0 x5_1).f2.f2)) ∧ w'.cell? (ad349.add ((x5_1).toNat * 5)) = some (.string ((rd_T38 l1 x5_1).f0)) ∧ w'.cell? ⟨(ad349.add ((x5_1).toNat * 5)).block, (ad349.add ((x5_1).toNat * 5)).off + 1, none⟩ = some (.bool ((rd_T38 l1 x5_1).f1)) ∧ w'.cell? ⟨(ad349.add ((x5_1).toNat * 5)).block, (ad349.add ((x5_1).toNat * 5)).off + 2, none⟩ = some (.int .i64 ((rd_T38 l1 x5_1).f2.f0)) ∧ w'.cell? ⟨(ad349.add ((x5_1).toNat * 5)).block, (ad349.add ((x5_1).toNat * 5)).off + 3, none⟩ = some (.int .i64 ((rd_T38 l1 x5_1).f2.f1)) ∧ w'.cell? ⟨(ad349.add ((x5_1).toNat * 5)).block, (ad349.add ((x5_1).toNat * 5)).off + 4, none⟩ = some (.string ((rd_T38 l1 x5_1).f2.f2))) (ds := []) #[false, false, false, false, false, false, false, false, false, false] (by kernel_rfl) rfl rfl ⟨((HB.out.cell (World.block_lt_of_cell? w _ hw348_0)).trans hw348_0), ((HB.out.cell (World.block_lt_of_cell? w _ hw348_1)).trans hw348_1), ((HB.out.cell (World.block_lt_of_cell? w _ hw348_2)).trans hw348_2), ((HB.out.cell (World.block_lt_of_cell? w _ hw348_3)).trans hw348_3), ((HB.out.cell (World.block_lt_of_cell? w _ hw348_4)).trans hw348_4), ((HB.out.cell (World.block_lt_of_cell? w _ hw349_0)).trans hw349_0), ((HB.out.cell (World.block_lt_of_cell? w _ hw349_1)).trans hw349_1), ((HB.out.cell (World.block_lt_of_cell? w _ hw349_2)).trans hw349_2), ((HB.out.cell (World.block_lt_of_cell? w _ hw349_3)).trans hw349_3), ((HB.out.cell (World.block_lt_of_cell? w _ hw349_4)).trans hw349_4)⟩ (fun hHeld => ?_); refine with_tabW loessref10_EqRecs.tab6 loessref10_EqRecs.bits6 (fun HT_ HW_ => ?_)
                generalize wr.drew = w11 at HB hx348_0 hx348_1 hx348_2 hx348_3 hx348_4 hx349_0 hx349_1 hx349_2 hx349_3 hx349_4 hHeld ⊢
                refine pure_ (i := 0) (N := some 17) (v := ?_) (a' := ?_) #[true, false, false, false, false, false, false, false, false, false] rfl rfl (any_of HT_.out (by kernel_rfl)) (fun _ _ _ h => h) (Or.inl ⟨by rfl, ?_⟩) ?_ ?_
                rotate_left
                · intro w'
                  go_simp
                  with_reducible rfl
                rotate_left
                · simp only [Act.put, List.setIfInBounds_toArray, List.set_cons_zero, List.set_cons_succ, i64_w, i32_w]
                  rfl
                refine pure_ (i := 1) (N := some 18) (v := ?_) (a' := ?_) #[true, true, false, false, false, false, false, false, false, false] rfl rfl (any_of HT_.out (by kernel_rfl)) (fun _ _ _ h => h) (Or.inl ⟨by rfl, ?_⟩) ?_ ?_
                rotate_left
                · intro w'
                  go_simp
                  with_reducible rfl
                rotate_left
                · simp only [Act.put, List.setIfInBounds_toArray, List.set_cons_zero, List.set_cons_succ, i64_w, i32_w]
                  rfl
                refine pure_ (i := 2) (N := some 19) (v := ?_) (a' := ?_) #[true, true, true, false, false, false, false, false, false, false] rfl rfl (any_of HT_.out (by kernel_rfl)) (fun _ _ _ h => h) (Or.inl ⟨by rfl, ?_⟩) ?_ ?_
                rotate_left
                · intro w'
                  go_simp
                  with_reducible rfl
                rotate_left
                · simp only [Act.put, List.setIfInBounds_toArray, List.set_cons_zero, List.set_cons_succ, i64_w, i32_w]
                  rfl
                refine pure_ (i := 4) (N := some 21) (v := ?_) (a' := ?_) #[true, true, true, false, true, false, false, false, false, false] rfl rfl (any_of HT_.out (by kernel_rfl)) (fun _ _ _ h => h) (Or.inl ⟨by rfl, ?_⟩) ?_ ?_
                rotate_left
                · intro w'
                  go_simp
                  with_reducible rfl
                rotate_left
                · simp only [Act.put, List.setIfInBounds_toArray, List.set_cons_zero, List.set_cons_succ, i64_w, i32_w]
                  rfl
                refine pure_ (i := 5) (N := some 22) (v := ?_) (a' := ?_) #[true, true, true, false, true, true, false, false, false, false] rfl rfl (any_of HT_.out (by kernel_rfl)) (fun _ _ _ h => h) (Or.inl ⟨by rfl, ?_⟩) ?_ ?_
                rotate_left
                · intro w'
                  go_simp
                  with_reducible rfl
                rotate_left
                · simp only [Act.put, List.setIfInBounds_toArray, List.set_cons_zero, List.set_cons_succ, i64_w, i32_w]
                  rfl
                refine pure_ (i := 6) (N := some 23) (v := ?_) (a' := ?_) #[true, true, true, false, true, true, true, false, false, false] rfl rfl (any_of HT_.out (by kernel_rfl)) (fun _ _ _ h => h) (Or.inl ⟨by rfl, ?_⟩) ?_ ?_
                rotate_left
                · intro w'
                  go_simp
                  with_reducible rfl
                rotate_left
                · simp only [Act.put, List.setIfInBounds_toArray, List.set_cons_zero, List.set_cons_succ, i64_w, i32_w]
                  rfl
                refine take_ (i := 3) (N := some 20) (v := ?_) (a' := ?_) #[true, true, true, true, true, true, true, false, false, false] rfl rfl (take_ofW HT_.out HW_.out (by kernel_rfl)) (fun _ _ _ h => h) (Or.inl ⟨by rfl, ?_⟩) hHeld ?_ ?_
                rotate_left
                · rintro w' ⟨s0, s1, s2, s3, s4, s5, s6, s7, s8, s9⟩
                  go_simp
                  with_reducible rfl
                rotate_left
                · simp only [Act.put, List.setIfInBounds_toArray, List.set_cons_zero, List.set_cons_succ, i64_w, i32_w]
                  rfl
                refine take_ (i := 7) (N := some 24) (v := ?_) (a' := ?_) #[true, true, true, true, true, true, true, true, false, false] rfl rfl (take_ofW HT_.out HW_.out (by kernel_rfl)) (fun _ _ _ h => h) (Or.inl ⟨by rfl, ?_⟩) hHeld ?_ ?_
                rotate_left
                · rintro w' ⟨s0, s1, s2, s3, s4, s5, s6, s7, s8, s9⟩
                  go_simp
                  with_reducible rfl
                rotate_left
                · simp only [Act.put, List.setIfInBounds_toArray, List.set_cons_zero, List.set_cons_succ, i64_w, i32_w]
                  rfl
                refine one_ (i := 8) (N := some 25) #[true, true, true, true, true, true, true, true, true, false] rfl rfl (one_of HT_.out (by kernel_rfl)) (by decide) (fun K hK => ?_)
                refine goes_ Try.func29 (by kernel_rfl) rfl #[.agg #[.string ((rd_T38 l0 x5_1).f0), .bool ((rd_T38 l0 x5_1).f1), .int .i64 ((rd_T38 l0 x5_1).f2.f0), .int .i64 ((rd_T38 l0 x5_1).f2.f1), .string ((rd_T38 l0 x5_1).f2.f2)], .agg #[.string ((rd_T38 l1 x5_1).f0), .bool ((rd_T38 l1 x5_1).f1), .int .i64 ((rd_T38 l1 x5_1).f2.f0), .int .i64 ((rd_T38 l1 x5_1).f2.f1), .string ((rd_T38 l1 x5_1).f2.f2)]] (by rfl) rfl rfl (by (try simp only [List.map_toArray, List.map_cons, List.map_nil]); first | done | rfl | (simp only [List.length_drop, List.length_take]; rfl)) ?_
                with_reducible refine (loessref10_Eq.calls ((rd_T38 l0 x5_1).f0) ((rd_T38 l0 x5_1).f1) ((rd_T38 l0 x5_1).f2.f0) ((rd_T38 l0 x5_1).f2.f1) ((rd_T38 l0 x5_1).f2.f2) ((rd_T38 l1 x5_1).f0) ((rd_T38 l1 x5_1).f1) ((rd_T38 l1 x5_1).f2.f0) ((rd_T38 l1 x5_1).f2.f1) ((rd_T38 l1 x5_1).f2.f2) false _ A7.out).mono ?_
                rintro e w12 ⟨rfl, hb⟩
                refine ⟨_, rfl, ?_⟩
                have n0_ := Aside0.mk (below_step (by repeat (first | (with_reducible first | exact HB.out | apply below_alloc | apply pw_below_drewN | apply below_drew1) | exact HB.out)) hb)
                clear HB
                have HB := n0_
                clear n0_
                (try clear hb)
                (try clear hb2)
                (try clear hk)
                (try clear hi)
                refine hK.out _ _ ⟨((HB.out.cell (World.block_lt_of_cell? w _ hw348_0)).trans hw348_0), ((HB.out.cell (World.block_lt_of_cell? w _ hw348_1)).trans hw348_1), ((HB.out.cell (World.block_lt_of_cell? w _ hw348_2)).trans hw348_2), ((HB.out.cell (World.block_lt_of_cell? w _ hw348_3)).trans hw348_3), ((HB.out.cell (World.block_lt_of_cell? w _ hw348_4)).trans hw348_4), ((HB.out.cell (World.block_lt_of_cell? w _ hw349_0)).trans hw349_0), ((HB.out.cell (World.block_lt_of_cell? w _ hw349_1)).trans hw349_1), ((HB.out.cell (World.block_lt_of_cell? w _ hw349_2)).trans hw349_2), ((HB.out.cell (World.block_lt_of_cell? w _ hw349_3)).trans hw349_3), ((HB.out.cell (World.block_lt_of_cell? w _ hw349_4)).trans hw349_4)⟩ (fun hHeld => ?_)
                clear hK K
                refine norm_ (a' := ?_) ?_ ?_
                rotate_left
                · show Act.put _ (some 25) _ = _
                  simp only [Act.put, List.setIfInBounds_toArray, List.set_cons_zero, List.set_cons_succ, i64_w, i32_w]
                  rfl
                refine pure_ (i := 9) (N := some 26) (v := ?_) (a' := ?_) #[true, true, true, true, true, true, true, true, true, true] rfl rfl (any_of HT_.out (by kernel_rfl)) (fun _ _ _ h => h) (Or.inl ⟨by rfl, ?_⟩) ?_ ?_
                rotate_left
                · intro w'
                  go_simp
                  with_reducible rfl
                rotate_left
                · simp only [Act.put, List.setIfInBounds_toArray, List.set_cons_zero, List.set_cons_succ, i64_w, i32_w]
                  rfl
                refine done_ (done_of HT_.out (by kernel_rfl)) ?_
                try go_wp2
                go_ret
                exact ⟨by first | rfl | (simp [errW_none, errW_some] <;> rfl) | (simp [*, errW_none, errW_some] <;> rfl), by repeat (first | (with_reducible first | exact HB.out | apply below_alloc | apply pw_below_drewN | apply below_drew1) | exact HB.out)⟩
            · rw [if_neg c6] at H
              exact absurd H (by simp)
          · rw [if_neg c5] at H
            exact absurd H (by simp)
        · rw [if_neg c4] at H
          have c4b0 : decide (x5_1 < (l0.length : Int)) = false := decide_eq_false c4
          clear c4
          obtain rfl := Option.some.inj H
          go_wp2
          go_ret
          exact ⟨by first | rfl | (simp [errW_none, errW_some] <;> rfl) | (simp [*, errW_none, errW_some] <;> rfl), by repeat (first | (with_reducible first | exact HB.out | apply below_alloc | apply pw_below_drewN | apply below_drew1) | exact HB.out)⟩
  · rw [if_neg c3] at H
    have c3b0 : ((l0.length : Int) == (l1.length : Int)) = false := beq_eq_false_iff_ne.mpr c3
    have c3b1 : ((l0.length : Int) != (l1.length : Int)) = true := bne_iff_ne.mpr c3
    have c3b2 : (l0.length == l1.length) = false := by first | simpa using c3 | (simp at c3 ⊢; omega)
    obtain rfl := Option.some.inj H
    go_enter Try.func14, Try.ntmps14
    go_wp2
    go_ret
    exact ⟨by first | rfl | (simp [errW_none, errW_some] <;> rfl) | (simp [*, errW_none, errW_some] <;> rfl), by repeat (first | (with_reducible first | exact HB.out | apply below_alloc | apply pw_below_drewN | apply below_drew1) | exact HB.out)⟩

end Go.Proofs.Ytbogcnfmdakdmaa.XBat
