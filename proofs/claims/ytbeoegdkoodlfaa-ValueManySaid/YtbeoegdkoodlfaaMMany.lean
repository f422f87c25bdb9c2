import Derived.Test.YtbeoegdkoodlfaaWMore
import Derived.Lib.Bytes
import Derived.Laws.RangeAny
import Derived.Test.YtbeoegdkoodlfaaGRunes
import Derived.Test.YtbeoegdkoodlfaaXVamx7
import Derived.Test.YtbeoegdkoodlfaaXVamx8
import Derived.Test.YtbeoegdkoodlfaaXVamx12
import Derived.Test.YtbeoegdkoodlfaaXVamx9
import Derived.Test.YtbeoegdkoodlfaaXVamx10
import Derived.Test.YtbeoegdkoodlfaaXVamx15
import Derived.Test.YtbeoegdkoodlfaaXVamx17
import Derived.Test.YtbeoegdkoodlfaaXVamx18
import Derived.Test.YtbeoegdkoodlfaaGValue
import Derived.KernelRfl
import Derived.Test.YtbeoegdkoodlfaaXVamx2
import Derived.Test.YtbeoegdkoodlfaaXVamx3
import Derived.Test.YtbeoegdkoodlfaaXVamx4
import Derived.Test.YtbeoegdkoodlfaaXVamx11
import Derived.Test.YtbeoegdkoodlfaaXVamx13
import Derived.Test.YtbeoegdkoodlfaaXVamx19
import Derived.Test.YtbeoegdkoodlfaaXVamx16
import Derived.Test.YtbeoegdkoodlfaaXVamx5
import Derived.Test.YtbeoegdkoodlfaaXVamx6
import Derived.Deep.Slices
import Derived.Lib.SmallJoins
import Derived.ChangeArms
import Derived.Test.YtbeoegdkoodlfaaXVamx14
/- Plain lemmas of this session's own: numbers that wrap, bits as numbers, bytes and texts, rounds. -/
set_option linter.unusedVariables false
set_option linter.unusedSimpArgs false
namespace Go.Proofs.Ytbeoegdkoodlfaa.Q
open Go.RowKit Go.Proofs.YtbeoegdkoodlfaaW.PrintWords Go.Proofs.YtbeoegdkoodlfaaW.PrintMore
theorem w64 {x : Int} (h0 : -9223372036854775808 ≤ x) (h1 : x < 9223372036854775808) : wrap64 x = x := by unfold wrap64; omega
theorem u64_mod (n : Int) : IntKind.u64.wrap n = n % 18446744073709551616 := by simp [IntKind.wrap, IntKind.bits, IntKind.signed]
theorem u64 {x : Int} (h0 : 0 ≤ x) (h1 : x < 18446744073709551616) : IntKind.u64.wrap x = x := by rw [u64_mod]; omega
theorem wraps_u64 (n : Int) (h0 : 0 ≤ n) (h1 : n < 2 ^ 64) : IntKind.u64.wrap n = n := u64 h0 (by omega)
theorem wfI64 {n : Int} (h : (Lit.int .i64 n).wf = true) : -9223372036854775808 ≤ n ∧ n < 9223372036854775808 := by
  simp only [Lit.wf, IntKind.min, IntKind.max, IntKind.signed, IntKind.bits, Bool.and_eq_true, decide_eq_true_eq, if_true] at h
  omega
theorem wfU64 {n : Int} (h : (Lit.int .u64 n).wf = true) : 0 ≤ n ∧ n < 18446744073709551616 := by
  simp only [Lit.wf, IntKind.min, IntKind.max, IntKind.signed, IntKind.bits, Bool.and_eq_true, decide_eq_true_eq, Bool.false_eq_true, if_false] at h
  omega
theorem wfU8 {n : Int} (h : (Lit.int .u8 n).wf = true) : 0 ≤ n ∧ n < 256 := by
  simp only [Lit.wf, IntKind.min, IntKind.max, IntKind.signed, IntKind.bits, Bool.and_eq_true, decide_eq_true_eq, Bool.false_eq_true, if_false] at h
  omega
theorem wfI32 {n : Int} (h : (Lit.int .i32 n).wf = true) : -2147483648 ≤ n ∧ n < 2147483648 := by
  simp only [Lit.wf, IntKind.min, IntKind.max, IntKind.signed, IntKind.bits, Bool.and_eq_true, decide_eq_true_eq, if_true] at h
  omega
/-- Each number is a byte. -/
def Byt (l : List Int) : Prop := ∀ x ∈ l, 0 ≤ x ∧ x < 256
theorem Byt.nil : Byt [] := fun _ h => by cases h
theorem Byt.of_wf {l : List Int} (h : ∀ x ∈ l, (Lit.int .u8 x).wf = true) : Byt l := fun x hx => wfU8 (h x hx)
theorem Byt.cons {c : Int} {l : List Int} (h0 : 0 ≤ c) (h1 : c < 256) (h : Byt l) : Byt (c :: l) := by
  intro x hx
  rcases List.mem_cons.1 hx with rfl | hx
  · exact ⟨h0, h1⟩
  · exact h x hx
theorem Byt.head {c : Int} {l : List Int} (h : Byt (c :: l)) : 0 ≤ c ∧ c < 256 := h c List.mem_cons_self
theorem Byt.tail {c : Int} {l : List Int} (h : Byt (c :: l)) : Byt l := fun x hx => h x (List.mem_cons_of_mem _ hx)
theorem Byt.append {l m : List Int} (h : Byt l) (k : Byt m) : Byt (l ++ m) := by
  intro x hx
  rcases List.mem_append.1 hx with hx | hx
  · exact h x hx
  · exact k x hx
theorem Byt.left {l m : List Int} (h : Byt (l ++ m)) : Byt l := fun x hx => h x (List.mem_append_left _ hx)
theorem Byt.right {l m : List Int} (h : Byt (l ++ m)) : Byt m := fun x hx => h x (List.mem_append_right _ hx)
theorem Byt.take {l : List Int} (h : Byt l) (n : Nat) : Byt (l.take n) := fun x hx => h x (List.mem_of_mem_take hx)
theorem Byt.drop {l : List Int} (h : Byt l) (n : Nat) : Byt (l.drop n) := fun x hx => h x (List.mem_of_mem_drop hx)
theorem byt_bytesOf (s : ByteArray) : Byt (bytesOf s) := by
  intro x hx
  simp only [bytesOf, List.mem_map] at hx
  obtain ⟨b, _, rfl⟩ := hx
  have := b.toNat_lt
  omega
theorem toList_eq (s : ByteArray) : s.toList = s.data.toList := Lib.toList_data s
theorem bytesOf_str {l : List Int} (h : Byt l) : bytesOf (strOfNums l) = l := by
  rw [bytesOf, strOfNums_data, List.map_map]
  conv => rhs; rw [← List.map_id l]
  apply List.map_congr_left
  intro x hx
  have := h x hx
  simp only [Function.comp_apply, id_eq, UInt8.toNat_ofNat']
  omega
theorem str_bytesOf (s : ByteArray) : strOfNums (bytesOf s) = s := by
  have h : (strOfNums (bytesOf s)).data = s.data := by
    apply Array.ext'
    rw [strOfNums_data, bytesOf, List.map_map]
    conv => rhs; rw [← List.map_id s.data.toList]
    apply List.map_congr_left
    intro b _
    simp
  cases hs : strOfNums (bytesOf s)
  cases s
  simp_all
theorem bytesOf_inj {a b : ByteArray} (h : bytesOf a = bytesOf b) : a = b := by rw [← str_bytesOf a, h, str_bytesOf]
theorem str_inj {l m : List Int} (hl : Byt l) (hm : Byt m) (h : strOfNums l = strOfNums m) : l = m := by rw [← bytesOf_str hl, h, bytesOf_str hm]
theorem toList_inj {a b : ByteArray} (h : a.toList = b.toList) : a = b := by
  rw [toList_eq, toList_eq] at h
  cases a; cases b
  simp only [ByteArray.mk.injEq]
  exact Array.ext' h
theorem toList_iff {a b : ByteArray} : a.toList = b.toList ↔ a = b := ⟨toList_inj, fun h => by rw [h]⟩
theorem bytesOf_append (a b : ByteArray) : bytesOf (a ++ b) = bytesOf a ++ bytesOf b := by simp [bytesOf]
theorem str_append (l m : List Int) : strOfNums (l ++ m) = strOfNums l ++ strOfNums m := by
  have h : (strOfNums (l ++ m)).data = (strOfNums l ++ strOfNums m).data := by
    apply Array.ext'
    simp [strOfNums_data]
  cases h1 : strOfNums (l ++ m)
  cases h2 : strOfNums l ++ strOfNums m
  simp_all
theorem bytesOf_extract (s : ByteArray) (i j : Nat) : bytesOf (s.extract i j) = ((bytesOf s).take j).drop i := by
  rw [bytesOf, ByteArray.data_extract, Array.toList_extract, bytesOf]
  simp [List.extract, List.map_take, List.map_drop, List.drop_take]
theorem size_of_bytes (s : ByteArray) : s.size = (bytesOf s).length := (bytesOf_length s).symm
/- bits -/
theorem or_comm' (k : IntKind) (x y : Int) : Go.bits .or k x y = Go.bits .or k y x := by
  show k.wrap ((BitVec.ofInt k.bits x ||| BitVec.ofInt k.bits y).toNat : Int) = k.wrap ((BitVec.ofInt k.bits y ||| BitVec.ofInt k.bits x).toNat : Int)
  rw [BitVec.or_comm]
theorem or_join (i : Nat) (hi : i ≤ 64) {x y : Int} (hx0 : 0 ≤ x) (hx : x < 2 ^ i) (hy0 : 0 ≤ y) (hy : y % 2 ^ i = 0) (hy1 : y < 2 ^ 64) : Go.bits .or .u64 x y = x + y := by
  have h64 : (2 : Int) ^ i ≤ 2 ^ 64 := by
    have := Nat.pow_le_pow_right (n := 2) (by decide) hi
    exact_mod_cast this
  rw [or_comm', bits_join .u64 64 (by decide) wraps_u64 i y x hy0 hy hy1 hx0 hx (by omega)]
  omega
theorem and127 {c : Int} (h0 : 0 ≤ c) (h1 : c < 256) : Go.bits .and .u8 c 127 = c % 128 := bits_mask .u8 8 (by decide) wraps_u8 7 (by decide) c h0 (by omega)
theorem or128 {c : Int} (h0 : 0 ≤ c) (h1 : c < 256) : Go.bits .or .u8 c 128 = c % 128 + 128 := by
  have h : c % 128 + 128 * (c / 128) = c := by omega
  obtain ⟨a, rfl⟩ := Int.eq_ofNat_of_zero_le h0
  have ha : a < 256 := by omega
  have e := (bits_nat .u8 8 (by decide) wraps_u8 a 128 (by omega) (by decide)).2
  have e2 : (a ||| 128) = a % 128 + 128 := by
    have := Nat.two_pow_add_eq_or_of_lt (i := 7) (b := a % 128) (Nat.mod_lt _ (by decide)) 1
    have h3 : a ||| 128 = (a % 128) ||| 128 := by
      apply Nat.eq_of_testBit_eq
      intro i
      simp only [Nat.testBit_or]
      rcases Nat.lt_or_ge i 7 with hi | hi
      · have : a % 128 = a % 2 ^ 7 := rfl
        rw [this, Nat.testBit_mod_two_pow]
        simp [hi]
      · have : a % 128 = a % 2 ^ 7 := rfl
        rw [this, Nat.testBit_mod_two_pow]
        rcases Nat.lt_or_ge i 8 with hi2 | hi2
        · have : i = 7 := by omega
          subst this
          simp
          intro _
          decide
        · rw [Nat.testBit_lt_two_pow (x := a) (by have := Nat.pow_le_pow_right (n := 2) (by decide) hi2; omega)]
          simp
    have h4 : 128 + a % 128 = 128 ||| a % 128 := this
    rw [h3, Nat.or_comm, ← h4]
    omega
  rw [show ((128 : Int)) = ((128 : Nat) : Int) from rfl, e, e2]
  omega
theorem not_u64 {x : Int} (h0 : 0 ≤ x) (h1 : x < 18446744073709551616) : Go.bits .xor .u64 18446744073709551615 x = 18446744073709551615 - x := by
  obtain ⟨a, rfl⟩ := Int.eq_ofNat_of_zero_le h0
  show IntKind.u64.wrap ((BitVec.ofInt 64 18446744073709551615 ^^^ BitVec.ofInt 64 (a : Int)).toNat : Int) = _
  have e : BitVec.ofInt 64 18446744073709551615 = BitVec.allOnes 64 := by decide
  rw [e, BitVec.ofInt_natCast, BitVec.allOnes_xor, BitVec.toNat_not, BitVec.toNat_ofNat, u64 (by omega) (by omega)]
  omega
theorem not_i64 {x : Int} (h0 : 0 ≤ x) (h1 : x < 9223372036854775808) : Go.bits .xor .i64 (-1) x = -x - 1 := by
  obtain ⟨a, rfl⟩ := Int.eq_ofNat_of_zero_le h0
  show IntKind.i64.wrap ((BitVec.ofInt 64 (-1) ^^^ BitVec.ofInt 64 (a : Int)).toNat : Int) = _
  have e : BitVec.ofInt 64 (-1) = BitVec.allOnes 64 := by decide
  rw [e, BitVec.ofInt_natCast, BitVec.allOnes_xor, BitVec.toNat_not, BitVec.toNat_ofNat, IntKind.wrap_i64]
  omega
theorem shl_u64 {x y : Int} (hy : 0 ≤ y) (hy1 : y ≤ 64) (h0 : 0 ≤ x) (h : x * 2 ^ y.toNat < 2 ^ 64) : shl .u64 x y = x * 2 ^ y.toNat := by
  unfold shl
  rw [Nat.min_eq_left (by show y.toNat ≤ 64; omega)]
  exact wraps_u64 _ (Int.mul_nonneg h0 (by have := Nat.two_pow_pos y.toNat; exact_mod_cast Nat.le_of_lt this)) h
theorem rd_append (p r : List Int) (c : Int) : rd (p ++ c :: r) (p.length : Int) = c := by simp [rd]
theorem rd_at {l : List Int} {i : Int} (h0 : 0 ≤ i) (h1 : i < l.length) : l.drop i.toNat = rd l i :: l.drop (i.toNat + 1) := by
  rw [List.drop_eq_getElem_cons (by omega)]
  congr 1
  simp [rd, List.getD]
  rw [List.getElem?_eq_getElem (by omega)]
  rfl
/- rounds -/
theorem evEq {α : Type} {g : Nat → Option α} {a b : α} (h : Ev g a) (e : a = b) : Ev g b := e ▸ h
theorem evC {α : Type} {o : Option α} {r : α} (h : o = some r) : Ev (fun _ => o) r := ⟨0, fun _ _ => h⟩
end Go.Proofs.Ytbeoegdkoodlfaa.Q

/- Runes of bytes, in plain Lean: what begins where; what is written of a rune; texts joined and cut. -/
set_option linter.unusedVariables false
set_option linter.unusedSimpArgs false
namespace Go.Proofs.Ytbeoegdkoodlfaa.Q
open Go.RowKit Go.Proofs.YtbeoegdkoodlfaaW.PrintWords Go.Proofs.YtbeoegdkoodlfaaW.PrintMore
abbrev Rn := Int × Nat × Bool
def bad : Rn := (65533, 1, false)
def fin (x low : Int) (n : Nat) : Rn := if x < low ∨ x > 1114111 ∨ (55296 ≤ x ∧ x < 57344) then bad else (x, n, true)
def Cont (c : Int) : Prop := 128 ≤ c ∧ c ≤ 191
instance (c : Int) : Decidable (Cont c) := inferInstanceAs (Decidable (_ ∧ _))
/-- The first rune of bytes, how many bytes it has, and whether one begins. -/
def dec (l : List Int) : Rn :=
  if l.getD 0 0 < 128 then (l.getD 0 0, 1, true)
  else if 192 ≤ l.getD 0 0 ∧ l.getD 0 0 < 224 then (if 2 ≤ l.length ∧ Cont (l.getD 1 0) then fin ((l.getD 0 0 - 192) * 64 + (l.getD 1 0 - 128)) 128 2 else bad)
  else if 224 ≤ l.getD 0 0 ∧ l.getD 0 0 < 240 then (if 3 ≤ l.length ∧ Cont (l.getD 1 0) ∧ Cont (l.getD 2 0) then fin (((l.getD 0 0 - 224) * 64 + (l.getD 1 0 - 128)) * 64 + (l.getD 2 0 - 128)) 2048 3 else bad)
  else if 240 ≤ l.getD 0 0 ∧ l.getD 0 0 < 248 then (if 4 ≤ l.length ∧ Cont (l.getD 1 0) ∧ Cont (l.getD 2 0) ∧ Cont (l.getD 3 0) then fin ((((l.getD 0 0 - 240) * 64 + (l.getD 1 0 - 128)) * 64 + (l.getD 2 0 - 128)) * 64 + (l.getD 3 0 - 128)) 65536 4 else bad)
  else bad
theorem fin_cases (x low : Int) (n : Nat) : fin x low n = bad ∨ (fin x low n = (x, n, true) ∧ low ≤ x ∧ x ≤ 1114111 ∧ ¬ (55296 ≤ x ∧ x < 57344)) := by
  unfold fin
  split
  · exact .inl rfl
  · exact .inr ⟨rfl, by omega⟩
/-- What begins with bytes, by its width. -/
theorem dec_cases (l : List Int) : dec l = bad ∨ (dec l).2.2 = true ∧
    ((dec l).2.1 = 1 ∧ l.getD 0 0 < 128 ∧ (dec l).1 = l.getD 0 0 ∨
     (dec l).2.1 = 2 ∧ 2 ≤ l.length ∧ 192 ≤ l.getD 0 0 ∧ l.getD 0 0 < 224 ∧ Cont (l.getD 1 0) ∧ (dec l).1 = (l.getD 0 0 - 192) * 64 + (l.getD 1 0 - 128) ∧ 128 ≤ (dec l).1 ∨
     (dec l).2.1 = 3 ∧ 3 ≤ l.length ∧ 224 ≤ l.getD 0 0 ∧ l.getD 0 0 < 240 ∧ Cont (l.getD 1 0) ∧ Cont (l.getD 2 0) ∧ (dec l).1 = ((l.getD 0 0 - 224) * 64 + (l.getD 1 0 - 128)) * 64 + (l.getD 2 0 - 128) ∧ 2048 ≤ (dec l).1 ∧ ¬ (55296 ≤ (dec l).1 ∧ (dec l).1 < 57344) ∨
     (dec l).2.1 = 4 ∧ 4 ≤ l.length ∧ 240 ≤ l.getD 0 0 ∧ l.getD 0 0 < 248 ∧ Cont (l.getD 1 0) ∧ Cont (l.getD 2 0) ∧ Cont (l.getD 3 0) ∧ (dec l).1 = (((l.getD 0 0 - 240) * 64 + (l.getD 1 0 - 128)) * 64 + (l.getD 2 0 - 128)) * 64 + (l.getD 3 0 - 128) ∧ 65536 ≤ (dec l).1 ∧ (dec l).1 ≤ 1114111) := by
  by_cases h0 : l.getD 0 0 < 128
  · right
    have e : dec l = (l.getD 0 0, 1, true) := by unfold dec; rw [if_pos h0]
    rw [e]
    exact ⟨rfl, .inl ⟨rfl, h0, rfl⟩⟩
  · by_cases h2 : 192 ≤ l.getD 0 0 ∧ l.getD 0 0 < 224
    · by_cases hc : 2 ≤ l.length ∧ Cont (l.getD 1 0)
      · have e : dec l = fin ((l.getD 0 0 - 192) * 64 + (l.getD 1 0 - 128)) 128 2 := by unfold dec; rw [if_neg h0, if_pos h2, if_pos hc]
        rw [e]
        rcases fin_cases ((l.getD 0 0 - 192) * 64 + (l.getD 1 0 - 128)) 128 2 with h | ⟨h, h3⟩
        · exact .inl h
        · rw [h]; exact .inr ⟨rfl, .inr (.inl ⟨rfl, hc.1, h2.1, h2.2, hc.2, rfl, h3.1⟩)⟩
      · left; unfold dec; rw [if_neg h0, if_pos h2, if_neg hc]
    · by_cases h3 : 224 ≤ l.getD 0 0 ∧ l.getD 0 0 < 240
      · by_cases hc : 3 ≤ l.length ∧ Cont (l.getD 1 0) ∧ Cont (l.getD 2 0)
        · have e : dec l = fin (((l.getD 0 0 - 224) * 64 + (l.getD 1 0 - 128)) * 64 + (l.getD 2 0 - 128)) 2048 3 := by unfold dec; rw [if_neg h0, if_neg h2, if_pos h3, if_pos hc]
          rw [e]
          rcases fin_cases (((l.getD 0 0 - 224) * 64 + (l.getD 1 0 - 128)) * 64 + (l.getD 2 0 - 128)) 2048 3 with h | ⟨h, h4⟩
          · exact .inl h
          · rw [h]; exact .inr ⟨rfl, .inr (.inr (.inl ⟨rfl, hc.1, h3.1, h3.2, hc.2.1, hc.2.2, rfl, h4.1, h4.2.2⟩))⟩
        · left; unfold dec; rw [if_neg h0, if_neg h2, if_pos h3, if_neg hc]
      · by_cases h4 : 240 ≤ l.getD 0 0 ∧ l.getD 0 0 < 248
        · by_cases hc : 4 ≤ l.length ∧ Cont (l.getD 1 0) ∧ Cont (l.getD 2 0) ∧ Cont (l.getD 3 0)
          · have e : dec l = fin ((((l.getD 0 0 - 240) * 64 + (l.getD 1 0 - 128)) * 64 + (l.getD 2 0 - 128)) * 64 + (l.getD 3 0 - 128)) 65536 4 := by unfold dec; rw [if_neg h0, if_neg h2, if_neg h3, if_pos h4, if_pos hc]
            rw [e]
            rcases fin_cases ((((l.getD 0 0 - 240) * 64 + (l.getD 1 0 - 128)) * 64 + (l.getD 2 0 - 128)) * 64 + (l.getD 3 0 - 128)) 65536 4 with h | ⟨h, h5⟩
            · exact .inl h
            · rw [h]; exact .inr ⟨rfl, .inr (.inr (.inr ⟨rfl, hc.1, h4.1, h4.2, hc.2.1, hc.2.2.1, hc.2.2.2, rfl, h5.1, h5.2.1⟩))⟩
          · left; unfold dec; rw [if_neg h0, if_neg h2, if_neg h3, if_pos h4, if_neg hc]
        · left; unfold dec; rw [if_neg h0, if_neg h2, if_neg h3, if_neg h4]
theorem dec_width (l : List Int) : 1 ≤ (dec l).2.1 := by
  rcases dec_cases l with h | ⟨_, h | h | h | h⟩
  · rw [h]; exact Nat.le_refl _
  all_goals omega
theorem dec_fits {l : List Int} (hl : 0 < l.length) : (dec l).2.1 ≤ l.length := by
  rcases dec_cases l with h | ⟨_, h | h | h | h⟩
  · rw [h]; exact hl
  all_goals omega
theorem dec_bad {l : List Int} (h : (dec l).2.2 = false) : dec l = bad := by
  rcases dec_cases l with h1 | ⟨h1, _⟩
  · exact h1
  · rw [h1] at h; cases h
/-- None begins just where the odd rune has one byte. -/
theorem dec_ok_iff (l : List Int) (hb : Byt l) : (dec l).2.2 = false ↔ ((dec l).1 = 65533 ∧ (dec l).2.1 = 1) := by
  constructor
  · intro h; rw [dec_bad h]; exact ⟨rfl, rfl⟩
  · rintro ⟨h1, h2⟩
    rcases dec_cases l with h | ⟨_, h | h | h | h⟩
    · rw [h]; rfl
    · omega
    all_goals omega
/-- A rune hangs on its own bytes alone. -/
theorem dec_take {l : List Int} (h : (dec l).2.2 = true) (hl : 0 < l.length) (m : List Int) : dec (l.take (dec l).2.1 ++ m) = dec l := by
  have g : ∀ k, k < (dec l).2.1 → (l.take (dec l).2.1 ++ m).getD k 0 = l.getD k 0 := by
    intro k hk
    have := dec_fits hl
    simp only [List.getD_eq_getElem?_getD]
    rw [List.getElem?_append_left (by simp only [List.length_take]; omega), List.getElem?_take]
    rw [if_pos hk]
  have gl : (dec l).2.1 ≤ (l.take (dec l).2.1 ++ m).length := by
    have := dec_fits hl
    simp only [List.length_append, List.length_take]
    omega
  generalize hL : l.take (dec l).2.1 ++ m = L at g gl
  rcases dec_cases l with h1 | ⟨_, h1 | h1 | h1 | h1⟩
  · rw [h1] at h; cases h
  · rw [h1.1] at g gl
    have g0 := g 0 (by decide)
    have e : dec L = (l.getD 0 0, 1, true) := by unfold dec; rw [g0, if_pos h1.2.1]
    rw [e]
    ext1 <;> simp_all
    ext1 <;> simp_all
  · obtain ⟨w, w1, w2, w3, w4, w5, w6⟩ := h1
    rw [w] at g gl
    have g0 := g 0 (by decide)
    have g1 := g 1 (by decide)
    have e : dec L = fin ((l.getD 0 0 - 192) * 64 + (l.getD 1 0 - 128)) 128 2 := by unfold dec; rw [g0, g1, if_neg (by omega), if_pos ⟨w2, w3⟩, if_pos ⟨gl, w4⟩]
    have e2 : dec l = fin ((l.getD 0 0 - 192) * 64 + (l.getD 1 0 - 128)) 128 2 := by unfold dec; rw [if_neg (by omega), if_pos ⟨w2, w3⟩, if_pos ⟨w1, w4⟩]
    rw [e, e2]
  · obtain ⟨w, w1, w2, w3, w4, w5, w6, w7⟩ := h1
    rw [w] at g gl
    have g0 := g 0 (by decide)
    have g1 := g 1 (by decide)
    have g2 := g 2 (by decide)
    have e : dec L = fin (((l.getD 0 0 - 224) * 64 + (l.getD 1 0 - 128)) * 64 + (l.getD 2 0 - 128)) 2048 3 := by unfold dec; rw [g0, g1, g2, if_neg (by omega), if_neg (by omega), if_pos ⟨w2, w3⟩, if_pos ⟨gl, w4, w5⟩]
    have e2 : dec l = fin (((l.getD 0 0 - 224) * 64 + (l.getD 1 0 - 128)) * 64 + (l.getD 2 0 - 128)) 2048 3 := by unfold dec; rw [if_neg (by omega), if_neg (by omega), if_pos ⟨w2, w3⟩, if_pos ⟨w1, w4, w5⟩]
    rw [e, e2]
  · obtain ⟨w, w1, w2, w3, w4, w5, w6, w7⟩ := h1
    rw [w] at g gl
    have g0 := g 0 (by decide)
    have g1 := g 1 (by decide)
    have g2 := g 2 (by decide)
    have g3 := g 3 (by decide)
    have e : dec L = fin ((((l.getD 0 0 - 240) * 64 + (l.getD 1 0 - 128)) * 64 + (l.getD 2 0 - 128)) * 64 + (l.getD 3 0 - 128)) 65536 4 := by unfold dec; rw [g0, g1, g2, g3, if_neg (by omega), if_neg (by omega), if_neg (by omega), if_pos ⟨w2, w3⟩, if_pos ⟨gl, w4, w5, w6⟩]
    have e2 : dec l = fin ((((l.getD 0 0 - 240) * 64 + (l.getD 1 0 - 128)) * 64 + (l.getD 2 0 - 128)) * 64 + (l.getD 3 0 - 128)) 65536 4 := by unfold dec; rw [if_neg (by omega), if_neg (by omega), if_neg (by omega), if_pos ⟨w2, w3⟩, if_pos ⟨w1, w4, w5, w6⟩]
    rw [e, e2]
theorem dec_append {l : List Int} (h : (dec l).2.2 = true) (hl : 0 < l.length) (m : List Int) : dec (l ++ m) = dec l := by
  have e : l ++ m = l.take (dec l).2.1 ++ (l.drop (dec l).2.1 ++ m) := by rw [← List.append_assoc, List.take_append_drop]
  rw [e, dec_take h hl]
/-- All runes of bytes. -/
def ds (l : List Int) : List Rn := if h : l = [] then [] else dec l :: ds (l.drop (dec l).2.1)
termination_by l.length
decreasing_by
  have := dec_width l
  have := List.length_pos_iff.2 h
  simp only [List.length_drop]
  omega
theorem ds_nil : ds [] = [] := by rw [ds, dif_pos rfl]
theorem ds_cons {l : List Int} (h : l ≠ []) : ds l = dec l :: ds (l.drop (dec l).2.1) := by rw [ds, dif_neg h]
def wd (d : List Rn) : Nat := (d.map (·.2.1)).sum
/-- What of bytes comes by the runes' widths: nothing is left over. -/
theorem ds_wd : ∀ (n : Nat) (l : List Int), l.length ≤ n → wd (ds l) = l.length := by
  intro n
  induction n with
  | zero => intro l hl; have : l = [] := List.eq_nil_of_length_eq_zero (by omega); subst this; rw [ds_nil]; rfl
  | succ n ih =>
    intro l hl
    by_cases h : l = []
    · subst h; rw [ds_nil]; rfl
    · have h1 := dec_width l
      have h2 := dec_fits (List.length_pos_iff.2 h)
      rw [ds_cons h]
      have := ih (l.drop (dec l).2.1) (by simp only [List.length_drop]; omega)
      simp only [wd, List.map_cons, List.sum_cons, List.length_drop] at this ⊢
      omega
theorem ds_len_le : ∀ (n : Nat) (l : List Int), l.length ≤ n → (ds l).length ≤ l.length := by
  intro n
  induction n with
  | zero => intro l hl; have : l = [] := List.eq_nil_of_length_eq_zero (by omega); subst this; rw [ds_nil]; exact Nat.le_refl _
  | succ n ih =>
    intro l hl
    by_cases h : l = []
    · subst h; rw [ds_nil]; exact Nat.le_refl _
    · have h1 := dec_width l
      have h2 := dec_fits (List.length_pos_iff.2 h)
      rw [ds_cons h]
      have := ih (l.drop (dec l).2.1) (by simp only [List.length_drop]; omega)
      simp only [List.length_cons, List.length_drop] at this ⊢
      omega
theorem ds_append : ∀ (n : Nat) (l m : List Int), l.length ≤ n → (ds l).all (·.2.2) = true → ds (l ++ m) = ds l ++ ds m := by
  intro n
  induction n with
  | zero => intro l m hl _; have : l = [] := List.eq_nil_of_length_eq_zero (by omega); subst this; rw [ds_nil]; rfl
  | succ n ih =>
    intro l m hl ha
    by_cases h : l = []
    · subst h; rw [ds_nil]; rfl
    · have h0 := List.length_pos_iff.2 h
      have h1 := dec_width l
      have h2 := dec_fits h0
      rw [ds_cons h] at ha ⊢
      simp only [List.all_cons, Bool.and_eq_true] at ha
      have hne : l ++ m ≠ [] := by simp [h]
      rw [ds_cons hne, dec_append ha.1 h0 m, List.drop_append_of_le_length h2, ih _ m (by simp only [List.length_drop]; omega) ha.2]
      rfl
theorem ds_drop : ∀ (k : Nat) (l : List Int), ds (l.drop (wd ((ds l).take k))) = (ds l).drop k := by
  intro k
  induction k with
  | zero => intro l; simp [wd]
  | succ k ih =>
    intro l
    by_cases h : l = []
    · subst h; rw [ds_nil]; simp [wd, ds_nil]
    · have e := ih (l.drop (dec l).2.1)
      rw [ds_cons h]
      simp only [List.take_succ_cons, List.drop_succ_cons, wd, List.map_cons, List.sum_cons]
      rw [← e, List.drop_drop]
      rfl
/-- The runes of the first bytes, cut between runes. -/
theorem ds_take : ∀ (k : Nat) (l : List Int), ds (l.take (wd ((ds l).take k))) = (ds l).take k := by
  intro k
  induction k with
  | zero => intro l; simp [wd, ds_nil]
  | succ k ih =>
    intro l
    by_cases h : l = []
    · subst h; simp [ds_nil]
    · have h0 := List.length_pos_iff.2 h
      have h1 := dec_width l
      have h2 := dec_fits h0
      have e := ih (l.drop (dec l).2.1)
      have hw : wd ((ds l).take (k + 1)) = (dec l).2.1 + wd ((ds (l.drop (dec l).2.1)).take k) := by
        rw [ds_cons h]
        simp only [List.take_succ_cons, wd, List.map_cons, List.sum_cons]
      have hsplit : l.take (wd ((ds l).take (k + 1))) = l.take (dec l).2.1 ++ (l.drop (dec l).2.1).take (wd ((ds (l.drop (dec l).2.1)).take k)) := by
        rw [hw, List.take_add]
      have hne : l.take (wd ((ds l).take (k + 1))) ≠ [] := by
        intro hh
        have := congrArg List.length hh
        simp only [List.length_take, List.length_nil] at this
        omega
      have hd : dec (l.take (wd ((ds l).take (k + 1)))) = dec l := by
        rw [hsplit]
        by_cases hok : (dec l).2.2 = true
        · exact dec_take hok h0 _
        · have hb := dec_bad (by simpa using hok)
          by_cases hok2 : (dec (l.take (dec l).2.1 ++ (l.drop (dec l).2.1).take (wd ((ds (l.drop (dec l).2.1)).take k)))).2.2 = true
          · have happ := dec_append hok2 (by simp only [List.length_append, List.length_take]; omega) (l.drop (wd ((ds l).take (k + 1))))
            rw [← hsplit, List.take_append_drop] at happ
            rw [hsplit] at happ
            rw [← happ] at hok2
            exact absurd hok2 hok
          · exact (dec_bad (by simpa using hok2)).trans hb.symm
      rw [ds_cons hne, hd]
      conv => rhs; rw [ds_cons h, List.take_succ_cons]
      congr 1
      rw [hsplit, List.drop_append_of_le_length (by simp only [List.length_take]; omega), List.drop_take, Nat.sub_self, List.take_zero, List.nil_append]
      exact e
theorem wd_take_le (d : List Rn) (k : Nat) : wd (d.take k) ≤ wd d := by
  induction d generalizing k with
  | nil => simp [wd]
  | cons a d ih =>
    cases k with
    | zero => simp [wd]
    | succ k => have := ih k; simp only [wd, List.take_succ_cons, List.map_cons, List.sum_cons] at this ⊢; omega
theorem wd_append (a b : List Rn) : wd (a ++ b) = wd a + wd b := by simp [wd]
/-- The model's own decode tells the same. -/
theorem get_byte (s : ByteArray) (p k : Nat) (h : p + k < s.size) : ((bytesOf s).drop p).getD k 0 = ((s.get! (p + k)).toNat : Int) := by
  have e : s.get! (p + k) = s.data[p + k]'h := by simp [ByteArray.get!, getElem!_pos, h]
  have hd : p + k < s.data.toList.length := by rw [Array.length_toList]; exact h
  rw [e]
  simp only [List.getD_eq_getElem?_getD, List.getElem?_drop, bytesOf, List.getElem?_map]
  rw [List.getElem?_eq_getElem hd]
  simp
/-- The model's decode over the numbers that it reads. -/
def mdec (sz p x0 x1 x2 x3 : Nat) : Nat × Nat :=
  if x0 < 128 then (x0, 1)
  else if x0 / 32 == 6 && (decide (p + 1 < sz) && x1 / 64 == 2) then
    (if 128 ≤ x0 % 32 * 64 + x1 % 64 then (x0 % 32 * 64 + x1 % 64, 2) else (65533, 1))
  else if x0 / 16 == 14 && (decide (p + 1 < sz) && x1 / 64 == 2) && (decide (p + 2 < sz) && x2 / 64 == 2) then
    (if decide (2048 ≤ x0 % 16 * 4096 + x1 % 64 * 64 + x2 % 64) && Utf8.valid ((x0 % 16 * 4096 + x1 % 64 * 64 + x2 % 64 : Nat) : Int) then (x0 % 16 * 4096 + x1 % 64 * 64 + x2 % 64, 3) else (65533, 1))
  else if x0 / 8 == 30 && (decide (p + 1 < sz) && x1 / 64 == 2) && (decide (p + 2 < sz) && x2 / 64 == 2) && (decide (p + 3 < sz) && x3 / 64 == 2) then
    (if decide (65536 ≤ x0 % 8 * 262144 + x1 % 64 * 4096 + x2 % 64 * 64 + x3 % 64) && Utf8.valid ((x0 % 8 * 262144 + x1 % 64 * 4096 + x2 % 64 * 64 + x3 % 64 : Nat) : Int) then (x0 % 8 * 262144 + x1 % 64 * 4096 + x2 % 64 * 64 + x3 % 64, 4) else (65533, 1))
  else (65533, 1)
theorem decode_mdec (s : ByteArray) (p : Nat) : Utf8.decode s p = mdec s.size p (s.get! (p + 0)).toNat (s.get! (p + 1)).toNat (s.get! (p + 2)).toNat (s.get! (p + 3)).toNat := rfl
/-- The spec's decode over the numbers that it reads. -/
def qdec (n : Nat) (y0 y1 y2 y3 : Int) : Rn :=
  if y0 < 128 then (y0, 1, true)
  else if 192 ≤ y0 ∧ y0 < 224 then (if 2 ≤ n ∧ Cont y1 then fin ((y0 - 192) * 64 + (y1 - 128)) 128 2 else bad)
  else if 224 ≤ y0 ∧ y0 < 240 then (if 3 ≤ n ∧ Cont y1 ∧ Cont y2 then fin (((y0 - 224) * 64 + (y1 - 128)) * 64 + (y2 - 128)) 2048 3 else bad)
  else if 240 ≤ y0 ∧ y0 < 248 then (if 4 ≤ n ∧ Cont y1 ∧ Cont y2 ∧ Cont y3 then fin ((((y0 - 240) * 64 + (y1 - 128)) * 64 + (y2 - 128)) * 64 + (y3 - 128)) 65536 4 else bad)
  else bad
theorem dec_qdec (l : List Int) : dec l = qdec l.length (l.getD 0 0) (l.getD 1 0) (l.getD 2 0) (l.getD 3 0) := rfl
theorem mdec_prop (sz p x0 x1 x2 x3 : Nat) : mdec sz p x0 x1 x2 x3 =
    if x0 < 128 then (x0, 1)
    else if x0 / 32 = 6 ∧ p + 1 < sz ∧ x1 / 64 = 2 then (if 128 ≤ x0 % 32 * 64 + x1 % 64 then (x0 % 32 * 64 + x1 % 64, 2) else (65533, 1))
    else if (x0 / 16 = 14 ∧ p + 1 < sz ∧ x1 / 64 = 2) ∧ p + 2 < sz ∧ x2 / 64 = 2 then
      (if 2048 ≤ x0 % 16 * 4096 + x1 % 64 * 64 + x2 % 64 ∧ (x0 % 16 * 4096 + x1 % 64 * 64 + x2 % 64 < 55296 ∨ (57344 ≤ x0 % 16 * 4096 + x1 % 64 * 64 + x2 % 64 ∧ x0 % 16 * 4096 + x1 % 64 * 64 + x2 % 64 ≤ 1114111)) then (x0 % 16 * 4096 + x1 % 64 * 64 + x2 % 64, 3) else (65533, 1))
    else if ((x0 / 8 = 30 ∧ p + 1 < sz ∧ x1 / 64 = 2) ∧ p + 2 < sz ∧ x2 / 64 = 2) ∧ p + 3 < sz ∧ x3 / 64 = 2 then
      (if 65536 ≤ x0 % 8 * 262144 + x1 % 64 * 4096 + x2 % 64 * 64 + x3 % 64 ∧ (x0 % 8 * 262144 + x1 % 64 * 4096 + x2 % 64 * 64 + x3 % 64 < 55296 ∨ (57344 ≤ x0 % 8 * 262144 + x1 % 64 * 4096 + x2 % 64 * 64 + x3 % 64 ∧ x0 % 8 * 262144 + x1 % 64 * 4096 + x2 % 64 * 64 + x3 % 64 ≤ 1114111)) then (x0 % 8 * 262144 + x1 % 64 * 4096 + x2 % 64 * 64 + x3 % 64, 4) else (65533, 1))
    else (65533, 1) := by
  have hval : ∀ x : Nat, Utf8.valid (x : Int) = true ↔ (x < 55296 ∨ (57344 ≤ x ∧ x ≤ 1114111)) := by
    intro x
    simp only [Utf8.valid, Bool.or_eq_true, Bool.and_eq_true, decide_eq_true_eq]
    omega
  unfold mdec
  simp only [Bool.and_eq_true, decide_eq_true_eq, beq_iff_eq, hval, and_assoc]
theorem mdec_qdec (sz p n x0 x1 x2 x3 : Nat) (y0 y1 y2 y3 : Int) (h : p < sz) (hlen : n = sz - p) (g0 : y0 = x0) (g1 : p + 1 < sz → y1 = x1) (g2 : p + 2 < sz → y2 = x2) (g3 : p + 3 < sz → y3 = x3)
    (b0 : x0 < 256) (b1 : x1 < 256) (b2 : x2 < 256) (b3 : x3 < 256) : (((mdec sz p x0 x1 x2 x3).1 : Int), (mdec sz p x0 x1 x2 x3).2) = ((qdec n y0 y1 y2 y3).1, (qdec n y0 y1 y2 y3).2.1) := by
  have fb : ∀ {x low : Int} {n : Nat}, (x < low ∨ x > 1114111 ∨ (55296 ≤ x ∧ x < 57344)) → fin x low n = bad := fun h => by unfold fin; rw [if_pos h]
  have fg : ∀ {x low : Int} {n : Nat}, ¬ (x < low ∨ x > 1114111 ∨ (55296 ≤ x ∧ x < 57344)) → fin x low n = (x, n, true) := fun h => by unfold fin; rw [if_neg h]
  by_cases h0 : x0 < 128
  · have hm : mdec sz p x0 x1 x2 x3 = (x0, 1) := by rw [mdec_prop, if_pos h0]
    have hq : qdec n y0 y1 y2 y3 = (y0, 1, true) := by unfold qdec; rw [if_pos (by omega)]
    rw [hm, hq, g0]
  have h0' : ¬ y0 < 128 := by omega
  by_cases h1 : x0 / 32 = 6
  · have h1' : 192 ≤ y0 ∧ y0 < 224 := by omega
    by_cases hc : p + 1 < sz ∧ x1 / 64 = 2
    · have e1 := g1 hc.1
      have hc' : 2 ≤ n ∧ Cont y1 := by unfold Cont; omega
      have hq0 : qdec n y0 y1 y2 y3 = fin ((y0 - 192) * 64 + (y1 - 128)) 128 2 := by unfold qdec; rw [if_neg h0', if_pos h1', if_pos hc']
      by_cases hv : 128 ≤ x0 % 32 * 64 + x1 % 64
      · have hm : mdec sz p x0 x1 x2 x3 = (x0 % 32 * 64 + x1 % 64, 2) := by rw [mdec_prop, if_neg h0, if_pos ⟨h1, hc⟩, if_pos hv]
        rw [hm, hq0, fg (by omega)]
        refine Prod.ext ?_ rfl
        show ((x0 % 32 * 64 + x1 % 64 : Nat) : Int) = (y0 - 192) * 64 + (y1 - 128)
        omega
      · have hm : mdec sz p x0 x1 x2 x3 = (65533, 1) := by rw [mdec_prop, if_neg h0, if_pos ⟨h1, hc⟩, if_neg hv]
        rw [hm, hq0, fb (by omega)]
        rfl
    · have e1 : ¬ (2 ≤ n ∧ Cont y1) := by
        unfold Cont
        intro hh
        have := g1 (by omega)
        omega
      have hm : mdec sz p x0 x1 x2 x3 = (65533, 1) := by rw [mdec_prop, if_neg h0, if_neg (fun hh => hc hh.2), if_neg (by omega), if_neg (by omega)]
      have hq : qdec n y0 y1 y2 y3 = bad := by unfold qdec; rw [if_neg h0', if_pos h1', if_neg e1]
      rw [hm, hq]
      rfl
  have h1' : ¬ (192 ≤ y0 ∧ y0 < 224) := by omega
  by_cases h2 : x0 / 16 = 14
  · have h2' : 224 ≤ y0 ∧ y0 < 240 := by omega
    by_cases hc : (p + 1 < sz ∧ x1 / 64 = 2) ∧ (p + 2 < sz ∧ x2 / 64 = 2)
    · have e1 := g1 hc.1.1
      have e2 := g2 hc.2.1
      have hc' : 3 ≤ n ∧ Cont y1 ∧ Cont y2 := by unfold Cont; omega
      have hq0 : qdec n y0 y1 y2 y3 = fin (((y0 - 224) * 64 + (y1 - 128)) * 64 + (y2 - 128)) 2048 3 := by unfold qdec; rw [if_neg h0', if_neg h1', if_pos h2', if_pos hc']
      by_cases hv : 2048 ≤ x0 % 16 * 4096 + x1 % 64 * 64 + x2 % 64 ∧ (x0 % 16 * 4096 + x1 % 64 * 64 + x2 % 64 < 55296 ∨ (57344 ≤ x0 % 16 * 4096 + x1 % 64 * 64 + x2 % 64 ∧ x0 % 16 * 4096 + x1 % 64 * 64 + x2 % 64 ≤ 1114111))
      · have hm : mdec sz p x0 x1 x2 x3 = (x0 % 16 * 4096 + x1 % 64 * 64 + x2 % 64, 3) := by rw [mdec_prop, if_neg h0, if_neg (fun hh => h1 hh.1), if_pos ⟨⟨h2, hc.1⟩, hc.2⟩, if_pos hv]
        rw [hm, hq0, fg (by omega)]
        refine Prod.ext ?_ rfl
        show ((x0 % 16 * 4096 + x1 % 64 * 64 + x2 % 64 : Nat) : Int) = ((y0 - 224) * 64 + (y1 - 128)) * 64 + (y2 - 128)
        omega
      · have hm : mdec sz p x0 x1 x2 x3 = (65533, 1) := by rw [mdec_prop, if_neg h0, if_neg (fun hh => h1 hh.1), if_pos ⟨⟨h2, hc.1⟩, hc.2⟩, if_neg hv]
        rw [hm, hq0, fb (by omega)]
        rfl
    · have e1 : ¬ (3 ≤ n ∧ Cont y1 ∧ Cont y2) := by
        unfold Cont
        intro hh
        have := g1 (by omega)
        have := g2 (by omega)
        omega
      have hm : mdec sz p x0 x1 x2 x3 = (65533, 1) := by rw [mdec_prop, if_neg h0, if_neg (fun hh => h1 hh.1), if_neg (fun hh => hc ⟨hh.1.2, hh.2⟩), if_neg (by omega)]
      have hq : qdec n y0 y1 y2 y3 = bad := by unfold qdec; rw [if_neg h0', if_neg h1', if_pos h2', if_neg e1]
      rw [hm, hq]
      rfl
  have h2' : ¬ (224 ≤ y0 ∧ y0 < 240) := by omega
  by_cases h3 : x0 / 8 = 30
  · have h3' : 240 ≤ y0 ∧ y0 < 248 := by omega
    by_cases hc : ((p + 1 < sz ∧ x1 / 64 = 2) ∧ (p + 2 < sz ∧ x2 / 64 = 2)) ∧ (p + 3 < sz ∧ x3 / 64 = 2)
    · have e1 := g1 hc.1.1.1
      have e2 := g2 hc.1.2.1
      have e3 := g3 hc.2.1
      have hc' : 4 ≤ n ∧ Cont y1 ∧ Cont y2 ∧ Cont y3 := by unfold Cont; omega
      have hq0 : qdec n y0 y1 y2 y3 = fin ((((y0 - 240) * 64 + (y1 - 128)) * 64 + (y2 - 128)) * 64 + (y3 - 128)) 65536 4 := by unfold qdec; rw [if_neg h0', if_neg h1', if_neg h2', if_pos h3', if_pos hc']
      by_cases hv : 65536 ≤ x0 % 8 * 262144 + x1 % 64 * 4096 + x2 % 64 * 64 + x3 % 64 ∧ (x0 % 8 * 262144 + x1 % 64 * 4096 + x2 % 64 * 64 + x3 % 64 < 55296 ∨ (57344 ≤ x0 % 8 * 262144 + x1 % 64 * 4096 + x2 % 64 * 64 + x3 % 64 ∧ x0 % 8 * 262144 + x1 % 64 * 4096 + x2 % 64 * 64 + x3 % 64 ≤ 1114111))
      · have hm : mdec sz p x0 x1 x2 x3 = (x0 % 8 * 262144 + x1 % 64 * 4096 + x2 % 64 * 64 + x3 % 64, 4) := by rw [mdec_prop, if_neg h0, if_neg (fun hh => h1 hh.1), if_neg (fun hh => h2 hh.1.1), if_pos ⟨⟨⟨h3, hc.1.1⟩, hc.1.2⟩, hc.2⟩, if_pos hv]
        rw [hm, hq0, fg (by omega)]
        refine Prod.ext ?_ rfl
        show ((x0 % 8 * 262144 + x1 % 64 * 4096 + x2 % 64 * 64 + x3 % 64 : Nat) : Int) = (((y0 - 240) * 64 + (y1 - 128)) * 64 + (y2 - 128)) * 64 + (y3 - 128)
        omega
      · have hm : mdec sz p x0 x1 x2 x3 = (65533, 1) := by rw [mdec_prop, if_neg h0, if_neg (fun hh => h1 hh.1), if_neg (fun hh => h2 hh.1.1), if_pos ⟨⟨⟨h3, hc.1.1⟩, hc.1.2⟩, hc.2⟩, if_neg hv]
        rw [hm, hq0, fb (by omega)]
        rfl
    · have e1 : ¬ (4 ≤ n ∧ Cont y1 ∧ Cont y2 ∧ Cont y3) := by
        unfold Cont
        intro hh
        have := g1 (by omega)
        have := g2 (by omega)
        have := g3 (by omega)
        omega
      have hm : mdec sz p x0 x1 x2 x3 = (65533, 1) := by rw [mdec_prop, if_neg h0, if_neg (fun hh => h1 hh.1), if_neg (fun hh => h2 hh.1.1), if_neg (fun hh => hc ⟨⟨hh.1.1.2, hh.1.2⟩, hh.2⟩)]
      have hq : qdec n y0 y1 y2 y3 = bad := by unfold qdec; rw [if_neg h0', if_neg h1', if_neg h2', if_pos h3', if_neg e1]
      rw [hm, hq]
      rfl
  have hm : mdec sz p x0 x1 x2 x3 = (65533, 1) := by rw [mdec_prop, if_neg h0, if_neg (fun hh => h1 hh.1), if_neg (fun hh => h2 hh.1.1), if_neg (fun hh => h3 hh.1.1.1)]
  have hq : qdec n y0 y1 y2 y3 = bad := by unfold qdec; rw [if_neg h0', if_neg h1', if_neg h2', if_neg (by omega)]
  rw [hm, hq]
  rfl
theorem decode_eq (s : ByteArray) (p : Nat) (h : p < s.size) : (((Utf8.decode s p).1 : Int), (Utf8.decode s p).2) = ((dec ((bytesOf s).drop p)).1, (dec ((bytesOf s).drop p)).2.1) := by
  rw [decode_mdec, dec_qdec]
  refine mdec_qdec _ _ _ _ _ _ _ _ _ _ _ h (by rw [List.length_drop, bytesOf_length]) (get_byte s p 0 (by omega)) (get_byte s p 1) (get_byte s p 2) (get_byte s p 3) ?_ ?_ ?_ ?_ <;> exact UInt8.toNat_lt _
end Go.Proofs.Ytbeoegdkoodlfaa.Q

/- The functions of package runes and of its reference tell what QRunes says. -/
set_option linter.unusedVariables false
set_option linter.unusedSimpArgs false
namespace Go.Proofs.Ytbeoegdkoodlfaa.Q
open Go.RowKit Go.Proofs.YtbeoegdkoodlfaaW.PrintWords Go.Proofs.YtbeoegdkoodlfaaW.PrintMore Go.Proofs.Ytbeoegdkoodlfaa.G
/-- Where each rune begins. -/
def withPos : List Rn → Nat → List (Int × Nat)
  | [], _ => []
  | d :: r, p => (d.1, p) :: withPos r (p + d.2.1)
theorem withPos_len (d : List Rn) (p : Nat) : (withPos d p).length = d.length := by
  induction d generalizing p with
  | nil => rfl
  | cons a d ih => simp [withPos, ih]
theorem withPos_fst (d : List Rn) (p : Nat) : (withPos d p).map (·.1) = d.map (·.1) := by
  induction d generalizing p with
  | nil => rfl
  | cons a d ih => simp [withPos, ih]
theorem drop_ne {s : ByteArray} {p : Nat} (h : p < s.size) : (bytesOf s).drop p ≠ [] := by
  intro hh
  have := congrArg List.length hh
  rw [List.length_drop, bytesOf_length, List.length_nil] at this
  omega
theorem dec_fits_at {s : ByteArray} {p : Nat} (h : p < s.size) : p + (dec ((bytesOf s).drop p)).2.1 ≤ s.size := by
  have := dec_fits (List.length_pos_iff.2 (drop_ne h))
  rw [List.length_drop, bytesOf_length] at this
  omega
theorem runesAt_eq (s : ByteArray) : ∀ (f p : Nat), s.size ≤ p + f → runesAt s f p = withPos (ds ((bytesOf s).drop p)) p := by
  intro f
  induction f with
  | zero =>
    intro p hp
    rw [List.drop_of_length_le (by rw [bytesOf_length]; omega), ds_nil]
    rfl
  | succ f ih =>
    intro p hp
    unfold runesAt
    by_cases h : p < s.size
    · have e := decode_eq s p h
      simp only [Prod.mk.injEq] at e
      have hw := dec_width ((bytesOf s).drop p)
      rw [if_pos h, ds_cons (drop_ne h), e.1, e.2, ih _ (by omega), List.drop_drop]
      rfl
    · rw [if_neg h, List.drop_of_length_le (by rw [bytesOf_length]; omega), ds_nil]
      rfl
theorem validAt_eq (s : ByteArray) : ∀ (f p : Nat) (l : Int), s.size ≤ p + f → p ≤ s.size → (l = -1 ∨ (0 ≤ l ∧ l + 1 ≤ p)) →
    validAt s f p l = (!(decide (0 ≤ l ∧ (p : Int) = l + 1)) && (ds ((bytesOf s).drop p)).all (·.2.2)) := by
  intro f
  induction f with
  | zero =>
    intro p l hp hle hl
    rw [List.drop_of_length_le (by rw [bytesOf_length]; omega), ds_nil]
    unfold validAt
    simp only [List.all_nil, Bool.and_true]
    rw [Bool.eq_iff_iff]
    simp only [Bool.or_eq_true, decide_eq_true_eq, Bool.not_eq_true', decide_eq_false_iff_not]
    omega
  | succ f ih =>
    intro p l hp hle hl
    unfold validAt
    by_cases h : p < s.size
    · have e := decode_eq s p h
      simp only [Prod.mk.injEq] at e
      have hw := dec_width ((bytesOf s).drop p)
      have hf := dec_fits_at h
      have hok := dec_ok_iff ((bytesOf s).drop p) ((byt_bytesOf s).drop p)
      rw [if_pos h, ds_cons (drop_ne h), e.1, e.2]
      by_cases h1 : 0 ≤ l ∧ (p : Int) = l + 1
      · rw [if_pos h1, decide_eq_true h1]
        rfl
      · rw [if_neg h1, decide_eq_false h1]
        simp only [Bool.not_false, Bool.true_and, List.all_cons]
        by_cases h2 : (dec ((bytesOf s).drop p)).1 = 65533
        · rw [if_pos h2, ih _ _ (by omega) hf (by omega), List.drop_drop]
          congr 1
          by_cases h3 : (dec ((bytesOf s).drop p)).2.1 = 1
          · rw [hok.2 ⟨h2, h3⟩, decide_eq_true (by omega)]
            rfl
          · have : (dec ((bytesOf s).drop p)).2.2 = true := by
              cases hh : (dec ((bytesOf s).drop p)).2.2
              · exact absurd (hok.1 hh).2 h3
              · rfl
            rw [this, decide_eq_false (by omega)]
            rfl
        · rw [if_neg h2, ih _ _ (by omega) hf (by omega), List.drop_drop]
          have : (dec ((bytesOf s).drop p)).2.2 = true := by
            cases hh : (dec ((bytesOf s).drop p)).2.2
            · exact absurd (hok.1 hh).1 h2
            · rfl
          rw [this, decide_eq_false (by omega)]
          rfl
    · rw [if_neg h, List.drop_of_length_le (by rw [bytesOf_length]; omega), ds_nil]
      simp only [List.all_nil, Bool.and_true]
      rw [Bool.eq_iff_iff]
      simp only [Bool.or_eq_true, decide_eq_true_eq, Bool.not_eq_true', decide_eq_false_iff_not]
      omega
theorem atAt_eq (s : ByteArray) (n : Int) : ∀ (f p k : Nat), s.size ≤ p + f → (n < 0 ∨ (k : Int) ≤ n) →
    atAt s n f p k = match (if n < 0 then none else (withPos (ds ((bytesOf s).drop p)) p)[n.toNat - k]?) with
      | none => (0, 0, false)
      | some x => (x.1, (x.2 : Int), true) := by
  intro f
  induction f with
  | zero =>
    intro p k hp hk
    rw [List.drop_of_length_le (by rw [bytesOf_length]; omega), ds_nil]
    unfold atAt
    split <;> simp_all [withPos]
  | succ f ih =>
    intro p k hp hk
    unfold atAt
    by_cases h : p < s.size
    · have e := decode_eq s p h
      simp only [Prod.mk.injEq] at e
      have hw := dec_width ((bytesOf s).drop p)
      rw [if_pos h, ds_cons (drop_ne h), e.1, e.2]
      by_cases h1 : (k : Int) = n
      · rw [if_pos h1, if_neg (by omega), show n.toNat - k = 0 by omega]
        rfl
      · rw [if_neg h1, ih _ _ (by omega) (by omega), List.drop_drop]
        by_cases h2 : n < 0
        · rw [if_pos h2, if_pos h2]
        · rw [if_neg h2, if_neg h2, show n.toNat - k = (n.toNat - (k + 1)) + 1 by omega]
          rfl
    · rw [if_neg h, List.drop_of_length_le (by rw [bytesOf_length]; omega), ds_nil]
      split <;> simp_all [withPos]
theorem withPos_get (d : List Rn) (p i : Nat) (h : i < d.length) : (withPos d p)[i]? = some ((d[i]).1, p + wd (d.take i)) := by
  induction d generalizing p i with
  | nil => simp at h
  | cons a d ih =>
    cases i with
    | zero => simp [withPos, wd]
    | succ i =>
      simp only [List.length_cons] at h
      simp only [withPos, List.getElem?_cons_succ, ih _ _ (by omega : i < d.length), List.getElem_cons_succ, List.take_succ_cons, wd, List.map_cons, List.sum_cons]
      simp only [Option.some.injEq, Prod.mk.injEq, true_and]
      omega
theorem empty_size : (⟨#[]⟩ : ByteArray).size = 0 := rfl
theorem bytes_empty : bytesOf (⟨#[]⟩ : ByteArray) = [] := rfl
theorem cutAt_eq (s : ByteArray) (n : Int) : ∀ (f p k : Nat), s.size ≤ p + f → p ≤ s.size → (0 < n → (k : Int) ≤ n) → (n ≤ 0 → p = 0 ∧ k = 0) →
    bytesOf (cutAt s n f p k) = if n ≤ 0 then [] else (bytesOf s).take (p + wd ((ds ((bytesOf s).drop p)).take (n.toNat - k))) := by
  intro f
  induction f with
  | zero =>
    intro p k hp hle hk h0
    rw [List.drop_of_length_le (by rw [bytesOf_length]; omega), ds_nil]
    unfold cutAt
    split
    · rfl
    · rw [List.take_of_length_le]; rw [bytesOf_length]; omega
  | succ f ih =>
    intro p k hp hle hk h0
    unfold cutAt
    by_cases h : p < s.size
    · have e := decode_eq s p h
      simp only [Prod.mk.injEq] at e
      have hw := dec_width ((bytesOf s).drop p)
      have hf := dec_fits_at h
      rw [if_pos h]
      by_cases hn : n ≤ 0
      · obtain ⟨rfl, rfl⟩ := h0 hn
        rw [if_pos (by omega), if_pos hn, bytesOf_extract]
        rfl
      · rw [if_neg hn]
        by_cases h1 : (k : Int) ≥ n
        · have := hk (by omega)
          rw [if_pos h1, show n.toNat - k = 0 by omega, bytesOf_extract]
          simp [wd]
        · rw [if_neg h1, e.2, ih _ _ (by omega) hf (fun _ => by omega) (fun hh => absurd hh hn), if_neg hn]
          congr 1
          conv => rhs; rw [ds_cons (drop_ne h), show n.toNat - k = (n.toNat - (k + 1)) + 1 by omega, List.take_succ_cons]
          simp only [wd, List.map_cons, List.sum_cons, List.drop_drop]
          omega
    · rw [if_neg h, List.drop_of_length_le (by rw [bytesOf_length]; omega), ds_nil]
      split
      · rfl
      · rw [List.take_of_length_le]; rw [bytesOf_length]; omega
/-- All runes of a text. -/
def D (s : ByteArray) : List Rn := ds (bytesOf s)
theorem D_wd (s : ByteArray) : wd (D s) = s.size := by rw [D, ds_wd _ _ (Nat.le_refl _), bytesOf_length]
theorem D_len (s : ByteArray) : (D s).length ≤ s.size := by rw [← bytesOf_length]; exact ds_len_le _ _ (Nat.le_refl _)
def vld (s : ByteArray) : Bool := (D s).all (·.2.2)
theorem rValid {s : ByteArray} (h : s.size < 35184372088832) : runes_Valid.f s = some (vld s) := by
  unfold runes_Valid.f
  rw [if_pos (by omega), validAt_eq s s.size 0 (-1) (by omega) (by omega) (.inl rfl), List.drop_zero, decide_eq_false (by omega)]
  rfl
/-- The first runes' bytes. -/
def cutB (s : ByteArray) (n : Int) : List Int := (bytesOf s).take (wd ((D s).take n.toNat))
end Go.Proofs.Ytbeoegdkoodlfaa.Q

/- The reference's runes tell what QRunes says. -/
set_option linter.unusedVariables false
set_option linter.unusedSimpArgs false
namespace Go.Proofs.Ytbeoegdkoodlfaa.Q
open Go.RowKit Go.Proofs.YtbeoegdkoodlfaaW.PrintWords Go.Proofs.YtbeoegdkoodlfaaW.PrintMore Go.Proofs.Ytbeoegdkoodlfaa.XVam
theorem bt_bytes (s : ByteArray) (i : Nat) : bt s (i : Int) = (bytesOf s).getD i 0 := by
  rw [← rd_bytesOf]
  simp [rd]
theorem w32 {x : Int} (h0 : -2147483648 ≤ x) (h1 : x < 2147483648) : wrap32 x = x := by unfold wrap32; omega
/-- How the reference reads what goes on behind the first byte. -/
def rl (n : Nat) (low : Int) : Nat → Int → List Int → Rn
  | 0, r, _ => fin r low n
  | _ + 1, _, [] => bad
  | d + 1, r, c :: t => if Cont c then rl n low d (r * 64 + (c - 128)) t else bad
def tri (x : Rn) : Int × Int × Bool := (x.1, (x.2.1 : Int), x.2.2)
theorem getD_drop0 {l : List Int} {i : Nat} (h : i < l.length) : l.drop i = l.getD i 0 :: l.drop (i + 1) := by
  rw [List.drop_eq_getElem_cons h]
  congr 1
  rw [List.getD_eq_getElem?_getD, List.getElem?_eq_getElem h]
  rfl
theorem refDecode_l (s : ByteArray) (n : Nat) (low : Int) (hn : n ≤ s.size) (hs : s.size < 4611686018427387904) : ∀ (d i : Nat) (r : Int), i + d = n → 1 ≤ i → 0 ≤ r → (r + 1) * 64 ^ d ≤ 2097152 →
    Ev (fun k => loessref1_Decode.l0 k s (n : Int) low r (i : Int)) (tri (rl n low d r ((bytesOf s).drop i))) := by
  intro d
  induction d with
  | zero =>
    intro i r hi h1 h0 hr
    rw [Int.pow_zero, Int.mul_one] at hr
    refine Ev.step (f := fun _ => some (tri (fin r low n))) (fun k => ?_) (Ev.now _)
    simp only [loessref1_Decode.l0]
    rw [if_neg (by omega)]
    unfold fin
    by_cases h2 : r < low
    · rw [if_pos h2, if_pos (.inl h2)]; rfl
    · rw [if_neg h2]
      by_cases h3 : r > 1114111
      · rw [if_pos h3, if_pos (.inr (.inl h3))]; rfl
      · rw [if_neg h3]
        by_cases h4 : r ≥ 55296
        · rw [if_pos h4]
          by_cases h5 : r < 57344
          · rw [if_pos h5, if_pos (.inr (.inr ⟨h4, h5⟩))]; rfl
          · rw [if_neg h5, if_neg (by omega)]; rfl
        · rw [if_neg h4, if_neg (by omega)]; rfl
  | succ d ih =>
    intro i r hi h1 h0 hr
    have hlt : i < (bytesOf s).length := by rw [bytesOf_length]; omega
    have hb := (byt_bytesOf s) ((bytesOf s).getD i 0) (by
      rw [List.getD_eq_getElem?_getD, List.getElem?_eq_getElem hlt]
      exact List.getElem_mem hlt)
    rw [getD_drop0 hlt]
    have hp : (0 : Int) < 64 ^ d := by
      have := Nat.pow_pos (n := d) (show 0 < 64 by decide)
      exact_mod_cast this
    have hr2 : (r + 1) * 64 * 64 ^ d ≤ 2097152 := by rw [Int.mul_assoc, Int.mul_comm 64 (64 ^ d), ← Int.pow_succ]; exact hr
    have hr3 : (r + 1) * 64 ≤ 2097152 := by
      have := Int.mul_le_mul_of_nonneg_left (show (1 : Int) ≤ 64 ^ d by omega) (show 0 ≤ (r + 1) * 64 by omega)
      omega
    by_cases hc : Cont ((bytesOf s).getD i 0)
    · have hc' := hc
      unfold Cont at hc'
      refine Ev.step (f := fun k => loessref1_Decode.l0 k s (n : Int) low (r * 64 + ((bytesOf s).getD i 0 - 128)) ((i + 1 : Nat) : Int)) (fun k => ?_) (evEq (ih (i + 1) (r * 64 + ((bytesOf s).getD i 0 - 128)) (by omega) (by omega) (by omega) ?_) ?_)
      · simp only [loessref1_Decode.l0]
        rw [if_pos (by omega), if_pos (by omega), if_pos (by omega), bt_bytes, if_neg (by omega), if_neg (by omega)]
        rw [w32 (x := r * 64) (by omega) (by omega), w32 (x := (bytesOf s).getD i 0) (by omega) (by omega), w32 (x := r * 64 + (bytesOf s).getD i 0) (by omega) (by omega), w32 (by omega) (by omega), w64 (by omega) (by omega)]
        rw [show r * 64 + (bytesOf s).getD i 0 - 128 = r * 64 + ((bytesOf s).getD i 0 - 128) by omega]
        rfl
      · refine Int.le_trans (Int.mul_le_mul_of_nonneg_right ?_ (Int.le_of_lt hp)) hr2
        omega
      · show _ = tri (if Cont ((bytesOf s).getD i 0) then rl n low d (r * 64 + ((bytesOf s).getD i 0 - 128)) ((bytesOf s).drop (i + 1)) else bad)
        rw [if_pos hc]
    · have hc' := hc
      unfold Cont at hc'
      refine Ev.step (f := fun _ => some (tri bad)) (fun k => ?_) (evEq (Ev.now _) ?_)
      · simp only [loessref1_Decode.l0]
        rw [if_pos (by omega), if_pos (by omega), if_pos (by omega), bt_bytes]
        by_cases h2 : (bytesOf s).getD i 0 < 128
        · rw [if_pos h2]; rfl
        · rw [if_neg h2, if_pos (by omega)]; rfl
      · unfold rl
        rw [if_neg hc]
theorem dec_rl {l : List Int} (h : l ≠ []) : dec l =
    if l.getD 0 0 < 128 then (l.getD 0 0, 1, true)
    else if 192 ≤ l.getD 0 0 ∧ l.getD 0 0 < 224 then (if l.length < 2 then bad else rl 2 128 1 (l.getD 0 0 - 192) (l.drop 1))
    else if 224 ≤ l.getD 0 0 ∧ l.getD 0 0 < 240 then (if l.length < 3 then bad else rl 3 2048 2 (l.getD 0 0 - 224) (l.drop 1))
    else if 240 ≤ l.getD 0 0 ∧ l.getD 0 0 < 248 then (if l.length < 4 then bad else rl 4 65536 3 (l.getD 0 0 - 240) (l.drop 1))
    else bad := by
  unfold dec
  by_cases h0 : l.getD 0 0 < 128
  · rw [if_pos h0, if_pos h0]
  rw [if_neg h0, if_neg h0]
  by_cases h1 : 192 ≤ l.getD 0 0 ∧ l.getD 0 0 < 224
  · rw [if_pos h1, if_pos h1]
    by_cases hl : l.length < 2
    · rw [if_neg (by omega), if_pos hl]
    · rw [if_neg hl]
      rw [getD_drop0 (i := 1) (by omega)]
      unfold rl
      by_cases hc : Cont (l.getD 1 0)
      · rw [if_pos ⟨by omega, hc⟩, if_pos hc]; rfl
      · rw [if_neg (fun hh => hc hh.2), if_neg hc]
  rw [if_neg h1, if_neg h1]
  by_cases h2 : 224 ≤ l.getD 0 0 ∧ l.getD 0 0 < 240
  · rw [if_pos h2, if_pos h2]
    by_cases hl : l.length < 3
    · rw [if_neg (by omega), if_pos hl]
    · rw [if_neg hl]
      rw [getD_drop0 (i := 1) (by omega), getD_drop0 (i := 2) (by omega)]
      unfold rl
      by_cases hc : Cont (l.getD 1 0)
      · rw [if_pos hc]
        unfold rl
        by_cases hc2 : Cont (l.getD 2 0)
        · rw [if_pos ⟨by omega, hc, hc2⟩, if_pos hc2]; rfl
        · rw [if_neg (fun hh => hc2 hh.2.2), if_neg hc2]
      · rw [if_neg (fun hh => hc hh.2.1), if_neg hc]
  rw [if_neg h2, if_neg h2]
  by_cases h3 : 240 ≤ l.getD 0 0 ∧ l.getD 0 0 < 248
  · rw [if_pos h3, if_pos h3]
    by_cases hl : l.length < 4
    · rw [if_neg (by omega), if_pos hl]
    · rw [if_neg hl]
      rw [getD_drop0 (i := 1) (by omega), getD_drop0 (i := 2) (by omega), getD_drop0 (i := 3) (by omega)]
      unfold rl
      by_cases hc : Cont (l.getD 1 0)
      · rw [if_pos hc]
        unfold rl
        by_cases hc2 : Cont (l.getD 2 0)
        · rw [if_pos hc2]
          unfold rl
          by_cases hc3 : Cont (l.getD 3 0)
          · rw [if_pos ⟨by omega, hc, hc2, hc3⟩, if_pos hc3]; rfl
          · rw [if_neg (fun hh => hc3 hh.2.2.2), if_neg hc3]
        · rw [if_neg (fun hh => hc2 hh.2.2.1), if_neg hc2]
      · rw [if_neg (fun hh => hc hh.2.1), if_neg hc]
  rw [if_neg h3, if_neg h3]
theorem refDecode_ev {s : ByteArray} (h0 : 0 < s.size) (hs : s.size < 4611686018427387904) : Ev (fun k => loessref1_Decode.f k s) (tri (dec (bytesOf s))) := by
  have hlen := bytesOf_length s
  have hne : bytesOf s ≠ [] := by intro hh; rw [hh] at hlen; simp at hlen; omega
  have hlt : 0 < (bytesOf s).length := by omega
  have hb := (byt_bytesOf s) ((bytesOf s).getD 0 0) (by
    rw [List.getD_eq_getElem?_getD, List.getElem?_eq_getElem hlt]
    exact List.getElem_mem hlt)
  have hbt : bt s 0 = (bytesOf s).getD 0 0 := bt_bytes s 0
  -- the three ways on
  have hj2 : ∀ (n : Nat) (low r : Int), 2 ≤ n → n ≤ 4 → 0 ≤ r → (r + 1) * 64 ^ (n - 1) ≤ 2097152 →
      Ev (fun k => loessref1_Decode.j2 k s (n : Int) low r) (tri (if (bytesOf s).length < n then bad else rl n low (n - 1) r ((bytesOf s).drop 1))) := by
    intro n low r hn2 hn4 hr0 hr
    by_cases hl : (bytesOf s).length < n
    · rw [if_pos hl]
      refine Ev.step (f := fun _ => some (tri bad)) (fun k => ?_) (Ev.now _)
      simp only [loessref1_Decode.j2]
      rw [if_pos (by omega)]
      rfl
    · rw [if_neg hl]
      refine Ev.step (fun k => ?_) (refDecode_l s n low (by omega) hs (n - 1) 1 r (by omega) (by omega) hr0 hr)
      simp only [loessref1_Decode.j2]
      rw [if_neg (by omega)]
      rfl
  rw [dec_rl hne]
  generalize hc : (bytesOf s).getD 0 0 = c at *
  unfold loessref1_Decode.f
  refine Ev.congr (fun k => if_pos (by omega)) ?_
  rw [hbt]
  by_cases c0 : c < 128
  · refine Ev.congr (fun k => if_pos c0) ?_
    rw [if_pos c0, w32 (by omega) (by omega)]
    exact Ev.now _
  rw [if_neg c0]
  refine Ev.congr (fun k => if_neg c0) ?_
  -- to j0 with a bool
  have hj0 : ∀ k, (if c ≥ 192 then loessref1_Decode.j0 k s c (decide (c < 224)) else loessref1_Decode.j0 k s c false) = loessref1_Decode.j0 k s c (decide (192 ≤ c ∧ c < 224)) := by
    intro k
    by_cases h : c ≥ 192
    · rw [if_pos h]; congr 1; simp [h]
    · rw [if_neg h]; congr 1; simp; omega
  refine Ev.congr hj0 ?_
  by_cases c1 : 192 ≤ c ∧ c < 224
  · rw [if_pos c1]
    refine Ev.step (fun k => ?_) (hj2 2 128 (c - 192) (by omega) (by omega) (by omega) (by simp; omega))
    simp only [loessref1_Decode.j0]
    rw [if_pos (by simp [c1]), w32 (x := c) (by omega) (by omega), w32 (by omega) (by omega)]
    rfl
  rw [if_neg c1]
  have hj1 : ∀ k, loessref1_Decode.j0 (k + 1) s c (decide (192 ≤ c ∧ c < 224)) = loessref1_Decode.j1 k s c (decide (224 ≤ c ∧ c < 240)) := by
    intro k
    simp only [loessref1_Decode.j0]
    rw [if_neg (by simpa using fun h => by omega)]
    by_cases h : c ≥ 224
    · rw [if_pos h]; congr 1; simp [h]
    · rw [if_neg h]; congr 1; simp; omega
  refine Ev.step hj1 ?_
  by_cases c2 : 224 ≤ c ∧ c < 240
  · rw [if_pos c2]
    refine Ev.step (fun k => ?_) (hj2 3 2048 (c - 224) (by omega) (by omega) (by omega) (by simp; omega))
    simp only [loessref1_Decode.j1]
    rw [if_pos (by simp [c2]), w32 (x := c) (by omega) (by omega), w32 (by omega) (by omega)]
    rfl
  rw [if_neg c2]
  by_cases c3 : 240 ≤ c ∧ c < 248
  · rw [if_pos c3]
    refine Ev.step (fun k => ?_) (hj2 4 65536 (c - 240) (by omega) (by omega) (by omega) (by simp; omega))
    simp only [loessref1_Decode.j1]
    rw [if_neg (by simpa using fun h => by omega), if_pos (by omega), if_pos (by omega), w32 (x := c) (by omega) (by omega), w32 (by omega) (by omega)]
    rfl
  · rw [if_neg c3]
    refine Ev.step (f := fun _ => some (tri bad)) (fun k => ?_) (Ev.now _)
    simp only [loessref1_Decode.j1]
    rw [if_neg (by simpa using fun h => by omega)]
    by_cases h : c ≥ 240
    · rw [if_pos h, if_neg (by omega)]; rfl
    · rw [if_neg h]; rfl
/-- Where the runes begin, as the reference lists them. -/
def begins : List Rn → Nat → List Int
  | [], _ => []
  | d :: r, p => (p : Int) :: begins r (p + d.2.1)
theorem begins_len (d : List Rn) (p : Nat) : (begins d p).length = d.length := by
  induction d generalizing p with
  | nil => rfl
  | cons a d ih => simp [begins, ih]
theorem begins_get (d : List Rn) (p i : Nat) (h : i < d.length) : (begins d p).getD i 0 = ((p + wd (d.take i) : Nat) : Int) := by
  induction d generalizing p i with
  | nil => simp at h
  | cons a d ih =>
    cases i with
    | zero => simp [begins, wd]
    | succ i =>
      simp only [List.length_cons] at h
      have := ih (p + a.2.1) i (by omega)
      simp only [begins, List.getD_cons_succ, List.take_succ_cons, wd, List.map_cons, List.sum_cons] at this ⊢
      rw [this]
      omega
theorem extract_bytes (s : ByteArray) (p : Nat) : bytesOf (s.extract p s.size) = (bytesOf s).drop p := by
  rw [bytesOf_extract, List.take_of_length_le (by rw [bytesOf_length]; omega)]
theorem refValid_l (s : ByteArray) (hs : s.size < 17592186044416) : ∀ (n p : Nat), s.size ≤ p + n → p ≤ s.size →
    Ev (fun k => loessref1_Valid.l0 k s (p : Int)) ((ds ((bytesOf s).drop p)).all (·.2.2)) := by
  intro n
  induction n with
  | zero =>
    intro p h hp
    rw [List.drop_of_length_le (by rw [bytesOf_length]; omega), ds_nil]
    refine Ev.step (f := fun _ => some true) (fun k => ?_) (Ev.now _)
    simp only [loessref1_Valid.l0]
    rw [if_neg (by omega)]
  | succ n ih =>
    intro p h hp
    by_cases hlt : p < s.size
    · have hne : (bytesOf s).drop p ≠ [] := by
        intro hh
        have := congrArg List.length hh
        rw [List.length_drop, bytesOf_length, List.length_nil] at this
        omega
      have hw := dec_width ((bytesOf s).drop p)
      have hf := dec_fits (List.length_pos_iff.2 hne)
      rw [List.length_drop, bytesOf_length] at hf
      have hd := refDecode_ev (s := s.extract p s.size) (by rw [ByteArray.size_extract]; omega) (by rw [ByteArray.size_extract]; omega)
      rw [extract_bytes] at hd
      have hrec := ih (p + (dec ((bytesOf s).drop p)).2.1) (by omega) (by omega)
      rw [ds_cons hne]
      refine Ev.step (f := fun k => (loessref1_Decode.f k (s.extract p s.size)).bind fun x => if x.2.2 = true then loessref1_Valid.l0 k s (wrap64 ((p : Int) + x.2.1)) else some false) (fun k => ?_) (Ev.bind hd ?_)
      · simp only [loessref1_Valid.l0]
        rw [if_pos (by omega), if_pos (by omega), if_pos (by omega), Int.toNat_natCast]
      · simp only [tri, List.all_cons]
        by_cases hok : (dec ((bytesOf s).drop p)).2.2 = true
        · refine Ev.congr (fun k => if_pos hok) (Ev.congr (fun k => ?_) (evEq hrec (by rw [hok, Bool.true_and, List.drop_drop])))
          rw [w64 (by omega) (by omega)]
          rfl
        · have h2 : (dec ((bytesOf s).drop p)).2.2 = false := by simpa using hok
          exact Ev.congr (fun k => if_neg hok) (evEq (Ev.now false) (by rw [h2, Bool.false_and]))
    · rw [List.drop_of_length_le (by rw [bytesOf_length]; omega), ds_nil]
      refine Ev.step (f := fun _ => some true) (fun k => ?_) (Ev.now _)
      simp only [loessref1_Valid.l0]
      rw [if_neg (by omega)]
theorem refValid_ev {s : ByteArray} (hs : s.size < 17592186044416) : Ev (fun k => loessref1_Valid.f k s) ((ds (bytesOf s)).all (·.2.2)) := by
  have h := refValid_l s hs s.size 0 (by omega) (by omega)
  rw [List.drop_zero] at h
  exact h
--FI
end Go.Proofs.Ytbeoegdkoodlfaa.Q

/- Numbers as bytes, in plain Lean: what is written of a number, what is read of bytes, and that the one undoes the other. -/
set_option linter.unusedVariables false
set_option linter.unusedSimpArgs false
namespace Go.Proofs.Ytbeoegdkoodlfaa.Q
open Go.RowKit Go.Proofs.YtbeoegdkoodlfaaW.PrintWords Go.Proofs.YtbeoegdkoodlfaaW.PrintMore
def putU (u : Nat) : List Int := if u < 128 then [(u : Int)] else ((u % 128 + 128 : Nat) : Int) :: putU (u / 128)
termination_by u
decreasing_by omega
theorem putU_lt {u : Nat} (h : u < 128) : putU u = [(u : Int)] := by rw [putU, if_pos h]
theorem putU_ge {u : Nat} (h : ¬ u < 128) : putU u = ((u % 128 + 128 : Nat) : Int) :: putU (u / 128) := by rw [putU, if_neg h]
def zig (n : Int) : Nat := if n < 0 then (-2 * n - 1).toNat else (2 * n).toNat
def unzig (x : Int) : Int := if x % 2 = 1 then -(x / 2) - 1 else x / 2
theorem unzig_zig (n : Int) : unzig (zig n) = n := by unfold unzig zig; split <;> split <;> omega
def I64 (n : Int) : Prop := -9223372036854775808 ≤ n ∧ n < 9223372036854775808
theorem zig_lt {n : Int} (h : I64 n) : zig n < 18446744073709551616 := by unfold zig; unfold I64 at h; split <;> omega
def putN (n : Int) : List Int := putU (zig n)
def putT (s : ByteArray) : List Int := putN s.size ++ bytesOf s
theorem putU_byt (u : Nat) : Byt (putU u) := by
  induction u using Nat.strongRecOn with
  | _ u ih =>
    by_cases h : u < 128
    · rw [putU_lt h]; exact Byt.cons (by omega) (by omega) Byt.nil
    · rw [putU_ge h]; exact Byt.cons (by omega) (by omega) (ih _ (by omega))
theorem putN_byt (n : Int) : Byt (putN n) := putU_byt _
theorem putT_byt (s : ByteArray) : Byt (putT s) := (putN_byt _).append (byt_bytesOf s)
theorem putU_pos (u : Nat) : 0 < (putU u).length := by rw [putU]; split <;> simp
theorem putN_pos (n : Int) : 0 < (putN n).length := putU_pos _
/-- u below 128^d takes d bytes at most. -/
theorem putU_len (d : Nat) : ∀ u : Nat, u < 128 ^ (d + 1) → (putU u).length ≤ d + 1 := by
  induction d with
  | zero => intro u h; rw [putU_lt (by simpa using h)]; simp
  | succ d ih =>
    intro u h
    by_cases h1 : u < 128
    · rw [putU_lt h1]; simp
    · rw [putU_ge h1]
      have : u / 128 < 128 ^ (d + 1) := by
        rw [Nat.div_lt_iff_lt_mul (by decide)]
        rw [Nat.pow_succ] at h
        exact h
      have := ih _ this
      simp only [List.length_cons]
      omega
theorem putN_len {n : Int} (h : I64 n) : (putN n).length ≤ 10 := putU_len 9 _ (Nat.lt_of_lt_of_le (zig_lt h) (by decide))
theorem putN_small {n : Int} (h0 : 0 ≤ n) (h1 : n < 64) : putN n = [2 * n] := by
  unfold putN zig
  rw [if_neg (by omega), putU_lt (by omega)]
  simp only [List.cons.injEq, and_true]
  omega
/-- What is read of bytes: the number, how many bytes, the error's number (0: none). -/
def ug : List Int → Nat → Int → Int × Int × Int
  | [], _, _ => (0, 0, 2)
  | c :: r, i, u =>
    if i = 9 ∧ c > 1 then (0, 0, 1)
    else if c > 127 then ug r (i + 1) (u + (c - 128) * 128 ^ i)
    else if i > 0 ∧ c = 0 then (0, 0, 1)
    else (unzig (u + c * 128 ^ i), i + 1, 0)
def getN (l : List Int) : Int × Int × Int := ug l 0 0
def getT (l : List Int) : ByteArray × Int × Int :=
  if (getN l).2.2 ≠ 0 then (⟨#[]⟩, 0, (getN l).2.2)
  else if (getN l).1 < 0 ∨ (getN l).1 > 65536 then (⟨#[]⟩, 0, 1)
  else if (getN l).1 > (l.length : Int) - (getN l).2.1 then (⟨#[]⟩, 0, 2)
  else (strOfNums ((l.take ((getN l).2.1 + (getN l).1).toNat).drop (getN l).2.1.toNat), (getN l).2.1 + (getN l).1, 0)
theorem p128 (i : Nat) : (0 : Int) < 128 ^ i := by
  have := Nat.pow_pos (n := i) (show 0 < 128 by decide)
  exact_mod_cast this
theorem pow128_mono {i j : Nat} (h : i ≤ j) : (128 : Int) ^ i ≤ 128 ^ j := by
  have := Nat.pow_le_pow_right (n := 128) (by decide) h
  exact_mod_cast this
theorem ug_put (u : Nat) : ∀ (rest : List Int) (i : Nat) (acc : Int), (u : Int) * 128 ^ i + acc < 18446744073709551616 → (i > 0 → 0 < u) → 0 ≤ acc →
    ug (putU u ++ rest) i acc = (unzig (acc + u * 128 ^ i), (i : Int) + ((putU u).length : Int), 0) := by
  induction u using Nat.strongRecOn with
  | _ u ih =>
    intro rest i acc hb hp ha
    have h9 : ∀ v : Nat, i = 9 → v ≤ u → (v : Int) ≤ 1 := by
      intro v hi hv
      subst hi
      have : ((u : Int)) * 128 ^ 9 < 18446744073709551616 := by omega
      omega
    by_cases h : u < 128
    · rw [putU_lt h]
      simp only [List.cons_append, List.nil_append, ug, List.length_cons, List.length_nil]
      rw [if_neg (fun hh => by have := h9 u hh.1 (Nat.le_refl _); omega), if_neg (by omega), if_neg (fun hh => by have := hp hh.1; omega)]
      simp
    · rw [putU_ge h]
      have hi9 : i ≠ 9 := fun hi => by have := h9 u hi (Nat.le_refl _); omega
      simp only [List.cons_append, ug, List.length_cons]
      rw [if_neg (fun hh => hi9 hh.1), if_pos (by omega)]
      have hm : ((u % 128 + 128 : Nat) : Int) - 128 = (u : Int) % 128 := by omega
      have he : acc + (u : Int) % 128 * 128 ^ i + ((u / 128 : Nat) : Int) * 128 ^ (i + 1) = acc + u * 128 ^ i := by
        have h2 : (u : Int) = u % 128 + ((u / 128 : Nat) : Int) * 128 := by omega
        have h3 : (u : Int) * 128 ^ i = (u : Int) % 128 * 128 ^ i + ((u / 128 : Nat) : Int) * (128 * 128 ^ i) := by
          conv => lhs; rw [h2]
          rw [Int.add_mul, Int.mul_assoc]
        rw [Int.pow_succ, h3, Int.mul_comm (128 ^ i) 128]
        omega
      rw [hm, ih (u / 128) (by omega) rest (i + 1) _ (by rw [Int.add_comm, he]; omega) (fun _ => by omega) (Int.add_nonneg ha (Int.mul_nonneg (by omega) (Int.le_of_lt (p128 i))))]
      rw [he]
      simp only [Prod.mk.injEq, true_and, and_true]
      omega
theorem getN_put {n : Int} (h : I64 n) (rest : List Int) : getN (putN n ++ rest) = (n, ((putN n).length : Int), 0) := by
  have := zig_lt h
  unfold getN putN
  rw [ug_put (zig n) rest 0 0 (by simp; omega) (fun h => absurd h (by decide)) (by decide)]
  simp [unzig_zig]
theorem ug_cut (u : Nat) : ∀ (m i : Nat) (acc : Int), (u : Int) * 128 ^ i + acc < 18446744073709551616 → 0 ≤ acc → m < (putU u).length → ug ((putU u).take m) i acc = (0, 0, 2) := by
  induction u using Nat.strongRecOn with
  | _ u ih =>
    intro m i acc hb ha hm
    cases m with
    | zero => simp [ug]
    | succ m =>
      by_cases h : u < 128
      · rw [putU_lt h] at hm; simp at hm
      · rw [putU_ge h] at hm ⊢
        have hi9 : i ≠ 9 := fun hi => by
          subst hi
          have : ((u : Int)) * 128 ^ 9 < 18446744073709551616 := by omega
          omega
        simp only [List.take_succ_cons, ug]
        rw [if_neg (fun hh => hi9 hh.1), if_pos (by omega)]
        have hm' : ((u % 128 + 128 : Nat) : Int) - 128 = (u : Int) % 128 := by omega
        have he : acc + (u : Int) % 128 * 128 ^ i + ((u / 128 : Nat) : Int) * 128 ^ (i + 1) = acc + u * 128 ^ i := by
          have h2 : (u : Int) = u % 128 + ((u / 128 : Nat) : Int) * 128 := by omega
          have h3 : (u : Int) * 128 ^ i = (u : Int) % 128 * 128 ^ i + ((u / 128 : Nat) : Int) * (128 * 128 ^ i) := by
            conv => lhs; rw [h2]
            rw [Int.add_mul, Int.mul_assoc]
          rw [Int.pow_succ, h3, Int.mul_comm (128 ^ i) 128]
          omega
        rw [hm']
        refine ih (u / 128) (by omega) m (i + 1) _ (by rw [Int.add_comm, he]; omega) (Int.add_nonneg ha (Int.mul_nonneg (by omega) (Int.le_of_lt (p128 i)))) ?_
        simp only [List.length_cons] at hm
        omega
theorem getN_cut {n : Int} (h : I64 n) {m : Nat} (hm : m < (putN n).length) : getN ((putN n).take m) = (0, 0, 2) := by
  have := zig_lt h
  exact ug_cut (zig n) m 0 0 (by simp; omega) (by decide) hm
/-- What is read lies in what was there. -/
theorem ug_bound : ∀ (l : List Int) (i : Nat) (u : Int), 0 ≤ (ug l i u).2.1 ∧ (ug l i u).2.1 ≤ i + l.length ∧ ((ug l i u).2.2 = 0 → (i : Int) < (ug l i u).2.1) ∧ ((ug l i u).2.2 = 0 ∨ (ug l i u).2.2 = 1 ∨ (ug l i u).2.2 = 2) ∧ ((ug l i u).2.2 ≠ 0 → (ug l i u).1 = 0 ∧ (ug l i u).2.1 = 0) := by
  intro l
  induction l with
  | nil => intro i u; simp [ug]
  | cons c r ih =>
    intro i u
    unfold ug
    split
    · simp; omega
    · split
      · have := ih (i + 1) (u + (c - 128) * 128 ^ i)
        simp only [List.length_cons]
        omega
      · split
        · simp; omega
        · simp; omega
theorem getN_bound (l : List Int) : 0 ≤ (getN l).2.1 ∧ (getN l).2.1 ≤ l.length ∧ ((getN l).2.2 = 0 → 0 < (getN l).2.1) ∧ ((getN l).2.2 = 0 ∨ (getN l).2.2 = 1 ∨ (getN l).2.2 = 2) ∧ ((getN l).2.2 ≠ 0 → (getN l).1 = 0 ∧ (getN l).2.1 = 0) := by
  have := ug_bound l 0 0
  simpa [getN] using this
theorem ug_i64 : ∀ (l : List Int) (i : Nat) (u : Int), Byt l → i ≤ 9 → 0 ≤ u → u < 128 ^ i → I64 (ug l i u).1 := by
  intro l
  induction l with
  | nil => intro i u _ _ _ _; simp [ug, I64]
  | cons c r ih =>
    intro i u hb hi h0 h1
    have hc := hb.head
    unfold ug
    split
    · simp [I64]
    · rename_i h9
      split
      · rename_i hc1
        have hi9 : i ≠ 9 := fun h => h9 ⟨h, by omega⟩
        refine ih (i + 1) _ hb.tail (by omega) (Int.add_nonneg h0 (Int.mul_nonneg (by omega) (Int.le_of_lt (p128 i)))) ?_
        have : (c - 128) * 128 ^ i ≤ 127 * 128 ^ i := Int.mul_le_mul_of_nonneg_right (by omega) (Int.le_of_lt (p128 i))
        rw [Int.pow_succ]
        omega
      · split
        · simp [I64]
        · have : 0 ≤ u + c * 128 ^ i ∧ u + c * 128 ^ i < 18446744073709551616 := by
            refine ⟨Int.add_nonneg h0 (Int.mul_nonneg hc.1 (Int.le_of_lt (p128 i))), ?_⟩
            by_cases hi9 : i = 9
            · subst hi9
              omega
            · have h8 := pow128_mono (i := i) (j := 8) (by omega)
              have h2 : c * 128 ^ i ≤ 127 * 128 ^ i := Int.mul_le_mul_of_nonneg_right (by omega) (Int.le_of_lt (p128 i))
              have e8 : (128 : Int) ^ 8 = 72057594037927936 := rfl
              omega
          simp only
          unfold unzig I64
          split <;> omega
theorem getN_i64 {l : List Int} (h : Byt l) : I64 (getN l).1 := ug_i64 l 0 0 h (by decide) (by decide) (by simp)
/-- Bytes behind what is told say nothing of it. -/
theorem ug_append : ∀ (l rest : List Int) (i : Nat) (u : Int), (ug l i u).2.2 ≠ 2 → ug (l ++ rest) i u = ug l i u := by
  intro l
  induction l with
  | nil => intro rest i u h; simp [ug] at h
  | cons c r ih =>
    intro rest i u h
    simp only [List.cons_append]
    unfold ug at h ⊢
    split
    · rfl
    · rename_i h1
      rw [if_neg h1] at h
      split
      · rename_i h2
        rw [if_pos h2] at h
        exact ih rest _ _ h
      · rfl
/-- What is read as a number is just what is written of it. -/
theorem ug_canon : ∀ (l : List Int) (i : Nat) (u : Int), Byt l → i ≤ 9 → (ug l i u).2.2 = 0 → ∃ v : Nat, (ug l i u).1 = unzig (u + v * 128 ^ i) ∧ (ug l i u).2.1 = i + (putU v).length ∧ l.take (putU v).length = putU v ∧ (i > 0 → 0 < v) ∧ (v : Int) * 128 ^ i < 18446744073709551616 := by
  intro l
  induction l with
  | nil => intro i u _ _ h; simp [ug] at h
  | cons c r ih =>
    intro i u hb hi h
    have hc := hb.head
    unfold ug at h ⊢
    by_cases h1 : i = 9 ∧ c > 1
    · rw [if_pos h1] at h; simp at h
    · rw [if_neg h1] at h ⊢
      by_cases h2 : c > 127
      · rw [if_pos h2] at h ⊢
        have hi9 : i ≠ 9 := fun h => h1 ⟨h, by omega⟩
        obtain ⟨v, e1, e2, e3, e4, e5⟩ := ih (i + 1) _ hb.tail (by omega) h
        have hv := e4 (by omega)
        have e : ((v * 128 + (c - 128).toNat : Nat) : Int) = v * 128 + (c - 128) := by omega
        have hw : ¬ v * 128 + (c - 128).toNat < 128 := by omega
        have hd : (v * 128 + (c - 128).toNat) / 128 = v := by omega
        have hm : (((v * 128 + (c - 128).toNat) % 128 + 128 : Nat) : Int) = c := by omega
        have hp : u + ((v * 128 + (c - 128).toNat : Nat) : Int) * 128 ^ i = u + (c - 128) * 128 ^ i + v * 128 ^ (i + 1) := by
          rw [e, Int.pow_succ, Int.add_mul, Int.mul_assoc, Int.mul_comm 128 (128 ^ i)]
          omega
        refine ⟨v * 128 + (c - 128).toNat, ?_, ?_, ?_, fun _ => by omega, ?_⟩
        · rw [e1, hp]
        · rw [e2, putU_ge hw, hd]; simp only [List.length_cons]; omega
        · rw [putU_ge hw, hd, hm]; simp only [List.length_cons, List.take_succ_cons]; rw [e3]
        · rw [e, Int.add_mul]
          by_cases hi8 : i + 1 = 9
          · obtain rfl : i = 8 := by omega
            have e9 : (128 : Int) ^ (8 + 1) = 9223372036854775808 := rfl
            have e8 : (128 : Int) ^ 8 = 72057594037927936 := rfl
            rw [e9] at e5
            rw [e8]
            have : (v : Int) ≤ 1 := by omega
            omega
          · have h7 := pow128_mono (i := i) (j := 7) (by omega)
            have h0 := p128 i
            rw [Int.pow_succ] at e5
            have : (c - 128) * 128 ^ i ≤ 127 * 128 ^ i := Int.mul_le_mul_of_nonneg_right (by omega) (Int.le_of_lt (p128 i))
            have h3 : (v : Int) * 128 * 128 ^ i = v * (128 ^ i * 128) := by rw [Int.mul_assoc, Int.mul_comm 128 (128 ^ i)]
            have e7 : (128 : Int) ^ 7 = 562949953421312 := rfl
            rw [h3]
            -- v * 128^(i+1) is a multiple of 128^(i+1), below 2^64
            have hmul : (v : Int) * (128 ^ i * 128) ≤ 18446744073709551616 - 128 ^ i * 128 := by
              have hdvd : (128 : Int) ^ i * 128 ∣ 18446744073709551616 := by
                have hk : (18446744073709551616 : Int) = 128 ^ (i + 1) * (128 ^ (8 - i) * 2) := by
                  rw [← Int.mul_assoc, ← Int.pow_add, show i + 1 + (8 - i) = 9 by omega]
                  rfl
                rw [← Int.pow_succ]
                exact ⟨_, hk⟩
              obtain ⟨q, hq⟩ := hdvd
              rw [hq] at e5 ⊢
              have hq2 : (v : Int) < q := by
                rcases Int.lt_or_le (v : Int) q with h | h
                · exact h
                · have := Int.mul_le_mul_of_nonneg_left h (show (0 : Int) ≤ 128 ^ i * 128 by omega)
                  rw [Int.mul_comm (v : Int)] at e5
                  omega
              have := Int.mul_le_mul_of_nonneg_left (show (v : Int) ≤ q - 1 by omega) (show (0 : Int) ≤ 128 ^ i * 128 by omega)
              rw [Int.mul_comm (v : Int), Int.mul_sub] at *
              omega
            omega
      · rw [if_neg h2] at h ⊢
        by_cases h3 : i > 0 ∧ c = 0
        · rw [if_pos h3] at h; simp at h
        · rw [if_neg h3]
          have hl : c.toNat < 128 := by omega
          refine ⟨c.toNat, ?_, ?_, ?_, fun hh => ?_, ?_⟩
          · simp only [show ((c.toNat : Nat) : Int) = c by omega]
          · rw [putU_lt hl]; simp
          · rw [putU_lt hl]; simp; omega
          · rcases Nat.eq_zero_or_pos c.toNat with h | h
            · exact absurd ⟨hh, by omega⟩ h3
            · exact h
          · rw [show ((c.toNat : Nat) : Int) = c by omega]
            by_cases hi9 : i = 9
            · subst hi9
              omega
            · have h8 := pow128_mono (i := i) (j := 8) (by omega)
              have h2 : c * 128 ^ i ≤ 127 * 128 ^ i := Int.mul_le_mul_of_nonneg_right (by omega) (Int.le_of_lt (p128 i))
              have e8 : (128 : Int) ^ 8 = 72057594037927936 := rfl
              omega
theorem zig_unzig (v : Nat) : zig (unzig v) = v := by unfold zig unzig; split <;> split <;> omega
theorem getN_canon {l : List Int} (hb : Byt l) (h : (getN l).2.2 = 0) : l.take (getN l).2.1.toNat = putN (getN l).1 ∧ (getN l).2.1 = (putN (getN l).1).length := by
  obtain ⟨v, e1, e2, e3, _, _⟩ := ug_canon l 0 0 hb (by decide) h
  have e4 : putN (getN l).1 = putU v := by
    unfold putN getN
    rw [e1]
    simp only [Int.pow_zero, Int.mul_one, Int.zero_add, zig_unzig]
  rw [e4]
  unfold getN
  rw [e2]
  simp only [Int.natCast_zero, Int.zero_add, Int.toNat_natCast, and_true]
  exact e3
theorem putU_inj {a b : Nat} (ha : a < 18446744073709551616) (hb : b < 18446744073709551616) {r q : List Int} (h : putU a ++ r = putU b ++ q) : a = b ∧ r = q := by
  have h1 := ug_put a r 0 0 (by simp; omega) (fun h => absurd h (by decide)) (by decide)
  have h2 := ug_put b q 0 0 (by simp; omega) (fun h => absurd h (by decide)) (by decide)
  rw [h, h2] at h1
  simp only [Int.pow_zero, Int.mul_one, Int.zero_add, Prod.mk.injEq] at h1
  have e : a = b := by
    have := congrArg zig h1.1
    rw [zig_unzig, zig_unzig] at this
    exact this.symm
  subst e
  exact ⟨rfl, List.append_cancel_left h⟩
theorem putN_inj {a b : Int} (ha : I64 a) (hb : I64 b) {r q : List Int} (h : putN a ++ r = putN b ++ q) : a = b ∧ r = q := by
  have := putU_inj (zig_lt ha) (zig_lt hb) h
  refine ⟨?_, this.2⟩
  rw [← unzig_zig a, ← unzig_zig b, this.1]
theorem putT_inj {a b : ByteArray} (ha : a.size ≤ 9223372036854775807) (hb : b.size ≤ 9223372036854775807) {r q : List Int} (h : putT a ++ r = putT b ++ q) : a = b ∧ r = q := by
  unfold putT at h
  rw [List.append_assoc, List.append_assoc] at h
  obtain ⟨h1, h2⟩ := putN_inj (by unfold I64; omega) (by unfold I64; omega) h
  have hl : (bytesOf a).length = (bytesOf b).length := by rw [bytesOf_length, bytesOf_length]; omega
  have := List.append_inj h2 hl
  exact ⟨bytesOf_inj this.1, this.2⟩
theorem getT_put {s : ByteArray} (h : s.size ≤ 65536) (rest : List Int) : getT (putT s ++ rest) = (s, ((putT s).length : Int), 0) := by
  have hi : I64 (s.size : Int) := by unfold I64; omega
  have hg : getN (putT s ++ rest) = ((s.size : Int), ((putN s.size).length : Int), 0) := by unfold putT; rw [List.append_assoc]; exact getN_put hi _
  have hl := bytesOf_length s
  unfold getT
  rw [hg]
  simp only [ne_eq, not_true_eq_false, if_false]
  rw [if_neg (by omega), if_neg (by unfold putT; simp only [List.length_append]; omega)]
  have e1 : (((putN s.size).length : Int) + (s.size : Int)).toNat = (putT s).length := by unfold putT; simp only [List.length_append]; omega
  rw [e1, List.take_left']
  · have e2 : (putT s).drop (putN (s.size : Int)).length = bytesOf s := by unfold putT; exact List.drop_left
    rw [Int.toNat_natCast, e2, str_bytesOf]
    unfold putT
    simp only [List.length_append]
    congr 2
    omega
  · rfl
theorem getT_cut {s : ByteArray} (h : s.size ≤ 65536) {m : Nat} (hm : m < (putT s).length) : getT ((putT s).take m) = (⟨#[]⟩, 0, 2) := by
  have hi : I64 (s.size : Int) := by unfold I64; omega
  have hl := bytesOf_length s
  rcases Nat.lt_or_ge m (putN (s.size : Int)).length with h1 | h1
  · have e : (putT s).take m = (putN (s.size : Int)).take m := by unfold putT; rw [List.take_append_of_le_length (by omega)]
    unfold getT
    rw [e, getN_cut hi h1]
    simp
  · have e : (putT s).take m = putN (s.size : Int) ++ (bytesOf s).take (m - (putN (s.size : Int)).length) := by
      unfold putT; rw [List.take_append]; congr 1; exact List.take_of_length_le h1
    have hlen : (putT s).length = (putN (s.size : Int)).length + s.size := by unfold putT; rw [List.length_append, hl]
    unfold getT
    rw [e, getN_put hi]
    simp only [ne_eq, not_true_eq_false, if_false]
    rw [if_neg (by omega), if_pos (by simp only [List.length_append, List.length_take]; omega)]
theorem getT_bound (l : List Int) : 0 ≤ (getT l).2.1 ∧ (getT l).2.1 ≤ l.length ∧ ((getT l).2.2 = 0 → 0 < (getT l).2.1) ∧ ((getT l).2.2 ≠ 0 → (getT l).1 = ⟨#[]⟩ ∧ (getT l).2.1 = 0) := by
  have hb := getN_bound l
  unfold getT
  split
  · simp_all
  · split
    · simp
    · split
      · simp
      · simp only [ne_eq, not_true_eq_false, false_implies, and_true]
        have := hb.2.2.1 (by simp_all)
        omega
/-- What is read as a text is just what is written of it. -/
theorem getT_canon {l : List Int} (hb : Byt l) (h : (getT l).2.2 = 0) : l.take (getT l).2.1.toNat = putT (getT l).1 ∧ (getT l).2.1 = (putT (getT l).1).length ∧ (getT l).1.size ≤ 65536 := by
  have hbd := getN_bound l
  unfold getT at h ⊢
  by_cases h0 : (getN l).2.2 ≠ 0
  · rw [if_pos h0] at h; exact absurd h h0
  · rw [if_neg h0] at h ⊢
    by_cases h1 : (getN l).1 < 0 ∨ (getN l).1 > 65536
    · rw [if_pos h1] at h; simp at h
    · rw [if_neg h1] at h ⊢
      by_cases h2 : (getN l).1 > (l.length : Int) - (getN l).2.1
      · rw [if_pos h2] at h; simp at h
      · rw [if_neg h2] at h ⊢
        have h0' : (getN l).2.2 = 0 := by simpa using h0
        obtain ⟨c1, c2⟩ := getN_canon hb h0'
        simp only
        have hz : (strOfNums ((l.take ((getN l).2.1 + (getN l).1).toNat).drop (getN l).2.1.toNat)).size = ((getN l).1).toNat := by
          rw [strOfNums_size]; simp only [List.length_drop, List.length_take]; omega
        have hbt : bytesOf (strOfNums ((l.take ((getN l).2.1 + (getN l).1).toNat).drop (getN l).2.1.toNat)) = (l.take ((getN l).2.1 + (getN l).1).toNat).drop (getN l).2.1.toNat := bytesOf_str ((hb.take _).drop _)
        have e : putT (strOfNums ((l.take ((getN l).2.1 + (getN l).1).toNat).drop (getN l).2.1.toNat)) = l.take ((getN l).2.1 + (getN l).1).toNat := by
          unfold putT
          rw [hz, hbt, show (((getN l).1.toNat : Nat) : Int) = (getN l).1 by omega, ← c1]
          have : l.take (getN l).2.1.toNat = (l.take ((getN l).2.1 + (getN l).1).toNat).take (getN l).2.1.toNat := by rw [List.take_take, Nat.min_eq_left (by omega)]
          rw [this, List.take_append_drop]
        rw [e, hz]
        refine ⟨rfl, ?_, by omega⟩
        rw [List.length_take]
        omega
end Go.Proofs.Ytbeoegdkoodlfaa.Q

/- The printed functions of package num and of its reference tell what QNum says. -/
set_option linter.unusedVariables false
set_option linter.unusedSimpArgs false
namespace Go.Proofs.Ytbeoegdkoodlfaa.Q
open Go.RowKit Go.Proofs.YtbeoegdkoodlfaaW.PrintWords Go.Proofs.YtbeoegdkoodlfaaW.PrintMore Go.Proofs.Ytbeoegdkoodlfaa.XVam
theorem zig_bits {n : Int} (h : I64 n) : (if n < 0 then Go.bits .xor .u64 18446744073709551615 (IntKind.u64.wrap (IntKind.u64.wrap n * 2)) else IntKind.u64.wrap (IntKind.u64.wrap n * 2)) = (zig n : Int) := by
  unfold I64 at h
  unfold zig
  split
  · rw [u64_mod, u64_mod, not_u64 (by omega) (by omega)]
    omega
  · rw [u64_mod, u64_mod]
    omega
theorem num_Put_l (u : Nat) : ∀ l : List Int, l.length + (putU u).length ≤ 140737488355328 → Ev (fun k => num_Put.l0 k l (u : Int)) (l ++ putU u) := by
  induction u using Nat.strongRecOn with
  | _ u ih =>
    intro l hl
    by_cases h : u < 128
    · rw [putU_lt h] at hl ⊢
      refine Ev.step (f := fun _ => some (l ++ [(u : Int)])) (fun k => ?_) (Ev.now _)
      simp only [num_Put.l0]
      simp only [List.length_cons, List.length_nil] at hl
      rw [if_neg (by omega), if_pos (by omega), show (u : Int) % 256 = u by omega]
    · rw [putU_ge h] at hl ⊢
      simp only [List.length_cons] at hl
      refine Ev.step (f := fun k => num_Put.l0 k (l ++ [((u % 128 + 128 : Nat) : Int)]) ((u / 128 : Nat) : Int)) (fun k => ?_) ?_
      · simp only [num_Put.l0]
        rw [if_pos (by omega), if_pos (by omega), or128 (by omega) (by omega)]
        rw [show ((u : Int) % 256) % 128 + 128 = ((u % 128 + 128 : Nat) : Int) by omega, show (u : Int) / 128 = ((u / 128 : Nat) : Int) by omega]
      · refine evEq (ih (u / 128) (by omega) (l ++ [((u % 128 + 128 : Nat) : Int)]) (by simp only [List.length_append, List.length_cons, List.length_nil]; omega)) ?_
        rw [List.append_assoc]
        rfl
theorem num_Put_ev {n : Int} (h : I64 n) (l : List Int) (hl : l.length + 10 ≤ 140737488355328) : Ev (fun k => num_Put.f k l n) (l ++ putN n) := by
  have hz := zig_bits h
  have := putN_len h
  have h1 : Ev (fun k => num_Put.j0 k l (zig n : Int)) (l ++ putN n) := Ev.step (fun k => by simp only [num_Put.j0]) (num_Put_l (zig n) l (by unfold putN at this; omega))
  refine Ev.congr (fun k => ?_) h1
  unfold num_Put.f
  split
  · rename_i hn; rw [if_pos hn] at hz; rw [hz]
  · rename_i hn; rw [if_neg hn] at hz; rw [hz]
theorem num_PutText_ev {s : ByteArray} (h : s.size ≤ 70368744177664) (l : List Int) (hl : l.length ≤ 35184372088832) : Ev (fun k => num_PutText.f k l s) (l ++ putT s) := by
  have hi : I64 (s.size : Int) := by unfold I64; omega
  have := putN_len hi
  have h2 : Ev (fun _ => if (l ++ putN (s.size : Int)).length + s.size < 140737488355328 then some ((l ++ putN (s.size : Int)) ++ bytesOf s) else none) ((l ++ putN (s.size : Int)) ++ bytesOf s) :=
    evC (if_pos (by simp only [List.length_append]; omega))
  refine evEq (Ev.bind (num_Put_ev hi l (by omega)) h2) ?_
  unfold putT
  rw [List.append_assoc]
theorem num_Get_l : ∀ (r pre : List Int) (u : Int), Byt (pre ++ r) → (pre ++ r).length < 9223372036854775800 → pre.length ≤ 9 → 0 ≤ u → u < 128 ^ pre.length →
    Ev (fun k => num_Get.l0 k u (pre ++ r) ((pre ++ r).length : Int) (pre.length : Int)) (ug r pre.length u) := by
  intro r
  induction r with
  | nil =>
    intro pre u hb hl hi h0 h1
    refine Ev.step (f := fun _ => some (0, 0, 2)) (fun k => ?_) (Ev.now _)
    simp only [num_Get.l0]
    rw [if_neg (by simp)]
  | cons c r ih =>
    intro pre u hb hl hi h0 h1
    have hc := hb.right.head
    have hll : (pre ++ c :: r).length = pre.length + r.length + 1 := by simp; omega
    have hlt : (pre.length : Int) < ((pre ++ c :: r).length : Int) := by omega
    have hpp := p128 pre.length
    have e7 : wrap64 (7 * (pre.length : Int)) = 7 * pre.length := w64 (by omega) (by omega)
    have ep : (2 : Int) ^ (7 * (pre.length : Int)).toNat = 128 ^ pre.length := by
      rw [show (7 * (pre.length : Int)).toNat = 7 * pre.length by omega, Int.pow_mul]
      rfl
    have hcm : c % 128 * 128 ^ pre.length < 2 ^ 64 ∨ (pre.length = 9 ∧ c > 1) := by
      by_cases h9 : pre.length = 9
      · by_cases hc1 : c > 1
        · exact .inr ⟨h9, hc1⟩
        · rw [h9]
          have : c % 128 ≤ 1 := by omega
          left; omega
      · have h8 := pow128_mono (i := pre.length) (j := 8) (by omega)
        have h2 : c % 128 * 128 ^ pre.length ≤ 127 * 128 ^ pre.length := Int.mul_le_mul_of_nonneg_right (by omega) (Int.le_of_lt hpp)
        have e8 : (128 : Int) ^ 8 = 72057594037927936 := rfl
        left; omega
    -- the state behind this byte
    have hbits : ¬ (pre.length = 9 ∧ c > 1) → Go.bits .or .u64 u (shl .u64 (IntKind.u64.wrap (Go.bits .and .u8 c 127)) (wrap64 (7 * (pre.length : Int)))) = u + c % 128 * 128 ^ pre.length := by
      intro hn
      have hcm' : c % 128 * 128 ^ pre.length < 2 ^ 64 := by
        rcases hcm with h | h
        · exact h
        · exact absurd h hn
      rw [e7, and127 hc.1 hc.2, u64 (by omega) (by omega), shl_u64 (by omega) (by omega) (by omega) (by rw [ep]; exact hcm'), ep]
      have e2 : (128 : Int) ^ pre.length = 2 ^ (7 * pre.length) := by rw [Int.pow_mul]; rfl
      refine or_join (7 * pre.length) (by omega) h0 (by rw [← e2]; exact h1) (Int.mul_nonneg (by omega) (Int.le_of_lt hpp)) (by rw [e2]; exact Int.mul_emod_left _ _) hcm'
    -- the head of the loop
    have hstep : ∀ k, num_Get.l0 (k + 1) u (pre ++ c :: r) ((pre ++ c :: r).length : Int) (pre.length : Int) = num_Get.j1 k u (pre.length : Int) c (pre ++ c :: r) ((pre ++ c :: r).length : Int) (pre.length : Int) (decide (pre.length = 9 ∧ c > 1)) := by
      intro k
      simp only [num_Get.l0]
      rw [if_pos hlt, if_pos (by omega), if_pos hlt, rd_append]
      by_cases h9 : pre.length = 9
      · rw [if_pos (by omega)]
        congr 1
        simp [h9]
      · rw [if_neg (by omega)]
        congr 1
        simp [h9]
    refine Ev.step hstep ?_
    by_cases hx : pre.length = 9 ∧ c > 1
    · refine Ev.step (f := fun _ => some (0, 0, 1)) (fun k => ?_) (evEq (Ev.now _) ?_)
      · simp only [num_Get.j1]
        rw [if_pos (by simp [hx])]
      · unfold ug; rw [if_pos hx]
    · have hbt := hbits hx
      have hd : decide (pre.length = 9 ∧ c > 1) = false := by simpa using fun h h2 => hx ⟨h, h2⟩
      rw [hd]
      by_cases hc1 : c > 127
      · have hi9 : pre.length ≠ 9 := fun h => hx ⟨h, by omega⟩
        have hrec := ih (pre ++ [c]) (u + (c - 128) * 128 ^ pre.length) (by rw [List.append_assoc]; exact hb) (by rw [List.append_assoc]; exact hl) (by simp; omega) (Int.add_nonneg h0 (Int.mul_nonneg (by omega) (Int.le_of_lt hpp))) (by
          simp only [List.length_append, List.length_cons, List.length_nil]
          have : (c - 128) * 128 ^ pre.length ≤ 127 * 128 ^ pre.length := Int.mul_le_mul_of_nonneg_right (by omega) (Int.le_of_lt hpp)
          rw [Int.pow_succ]
          omega)
        simp only [List.append_assoc, List.cons_append, List.nil_append, List.length_append, List.length_cons, List.length_nil] at hrec
        refine Ev.step (fun k => ?_) (evEq hrec ?_)
        · simp only [num_Get.j1]
          rw [if_neg (by simp), if_pos (by omega), if_pos hc1, hbt, w64 (by omega) (by omega)]
          rw [show c % 128 = c - 128 by omega]
          simp only [Nat.zero_add, Int.natCast_add, Int.natCast_one, List.length_append, List.length_cons]
        · conv => rhs; unfold ug
          rw [if_neg hx, if_pos hc1]
      · have e1 : c % 128 = c := by omega
        rw [e1] at hbt
        have hv : 0 ≤ u + c * 128 ^ pre.length ∧ u + c * 128 ^ pre.length < 18446744073709551616 := by
          refine ⟨Int.add_nonneg h0 (Int.mul_nonneg hc.1 (Int.le_of_lt hpp)), ?_⟩
          by_cases hi9 : pre.length = 9
          · have : c ≤ 1 := by
              rcases Int.lt_or_le 1 c with h | h
              · exact absurd ⟨hi9, h⟩ hx
              · exact h
            rw [hi9] at h1 ⊢
            omega
          · have h8 := pow128_mono (i := pre.length) (j := 8) (by omega)
            have h2 : c * 128 ^ pre.length ≤ 127 * 128 ^ pre.length := Int.mul_le_mul_of_nonneg_right (by omega) (Int.le_of_lt hpp)
            have e8 : (128 : Int) ^ 8 = 72057594037927936 := rfl
            omega
        by_cases hz : pre.length > 0 ∧ c = 0
        · refine Ev.step (f := fun k => num_Get.j2 k (u + c * 128 ^ pre.length) (pre.length : Int) true) (fun k => ?_) ?_
          · simp only [num_Get.j1]
            rw [if_neg (by simp), if_pos (by omega), if_neg hc1, hbt, if_pos (by omega)]
            congr 1
            simp [hz.2]
          · refine Ev.step (f := fun _ => some (0, 0, 1)) (fun k => ?_) (evEq (Ev.now _) ?_)
            · simp only [num_Get.j2]; rw [if_pos trivial]
            · unfold ug; rw [if_neg hx, if_neg hc1, if_pos hz]
        · refine Ev.step (f := fun k => num_Get.j2 k (u + c * 128 ^ pre.length) (pre.length : Int) false) (fun k => ?_) ?_
          · simp only [num_Get.j1]
            rw [if_neg (by simp), if_pos (by omega), if_neg hc1, hbt]
            by_cases hp : (pre.length : Int) > 0
            · rw [if_pos hp]
              congr 1
              simp only [beq_eq_false_iff_ne]
              exact fun h => hz ⟨by omega, h⟩
            · rw [if_neg hp]
          · refine Ev.step (f := fun _ => some (unzig (u + c * 128 ^ pre.length), (pre.length : Int) + 1, 0)) (fun k => ?_) (evEq (Ev.now _) ?_)
            · simp only [num_Get.j2]
              rw [if_neg (by simp), w64 (x := (pre.length : Int) + 1) (by omega) (by omega), w64 (x := (u + c * 128 ^ pre.length) / 2) (by omega) (by omega)]
              have ha : Go.bits .and .u64 (u + c * 128 ^ pre.length) 1 = (u + c * 128 ^ pre.length) % 2 := bits_mask .u64 64 (by decide) wraps_u64 1 (by decide) _ hv.1 (by omega)
              rw [ha, not_i64 (by omega) (by omega)]
              unfold unzig
              split <;> rfl
            · unfold ug; rw [if_neg hx, if_neg hc1, if_neg hz]
theorem num_Get_ev {l : List Int} (h : Byt l) (hl : l.length < 9223372036854775800) : Ev (fun k => num_Get.f k l) (getN l) := num_Get_l l [] 0 (by simpa using h) (by simpa using hl) (by simp) (by decide) (by simp)
theorem num_GetText_ev {l : List Int} (h : Byt l) (hl : l.length < 9223372036854775800) : Ev (fun k => num_GetText.f k l) (getT l) := by
  have hb := getN_bound l
  have hi := getN_i64 h
  unfold I64 at hi
  unfold num_GetText.f
  refine Ev.bind (num_Get_ev h hl) ?_
  unfold getT
  by_cases h0 : (getN l).2.2 = 0
  · simp only [h0, ne_eq, not_true_eq_false, if_false, if_true]
    by_cases h1 : (getN l).1 < 0 ∨ (getN l).1 > 65536
    · rw [if_pos h1]
      have e : ∀ k, (if (getN l).1 < 0 then num_GetText.j0 k l (getN l).1 (getN l).2.1 true else num_GetText.j0 k l (getN l).1 (getN l).2.1 (decide ((getN l).1 > 65536))) = num_GetText.j0 k l (getN l).1 (getN l).2.1 true := by
        intro k
        split
        · rfl
        · rw [decide_eq_true (by omega)]
      refine Ev.congr e (Ev.step (f := fun _ => some (⟨#[]⟩, 0, 1)) (fun k => ?_) (Ev.now _))
      simp only [num_GetText.j0]
      rw [if_pos trivial]
    · rw [if_neg h1]
      have e : ∀ k, (if (getN l).1 < 0 then num_GetText.j0 k l (getN l).1 (getN l).2.1 true else num_GetText.j0 k l (getN l).1 (getN l).2.1 (decide ((getN l).1 > 65536))) = num_GetText.j0 k l (getN l).1 (getN l).2.1 false := by
        intro k
        rw [if_neg (by omega), decide_eq_false (by omega)]
      refine Ev.congr e (Ev.step (f := fun _ => if (getN l).1 > (l.length : Int) - (getN l).2.1 then some (⟨#[]⟩, 0, 2) else some (strOfNums ((l.take ((getN l).2.1 + (getN l).1).toNat).drop (getN l).2.1.toNat), (getN l).2.1 + (getN l).1, 0)) (fun k => ?_) ?_)
      · simp only [num_GetText.j0]
        rw [if_neg (by simp), w64 (x := (l.length : Int) - (getN l).2.1) (by omega) (by omega)]
        split
        · rfl
        · rw [w64 (x := (getN l).2.1 + (getN l).1) (by omega) (by omega), if_pos (by omega), if_pos (by omega), if_pos (by omega)]
      · split <;> exact Ev.now _
  · have h0' : ¬ ((getN l).2.2 = 0) := h0
    simp only [ne_eq, h0, not_false_eq_true, if_true, if_false]
    exact Ev.now _
end Go.Proofs.Ytbeoegdkoodlfaa.Q

/- The printed functions of the reference of package num tell what QNum says. -/
set_option linter.unusedVariables false
set_option linter.unusedSimpArgs false
namespace Go.Proofs.Ytbeoegdkoodlfaa.Q
open Go.RowKit Go.Proofs.YtbeoegdkoodlfaaW.PrintWords Go.Proofs.YtbeoegdkoodlfaaW.PrintMore Go.Proofs.Ytbeoegdkoodlfaa.XVam
theorem zig_bitsR {n : Int} (h : I64 n) : (if n < 0 then Go.bits .xor .u64 18446744073709551615 (IntKind.u64.wrap (IntKind.u64.wrap n * 2)) else IntKind.u64.wrap (IntKind.u64.wrap n * 2)) = (zig n : Int) := by
  unfold I64 at h
  unfold zig
  split
  · rw [u64_mod, u64_mod, not_u64 (by omega) (by omega)]
    omega
  · rw [u64_mod, u64_mod]
    omega
theorem ref_Put_l (u : Nat) : ∀ l : List Int, l.length + (putU u).length ≤ 140737488355328 → u < 18446744073709551616 → Ev (fun k => loessref1_Put.l0 k (u : Int) l) (l ++ putU u) := by
  induction u using Nat.strongRecOn with
  | _ u ih =>
    intro l hl hu
    by_cases h : u < 128
    · rw [putU_lt h] at hl ⊢
      refine Ev.step (f := fun _ => some (l ++ [(u : Int)])) (fun k => ?_) (Ev.now _)
      simp only [loessref1_Put.l0]
      simp only [List.length_cons, List.length_nil] at hl
      rw [if_neg (by omega), if_pos (by omega), show (u : Int) % 256 = u by omega]
    · rw [putU_ge h] at hl ⊢
      simp only [List.length_cons] at hl
      refine Ev.step (f := fun k => loessref1_Put.l0 k ((u / 128 : Nat) : Int) (l ++ [((u % 128 + 128 : Nat) : Int)])) (fun k => ?_) ?_
      · simp only [loessref1_Put.l0]
        rw [if_pos (by omega), if_pos (by omega), Int.tdiv_eq_ediv_of_nonneg (by omega), Int.tmod_eq_emod_of_nonneg (by omega), u64 (x := (u : Int) / 128) (by omega) (by omega), u64 (x := (u : Int) % 128 + 128) (by omega) (by omega)]
        rw [show ((u : Int) % 128 + 128) % 256 = ((u % 128 + 128 : Nat) : Int) by omega, show (u : Int) / 128 = ((u / 128 : Nat) : Int) by omega]
      · refine evEq (ih (u / 128) (by omega) (l ++ [((u % 128 + 128 : Nat) : Int)]) (by simp only [List.length_append, List.length_cons, List.length_nil]; omega) (by omega)) ?_
        rw [List.append_assoc]
        rfl
theorem ref_Put_ev {n : Int} (h : I64 n) : Ev (fun k => loessref1_Put.f k n) (putN n) := by
  have hz := zig_bitsR h
  have := putN_len h
  have h1 : Ev (fun k => loessref1_Put.j0 k (zig n : Int)) (putN n) := Ev.step (fun k => by simp only [loessref1_Put.j0]) (ref_Put_l (zig n) [] (by unfold putN at this; simp only [List.length_nil]; omega) (zig_lt h))
  refine Ev.congr (fun k => ?_) h1
  unfold loessref1_Put.f
  split
  · rename_i hn; rw [if_pos hn] at hz; rw [hz]
  · rename_i hn; rw [if_neg hn] at hz; rw [hz]
theorem ref_PutText_ev {s : ByteArray} (h : s.size ≤ 70368744177664) : Ev (fun k => loessref1_PutText.f k s) (putT s) := by
  have hi : I64 (s.size : Int) := by unfold I64; omega
  have := putN_len hi
  have h2 : Ev (fun _ => if (putN (s.size : Int)).length + s.size < 140737488355328 then some (putN (s.size : Int) ++ bytesOf s) else none) (putN (s.size : Int) ++ bytesOf s) :=
    evC (if_pos (by omega))
  exact Ev.bind (ref_Put_ev hi) h2
theorem ref_Get_l : ∀ (r pre : List Int) (u w : Int), Byt (pre ++ r) → (pre ++ r).length < 9223372036854775800 → pre.length ≤ 9 → 0 ≤ u → u < 128 ^ pre.length → w = 128 ^ pre.length →
    Ev (fun k => loessref1_Get.l0 k (pre ++ r) u w (pre.length : Int)) (ug r pre.length u) := by
  intro r
  induction r with
  | nil =>
    intro pre u w hb hl hi h0 h1 hw
    refine Ev.step (f := fun _ => some (0, 0, 2)) (fun k => ?_) (Ev.now _)
    simp only [loessref1_Get.l0]
    rw [if_neg (by simp)]
  | cons c r ih =>
    intro pre u w hb hl hi h0 h1 hw
    have hc := hb.right.head
    have hll : (pre ++ c :: r).length = pre.length + r.length + 1 := by simp; omega
    have hlt : (pre.length : Int) < ((pre ++ c :: r).length : Int) := by omega
    have hpp := p128 pre.length
    have hstep : ∀ k, loessref1_Get.l0 (k + 1) (pre ++ c :: r) u w (pre.length : Int) = loessref1_Get.j1 k (pre ++ c :: r) u w (pre.length : Int) (decide (pre.length = 9 ∧ c > 1) || decide (pre.length > 0 ∧ c = 0)) := by
      intro k
      simp only [loessref1_Get.l0]
      rw [if_pos hlt]
      by_cases h9 : pre.length = 9
      · rw [if_pos (by omega), if_pos (by omega), rd_append]
        by_cases hc1 : c > 1
        · rw [if_pos hc1]
          congr 1
          simp [h9, hc1]
        · rw [if_neg hc1, if_pos (by omega)]
          congr 1
          rw [Bool.eq_iff_iff]
          simp [h9]
          omega
      · rw [if_neg (by omega)]
        by_cases hp : (pre.length : Int) > 0
        · rw [if_pos hp, if_pos (by omega), rd_append]
          congr 1
          rw [Bool.eq_iff_iff]
          simp [h9]
          omega
        · rw [if_neg hp]
          congr 1
          simp [h9]
          omega
    refine Ev.step hstep ?_
    by_cases hx : pre.length = 9 ∧ c > 1
    · refine Ev.step (f := fun _ => some (0, 0, 1)) (fun k => ?_) (evEq (Ev.now _) ?_)
      · simp only [loessref1_Get.j1]
        rw [if_pos (by simp [hx])]
      · unfold ug; rw [if_pos hx]
    · by_cases hz : pre.length > 0 ∧ c = 0
      · refine Ev.step (f := fun _ => some (0, 0, 1)) (fun k => ?_) (evEq (Ev.now _) ?_)
        · simp only [loessref1_Get.j1]
          rw [if_pos (by simp [hz])]
        · unfold ug; rw [if_neg hx, if_neg (by omega), if_pos hz]
      · have hd : (decide (pre.length = 9 ∧ c > 1) || decide (pre.length > 0 ∧ c = 0)) = false := by rw [decide_eq_false hx, decide_eq_false hz]; rfl
        rw [hd]
        have hcb : c % 128 * 128 ^ pre.length + u < 18446744073709551616 := by
          by_cases hi9 : pre.length = 9
          · have : c ≤ 1 := by
              rcases Int.lt_or_le 1 c with h | h
              · exact absurd ⟨hi9, h⟩ hx
              · exact h
            rw [hi9] at h1 ⊢
            have : c % 128 ≤ 1 := by omega
            omega
          · have h8 := pow128_mono (i := pre.length) (j := 8) (by omega)
            have h2 : c % 128 * 128 ^ pre.length ≤ 127 * 128 ^ pre.length := Int.mul_le_mul_of_nonneg_right (by omega) (Int.le_of_lt hpp)
            have e8 : (128 : Int) ^ 8 = 72057594037927936 := rfl
            omega
        have hcn : 0 ≤ c % 128 * 128 ^ pre.length := Int.mul_nonneg (by omega) (Int.le_of_lt hpp)
        have hu : IntKind.u64.wrap (u + IntKind.u64.wrap (IntKind.u64.wrap (Int.tmod (rd (pre ++ c :: r) (pre.length : Int)) 128) * w)) = u + c % 128 * 128 ^ pre.length := by
          rw [rd_append, Int.tmod_eq_emod_of_nonneg hc.1, u64 (x := c % 128) (by omega) (by omega), hw, u64 (x := c % 128 * 128 ^ pre.length) hcn (by omega), u64 (by omega) (by omega)]
        by_cases hc1 : c > 127
        · have hi9 : pre.length ≠ 9 := fun h => hx ⟨h, by omega⟩
          have hrec := ih (pre ++ [c]) (u + (c - 128) * 128 ^ pre.length) (128 ^ (pre.length + 1)) (by rw [List.append_assoc]; exact hb) (by rw [List.append_assoc]; exact hl) (by simp; omega) (Int.add_nonneg h0 (Int.mul_nonneg (by omega) (Int.le_of_lt hpp))) (by
            simp only [List.length_append, List.length_cons, List.length_nil]
            have : (c - 128) * 128 ^ pre.length ≤ 127 * 128 ^ pre.length := Int.mul_le_mul_of_nonneg_right (by omega) (Int.le_of_lt hpp)
            rw [Int.pow_succ]
            omega) (by simp)
          simp only [List.append_assoc, List.cons_append, List.nil_append, List.length_append, List.length_cons, List.length_nil] at hrec
          have h8 := pow128_mono (i := pre.length) (j := 8) (by omega)
          have e8 : (128 : Int) ^ 8 = 72057594037927936 := rfl
          refine Ev.step (fun k => ?_) (evEq hrec ?_)
          · simp only [loessref1_Get.j1]
            rw [if_neg (by simp), if_pos (by omega), if_pos hlt, hu, rd_append, if_neg (by omega), w64 (by omega) (by omega)]
            rw [show c % 128 = c - 128 by omega, hw, Int.pow_succ, u64 (x := 128 ^ pre.length * 128) (by omega) (by omega)]
            simp only [Nat.zero_add, Int.natCast_add, Int.natCast_one]
          · conv => rhs; unfold ug
            rw [if_neg hx, if_pos hc1]
        · have e1 : c % 128 = c := by omega
          rw [e1] at hu hcb hcn
          refine Ev.step (f := fun _ => some (unzig (u + c * 128 ^ pre.length), (pre.length : Int) + 1, 0)) (fun k => ?_) (evEq (Ev.now _) ?_)
          · simp only [loessref1_Get.j1]
            rw [if_neg (by simp), if_pos (by omega), if_pos hlt, hu, rd_append, if_pos (by omega), w64 (x := (pre.length : Int) + 1) (by omega) (by omega)]
            rw [Int.tmod_eq_emod_of_nonneg (by omega), Int.tdiv_eq_ediv_of_nonneg (by omega), u64 (x := (u + c * 128 ^ pre.length) / 2) (by omega) (by omega), w64 (x := (u + c * 128 ^ pre.length) / 2) (by omega) (by omega)]
            rw [w64 (x := -((u + c * 128 ^ pre.length) / 2)) (by omega) (by omega), w64 (x := -((u + c * 128 ^ pre.length) / 2) - 1) (by omega) (by omega)]
            unfold unzig
            split <;> rfl
          · unfold ug; rw [if_neg hx, if_neg hc1, if_neg hz]
theorem ref_Get_ev {l : List Int} (h : Byt l) (hl : l.length < 9223372036854775800) : Ev (fun k => loessref1_Get.f k l) (getN l) := ref_Get_l l [] 0 1 (by simpa using h) (by simpa using hl) (by simp) (by decide) (by simp) (by simp)
theorem ref_GetText_ev {l : List Int} (h : Byt l) (hl : l.length < 9223372036854775800) : Ev (fun k => loessref1_GetText.f k l) (getT l) := by
  have hb := getN_bound l
  have hi := getN_i64 h
  unfold I64 at hi
  unfold loessref1_GetText.f
  refine Ev.bind (ref_Get_ev h hl) ?_
  unfold getT
  by_cases h0 : (getN l).2.2 = 0
  · simp only [h0, ne_eq, not_true_eq_false, if_false, if_true]
    by_cases h1 : (getN l).1 < 0 ∨ (getN l).1 > 65536
    · rw [if_pos h1]
      have e : ∀ k, (if (getN l).1 < 0 then loessref1_GetText.j0 k l (getN l).1 (getN l).2.1 true else loessref1_GetText.j0 k l (getN l).1 (getN l).2.1 (decide ((getN l).1 > 65536))) = loessref1_GetText.j0 k l (getN l).1 (getN l).2.1 true := by
        intro k
        split
        · rfl
        · rw [decide_eq_true (by omega)]
      refine Ev.congr e (Ev.step (f := fun _ => some (⟨#[]⟩, 0, 1)) (fun k => ?_) (Ev.now _))
      simp only [loessref1_GetText.j0]
      rw [if_pos trivial]
    · rw [if_neg h1]
      have e : ∀ k, (if (getN l).1 < 0 then loessref1_GetText.j0 k l (getN l).1 (getN l).2.1 true else loessref1_GetText.j0 k l (getN l).1 (getN l).2.1 (decide ((getN l).1 > 65536))) = loessref1_GetText.j0 k l (getN l).1 (getN l).2.1 false := by
        intro k
        rw [if_neg (by omega), decide_eq_false (by omega)]
      refine Ev.congr e (Ev.step (f := fun _ => if (getN l).1 > (l.length : Int) - (getN l).2.1 then some (⟨#[]⟩, 0, 2) else some (strOfNums ((l.take ((getN l).2.1 + (getN l).1).toNat).drop (getN l).2.1.toNat), (getN l).2.1 + (getN l).1, 0)) (fun k => ?_) ?_)
      · simp only [loessref1_GetText.j0]
        rw [if_neg (by simp), w64 (x := (l.length : Int) - (getN l).2.1) (by omega) (by omega)]
        by_cases h3 : (getN l).1 > (l.length : Int) - (getN l).2.1
        · rw [if_pos (by omega), if_pos h3]
        · rw [if_neg (by omega), if_neg h3, w64 (x := (getN l).2.1 + (getN l).1) (by omega) (by omega), if_pos (by omega), if_pos (by omega), if_pos (by omega)]
      · split <;> exact Ev.now _
  · have h0' : ¬ ((getN l).2.2 = 0) := h0
    simp only [ne_eq, h0, not_false_eq_true, if_true, if_false]
    exact Ev.now _
end Go.Proofs.Ytbeoegdkoodlfaa.Q

/- Values in plain Lean: the printed functions of package value and of its reference. -/
set_option linter.unusedVariables false
set_option linter.unusedSimpArgs false
namespace Go.Proofs.Ytbeoegdkoodlfaa.Q
open Go.RowKit Go.Proofs.YtbeoegdkoodlfaaW.PrintWords Go.Proofs.YtbeoegdkoodlfaaW.PrintMore Go.Proofs.Ytbeoegdkoodlfaa.G Go.Proofs.Ytbeoegdkoodlfaa.XVam
theorem nil_iff (s : ByteArray) : s.toList = ([] : List UInt8) ↔ s.size = 0 := by
  rw [toList_eq]
  have := data_length s
  constructor
  · intro e
    rw [e] at this
    simpa using this.symm
  · intro h
    exact List.eq_nil_of_length_eq_zero (by omega)
theorem size0 {s : ByteArray} (h : s.size = 0) : s = ⟨#[]⟩ := by
  apply bytesOf_inj
  rw [bytes_empty]
  apply List.eq_nil_of_length_eq_zero
  rw [bytesOf_length, h]
/-- May a raw value be one; what it is then. -/
def mayV (a b : Int) (s : ByteArray) : Bool := decide ((a = 1 ∧ s.size = 0) ∨ (a = 2 ∧ b = 0 ∧ s.size ≤ 24 ∧ vld s = true))
def ofV (a b : Int) (s : ByteArray) : VX × Int := if a = 1 ∧ s.size = 0 then (VX.num b, 0) else if a = 2 ∧ b = 0 ∧ s.size ≤ 24 ∧ vld s = true then (VX.txt s, 0) else (VX.none, 1)
theorem ofV_j (a b : Int) (s : ByteArray) (hs : s.size < 35184372088832) (x : Bool) : Ev (fun k => value_Of.j0 k x a b s) (if x = true then (VX.num b, 0) else if a = 2 ∧ b = 0 ∧ s.size ≤ 24 ∧ vld s = true then (VX.txt s, 0) else (VX.none, 1)) := by
  refine Ev.step (f := fun _ => some (if x = true then (VX.num b, 0) else if a = 2 ∧ b = 0 ∧ s.size ≤ 24 ∧ vld s = true then (VX.txt s, 0) else (VX.none, 1))) (fun k => ?_) (Ev.now _)
  simp only [value_Of.j0, rValid hs, Option.bind_some]
  by_cases hx : x = true
  · rw [if_pos hx, if_pos hx]
  · rw [if_neg hx, if_neg hx]
    by_cases h1 : a = 2
    · rw [if_pos h1]
      by_cases h2 : b = 0
      · rw [if_pos h2]
        by_cases h3 : (s.size : Int) ≤ 24
        · rw [if_pos h3]
          by_cases h4 : vld s = true
          · rw [if_pos h4, if_pos ⟨h1, h2, by omega, h4⟩]
          · rw [if_neg h4, if_neg (fun h => h4 h.2.2.2)]
        · rw [if_neg h3, if_neg (fun h => h3 (by omega))]
      · rw [if_neg h2, if_neg (fun h => h2 h.2.1)]
    · rw [if_neg h1, if_neg (fun h => h1 h.1)]
theorem value_Of_ev (a b : Int) {s : ByteArray} (hs : s.size < 35184372088832) : Ev (fun k => value_Of.f k a b s) (ofV a b s) := by
  unfold value_Of.f ofV
  by_cases h1 : a = 1
  · refine Ev.congr (fun k => if_pos h1) (evEq (ofV_j a b s hs _) ?_)
    by_cases h2 : s.size = 0
    · have := (nil_iff s).2 h2
      rw [if_pos (by rw [this]; rfl), if_pos ⟨h1, h2⟩]
    · have : ¬ s.toList = ([] : List UInt8) := fun h => h2 ((nil_iff s).1 h)
      rw [if_neg (by simpa using this), if_neg (show ¬ (a = 1 ∧ s.size = 0) from fun h => h2 h.2)]
  · refine Ev.congr (fun k => if_neg h1) (evEq (ofV_j a b s hs _) ?_)
    rw [if_neg (show ¬ (a = 1 ∧ s.size = 0) from fun h => h1 h.1)]
    rfl
theorem ofV_two {a : Int} (ha : a = 2) (s : ByteArray) : ofV a 0 s = if mayV 2 0 s = true then (VX.txt s, 0) else (VX.none, 1) := by
  subst ha
  unfold ofV mayV
  rw [if_neg (show ¬ ((2 : Int) = 1 ∧ s.size = 0) from fun h => by cases h.1)]
  by_cases h : s.size ≤ 24 ∧ vld s = true
  · rw [if_pos ⟨rfl, rfl, h.1, h.2⟩, if_pos (decide_eq_true (.inr ⟨rfl, rfl, h.1, h.2⟩))]
  · rw [if_neg (show ¬ ((2 : Int) = 2 ∧ (0 : Int) = 0 ∧ s.size ≤ 24 ∧ vld s = true) from fun h2 => h ⟨h2.2.2.1, h2.2.2.2⟩), decide_eq_false (fun h2 => h2.elim (fun h3 => by cases h3.1) (fun h3 => h ⟨h3.2.2.1, h3.2.2.2⟩))]
    rfl
theorem may_ev (a b : Int) {s : ByteArray} (hs : s.size < 17592186044416) : Ev (fun k => loessref1_MayVal.f k a b s) (mayV a b s) := by
  unfold loessref1_MayVal.f mayV
  by_cases h1 : a = 1
  · refine Ev.congr (fun k => if_pos h1) (evC ?_)
    congr 1
    by_cases h2 : s.size = 0
    · have := (nil_iff s).2 h2
      rw [this]
      simp [h1, h2]
    · have : ¬ s.toList = ([] : List UInt8) := fun h => h2 ((nil_iff s).1 h)
      rw [decide_eq_false (by omega)]
      simpa using this
  · refine Ev.congr (fun k => if_neg h1) ?_
    by_cases h2 : a = 2
    · refine Ev.congr (fun k => if_pos h2) ?_
      by_cases h3 : b = 0
      · refine Ev.congr (fun k => if_pos h3) ?_
        by_cases h4 : (s.size : Int) ≤ 24
        · refine Ev.congr (fun k => if_pos h4) (Ev.bind (refValid_ev hs) (evC ?_))
          have h5 : s.size ≤ 24 := by omega
          rw [show (ds (bytesOf s)).all (·.2.2) = vld s from rfl]
          cases hv : vld s with
          | true => rw [decide_eq_true (.inr ⟨h2, h3, h5, rfl⟩)]
          | false => rw [decide_eq_false (fun h => h.elim (fun h => h1 h.1) (fun h => by cases h.2.2.2))]
        · refine Ev.congr (fun k => if_neg h4) (evC ?_)
          rw [decide_eq_false (by omega)]
      · refine Ev.congr (fun k => if_neg h3) (evC ?_)
        rw [decide_eq_false (by omega)]
    · refine Ev.congr (fun k => if_neg h2) (evC ?_)
      rw [decide_eq_false (by omega)]
theorem kind_eq (x : VX) : value_Value_Kind.f x = some x.k := by cases x <;> rfl
theorem raw_eq (x : VX) : value_Raw.f x = some (x.k, x.n, x.s) := by cases x <;> rfl
theorem eq_eq (x y : VX) : value_Eq.f x y = some (x.k == y.k && (x.n == y.n && (x.s.toList == y.s.toList))) := by
  unfold value_Eq.f
  rw [raw_eq, raw_eq]
  rfl
theorem eqVal_eq (a b : Int) (s : ByteArray) (c d : Int) (t : ByteArray) : loessref1_EqVal.f a b s c d t = some (decide (a = c ∧ b = d ∧ s = t)) := by
  unfold loessref1_EqVal.f
  by_cases h1 : a = c
  · rw [if_pos h1]
    by_cases h2 : b = d
    · rw [if_pos h2]
      congr 1
      by_cases h3 : s = t
      · subst h3; simp [h1, h2]
      · have : ¬ s.toList = t.toList := fun h => h3 (toList_inj h)
        simp [h1, h2, h3, this]
    · rw [if_neg h2, decide_eq_false (fun h => h2 h.2.1)]
  · rw [if_neg h1, decide_eq_false (fun h => h1 h.1)]
/-- A value read. -/
def getV (l : List Int) : Int × Int × ByteArray × Int × Int :=
  if (getN l).2.2 = 0 then
    if (getN l).1 = 1 then
      if (getN (l.drop (getN l).2.1.toNat)).2.2 = 0 then (1, (getN (l.drop (getN l).2.1.toNat)).1, ⟨#[]⟩, (getN l).2.1 + (getN (l.drop (getN l).2.1.toNat)).2.1, 0) else (0, 0, ⟨#[]⟩, 0, (getN (l.drop (getN l).2.1.toNat)).2.2)
    else if (getN l).1 = 2 then
      if (getT (l.drop (getN l).2.1.toNat)).2.2 = 0 then
        if mayV 2 0 (getT (l.drop (getN l).2.1.toNat)).1 = true then (2, 0, (getT (l.drop (getN l).2.1.toNat)).1, (getN l).2.1 + (getT (l.drop (getN l).2.1.toNat)).2.1, 0) else (0, 0, ⟨#[]⟩, 0, 1)
      else (0, 0, ⟨#[]⟩, 0, (getT (l.drop (getN l).2.1.toNat)).2.2)
    else (0, 0, ⟨#[]⟩, 0, 1)
  else (0, 0, ⟨#[]⟩, 0, (getN l).2.2)
theorem getT_size (l : List Int) (hb : Byt l) : (getT l).1.size ≤ 65536 := by
  by_cases h : (getT l).2.2 = 0
  · exact (getT_canon hb h).2.2
  · rw [((getT_bound l).2.2.2 h).1]
    decide
theorem get_ev {l : List Int} (hb : Byt l) (hl : l.length < 4611686018427387904) : Ev (fun k => value_Get.f k l) (getV l) := by
  have b1 := getN_bound l
  have hbd : Byt (l.drop (getN l).2.1.toNat) := hb.drop _
  have hld : (l.drop (getN l).2.1.toNat).length ≤ l.length := by rw [List.length_drop]; omega
  unfold value_Get.f getV
  refine Ev.bind (num_Get_ev hb (by omega)) ?_
  by_cases h0 : (getN l).2.2 = 0
  · refine Ev.congr (fun k => if_pos h0) ?_
    rw [if_pos h0]
    by_cases h1 : (getN l).1 = 1
    · have b2 := getN_bound (l.drop (getN l).2.1.toNat)
      refine Ev.congr (fun k => if_pos h1) ?_
      rw [if_pos h1]
      refine Ev.congr (fun k => if_pos b1.1) (Ev.congr (fun k => if_pos b1.2.1) (Ev.bind (num_Get_ev hbd (by omega)) ?_))
      by_cases h2 : (getN (l.drop (getN l).2.1.toNat)).2.2 = 0
      · rw [if_pos h2]
        refine Ev.step (f := fun k => (value_Of.f k (getN l).1 (getN (l.drop (getN l).2.1.toNat)).1 ⟨#[]⟩).bind fun bt248 => if bt248.2 = 0 then some ((getN l).1, (getN (l.drop (getN l).2.1.toNat)).1, ⟨#[]⟩, wrap64 ((getN l).2.1 + (getN (l.drop (getN l).2.1.toNat)).2.1), 0) else some (0, 0, ⟨#[]⟩, 0, bt248.2)) (fun k => ?_) ?_
        · simp only [value_Get.j0]
          rw [if_pos h2]
        · refine Ev.bind (value_Of_ev _ _ (by decide)) (evC ?_)
          have e : ofV (getN l).1 (getN (l.drop (getN l).2.1.toNat)).1 ⟨#[]⟩ = (VX.num (getN (l.drop (getN l).2.1.toNat)).1, 0) := by unfold ofV; rw [if_pos ⟨h1, rfl⟩]
          rw [e, if_pos rfl, h1, w64 (by omega) (by omega)]
      · rw [if_neg h2]
        refine Ev.step (f := fun _ => some (0, 0, ⟨#[]⟩, 0, (getN (l.drop (getN l).2.1.toNat)).2.2)) (fun k => ?_) (Ev.now _)
        simp only [value_Get.j0]
        rw [if_neg h2]
    · refine Ev.congr (fun k => if_neg h1) ?_
      rw [if_neg h1]
      by_cases h2 : (getN l).1 = 2
      · have b2 := getT_bound (l.drop (getN l).2.1.toNat)
        refine Ev.congr (fun k => if_pos h2) ?_
        rw [if_pos h2]
        refine Ev.congr (fun k => if_pos b1.1) (Ev.congr (fun k => if_pos b1.2.1) (Ev.bind (num_GetText_ev hbd (by omega)) ?_))
        have hts := getT_size _ hbd
        by_cases h3 : (getT (l.drop (getN l).2.1.toNat)).2.2 = 0
        · rw [if_pos h3]
          refine Ev.step (f := fun k => (value_Of.f k (getN l).1 0 (getT (l.drop (getN l).2.1.toNat)).1).bind fun bt248 => if bt248.2 = 0 then some ((getN l).1, 0, (getT (l.drop (getN l).2.1.toNat)).1, wrap64 ((getN l).2.1 + (getT (l.drop (getN l).2.1.toNat)).2.1), 0) else some (0, 0, ⟨#[]⟩, 0, bt248.2)) (fun k => ?_) ?_
          · simp only [value_Get.j0]
            rw [if_pos h3]
          · refine Ev.bind (value_Of_ev _ _ (by omega)) (evC ?_)
            rw [ofV_two h2]
            by_cases h4 : mayV 2 0 (getT (l.drop (getN l).2.1.toNat)).1 = true
            · rw [if_pos h4, if_pos h4, if_pos rfl, h2, w64 (by omega) (by omega)]
            · rw [if_neg h4, if_neg h4, if_neg (by simp)]
        · rw [if_neg h3]
          refine Ev.step (f := fun _ => some (0, 0, ⟨#[]⟩, 0, (getT (l.drop (getN l).2.1.toNat)).2.2)) (fun k => ?_) (Ev.now _)
          simp only [value_Get.j0]
          rw [if_neg h3]
      · refine Ev.congr (fun k => if_neg h2) ?_
        rw [if_neg h2]
        refine Ev.step (f := fun _ => some (0, 0, ⟨#[]⟩, 0, 1)) (fun k => ?_) (Ev.now _)
        simp only [value_Get.j0]
        rw [if_neg (by omega)]
  · refine Ev.congr (fun k => if_neg h0) (evC ?_)
    rw [if_neg h0]
theorem refGet_ev {l : List Int} (hb : Byt l) (hl : l.length < 4611686018427387904) : Ev (fun k => loessref1_GetVal.f k l) (getV l) := by
  have b1 := getN_bound l
  have hbd : Byt (l.drop (getN l).2.1.toNat) := hb.drop _
  have hld : (l.drop (getN l).2.1.toNat).length ≤ l.length := by rw [List.length_drop]; omega
  unfold loessref1_GetVal.f getV
  refine Ev.bind (ref_Get_ev hb (by omega)) ?_
  by_cases h0 : (getN l).2.2 = 0
  · refine Ev.congr (fun k => if_pos h0) ?_
    rw [if_pos h0]
    by_cases h1 : (getN l).1 = 1
    · have b2 := getN_bound (l.drop (getN l).2.1.toNat)
      refine Ev.congr (fun k => if_pos h1) ?_
      rw [if_pos h1]
      refine Ev.congr (fun k => if_pos b1.1) (Ev.congr (fun k => if_pos b1.2.1) (Ev.bind (ref_Get_ev hbd (by omega)) (evC ?_)))
      by_cases h2 : (getN (l.drop (getN l).2.1.toNat)).2.2 = 0
      · rw [if_pos h2, if_pos h2, w64 (by omega) (by omega)]
      · rw [if_neg h2, if_neg h2]
    · refine Ev.congr (fun k => if_neg h1) ?_
      rw [if_neg h1]
      by_cases h2 : (getN l).1 = 2
      · have b2 := getT_bound (l.drop (getN l).2.1.toNat)
        refine Ev.congr (fun k => if_pos h2) ?_
        rw [if_pos h2]
        refine Ev.congr (fun k => if_pos b1.1) (Ev.congr (fun k => if_pos b1.2.1) (Ev.bind (ref_GetText_ev hbd (by omega)) ?_))
        have hts := getT_size _ hbd
        by_cases h3 : (getT (l.drop (getN l).2.1.toNat)).2.2 = 0
        · refine Ev.congr (fun k => if_pos h3) (Ev.bind (may_ev _ _ (by omega)) (evC ?_))
          rw [if_pos h3]
          by_cases h4 : mayV 2 0 (getT (l.drop (getN l).2.1.toNat)).1 = true
          · rw [if_pos h4, if_pos h4, w64 (by omega) (by omega)]
          · rw [if_neg h4, if_neg h4]
        · refine Ev.congr (fun k => if_neg h3) (evC ?_)
          rw [if_neg h3]
      · refine Ev.congr (fun k => if_neg h2) (evC ?_)
        rw [if_neg h2]
  · refine Ev.congr (fun k => if_neg h0) (evC ?_)
    rw [if_neg h0]
theorem val_begun : Ev (fun k => loesslaw4_begun.f k) true := Ev.of loesslaw4_begun.mono (k := 60) (by kernel_rfl)
theorem val_then {g : Nat → Option Bool} {r : Bool} (h : Ev g r) : Ev (fun k => (loesslaw4_begun.f k).bind fun t => if t = true then g k else some false) r :=
  Ev.bind val_begun (Ev.congr (fun k => by rw [if_pos rfl]) h)
theorem cut3_eq (s : ByteArray) (n : Nat) : ∃ t : ByteArray, loesslaw3_Cut.f s (n : Int) = some t ∧ t.size ≤ n ∧ bytesOf t = (bytesOf s).take n := by
  unfold loesslaw3_Cut.f
  split
  · rw [if_pos (by omega), if_pos (by omega)]
    refine ⟨_, rfl, ?_, ?_⟩
    · simp only [ByteArray.size_extract]; omega
    · rw [bytesOf_extract]; simp
  · refine ⟨_, rfl, by omega, ?_⟩
    rw [List.take_of_length_le (by rw [bytesOf_length]; omega)]
end Go.Proofs.Ytbeoegdkoodlfaa.Q

/- A value's bytes in plain Lean: what is written of it is read again; what is cut off is not all there. -/
set_option linter.unusedVariables false
set_option linter.unusedSimpArgs false
namespace Go.Proofs.Ytbeoegdkoodlfaa.Q
open Go.RowKit Go.Proofs.YtbeoegdkoodlfaaW.PrintWords Go.Proofs.YtbeoegdkoodlfaaW.PrintMore Go.Proofs.Ytbeoegdkoodlfaa.G Go.Proofs.Ytbeoegdkoodlfaa.XVam
def putV (a b : Int) (s : ByteArray) : List Int := putN a ++ (if a = 1 then putN b else putT s)
theorem putV_byt (a b : Int) (s : ByteArray) : Byt (putV a b s) := by
  unfold putV
  refine (putN_byt a).append ?_
  split
  · exact putN_byt b
  · exact putT_byt s
theorem putT_len {s : ByteArray} {n : Nat} (h : s.size ≤ n) (hn : n ≤ 4611686018427387904) : (putT s).length ≤ n + 10 := by
  have := putN_len (n := (s.size : Int)) (by unfold I64; omega)
  unfold putT
  rw [List.length_append, bytesOf_length]
  omega
theorem putV_len {a b : Int} {s : ByteArray} (ha : I64 a) (hb : I64 b) {n : Nat} (h : s.size ≤ n) (hn : n ≤ 4611686018427387904) : (putV a b s).length ≤ n + 20 := by
  have h1 := putN_len ha
  have h2 := putN_len hb
  have h3 := putT_len h hn
  unfold putV
  rw [List.length_append]
  split <;> omega
theorem value_Put_ev {a b : Int} {s : ByteArray} (ha : I64 a) (hb : I64 b) (h : s.size ≤ 17592186044416) (l : List Int) (hl : l.length + 10 ≤ 35184372088832) : Ev (fun k => value_Put.f k l a b s) (l ++ putV a b s) := by
  have h1 := putN_len ha
  unfold value_Put.f putV
  refine Ev.bind (num_Put_ev ha l (by omega)) ?_
  by_cases e : a = 1
  · refine Ev.congr (fun k => if_pos e) ?_
    rw [if_pos e, ← List.append_assoc]
    exact Ev.bind (num_Put_ev hb (l ++ putN a) (by rw [List.length_append]; omega)) (Ev.now _)
  · refine Ev.congr (fun k => if_neg e) ?_
    rw [if_neg e, ← List.append_assoc]
    exact Ev.bind (num_PutText_ev (s := s) (by omega) (l ++ putN a) (by rw [List.length_append]; omega)) (Ev.now _)
theorem mayV_cases {a b : Int} {s : ByteArray} (h : mayV a b s = true) : (a = 1 ∧ s = ⟨#[]⟩) ∨ (a = 2 ∧ b = 0 ∧ s.size ≤ 24 ∧ vld s = true) := by
  rcases of_decide_eq_true h with ⟨h1, h2⟩ | h1
  · exact .inl ⟨h1, size0 h2⟩
  · exact .inr h1
theorem mayV_size {a b : Int} {s : ByteArray} (h : mayV a b s = true) : s.size ≤ 24 := by
  rcases mayV_cases h with ⟨h1, h2⟩ | h1
  · rw [h2]; decide
  · exact h1.2.2.1
theorem mayV_a {a b : Int} {s : ByteArray} (h : mayV a b s = true) : a = 1 ∨ a = 2 := by
  rcases mayV_cases h with h1 | h1
  · exact .inl h1.1
  · exact .inr h1.1
theorem mayV_i64 {a b : Int} {s : ByteArray} (h : mayV a b s = true) : I64 a := by
  unfold I64
  rcases mayV_a h with h1 | h1 <;> omega
theorem getV_put {a b : Int} {s : ByteArray} (h : mayV a b s = true) (hb : I64 b) (rest : List Int) : getV (putV a b s ++ rest) = (a, b, s, ((putV a b s).length : Int), 0) := by
  have hi := mayV_i64 h
  unfold getV
  have e0 : getN (putV a b s ++ rest) = (a, ((putN a).length : Int), 0) := by
    unfold putV; rw [List.append_assoc]; exact getN_put hi _
  have e1 : (putV a b s ++ rest).drop ((putN a).length : Int).toNat = (if a = 1 then putN b else putT s) ++ rest := by
    unfold putV; rw [List.append_assoc, Int.toNat_natCast]; exact List.drop_left
  simp only [e0, e1, if_true]
  rcases mayV_cases h with ⟨h1, h2⟩ | ⟨h1, h2, h3, h4⟩
  · rw [if_pos h1]
    have e2 : getN ((if a = 1 then putN b else putT s) ++ rest) = (b, ((putN b).length : Int), 0) := by rw [if_pos h1]; exact getN_put hb _
    simp only [e2, if_true]
    unfold putV
    rw [if_pos h1, List.length_append, h1, h2]
    simp
  · subst h1; subst h2
    rw [if_neg (show ¬ ((2 : Int) = 1) by decide), if_pos rfl]
    have e2 : getT ((if (2 : Int) = 1 then putN 0 else putT s) ++ rest) = (s, ((putT s).length : Int), 0) := by rw [if_neg (show ¬ ((2 : Int) = 1) by decide)]; exact getT_put (by omega) _
    simp only [e2, if_true]
    unfold putV
    rw [if_pos h, if_neg (show ¬ ((2 : Int) = 1) by decide), List.length_append]
    simp
theorem getV_cut {a b : Int} {s : ByteArray} (h : mayV a b s = true) (hb : I64 b) {m : Nat} (hm : m < (putV a b s).length) : getV ((putV a b s).take m) = (0, 0, ⟨#[]⟩, 0, 2) := by
  have hi := mayV_i64 h
  unfold getV
  by_cases hc : m < (putN a).length
  · have e0 : getN ((putV a b s).take m) = (0, 0, 2) := by
      unfold putV; rw [List.take_append_of_le_length (by omega)]; exact getN_cut hi hc
    simp only [e0]
    rw [if_neg (by decide)]
  · have e3 : (putV a b s).take m = putN a ++ (if a = 1 then putN b else putT s).take (m - (putN a).length) := by
      unfold putV; rw [List.take_append, List.take_of_length_le (by omega)]
    have e0 : getN ((putV a b s).take m) = (a, ((putN a).length : Int), 0) := by rw [e3]; exact getN_put hi _
    have e1 : ((putV a b s).take m).drop ((putN a).length : Int).toNat = (if a = 1 then putN b else putT s).take (m - (putN a).length) := by
      rw [e3, Int.toNat_natCast]; exact List.drop_left
    simp only [e0, e1, if_true]
    unfold putV at hm
    rw [List.length_append] at hm
    rcases mayV_cases h with ⟨h1, h2⟩ | ⟨h1, h2, h3, h4⟩
    · rw [if_pos h1] at hm ⊢
      have e2 : getN ((if a = 1 then putN b else putT s).take (m - (putN a).length)) = (0, 0, 2) := by rw [if_pos h1]; exact getN_cut hb (by omega)
      simp only [e2]
      rw [if_neg (by decide)]
    · subst h1; subst h2
      rw [if_neg (show ¬ ((2 : Int) = 1) by decide)] at hm
      rw [if_neg (show ¬ ((2 : Int) = 1) by decide), if_pos rfl]
      have e2 : getT ((if (2 : Int) = 1 then putN 0 else putT s).take (m - (putN 2).length)) = (⟨#[]⟩, 0, 2) := by rw [if_neg (show ¬ ((2 : Int) = 1) by decide)]; exact getT_cut (by omega) (by omega)
      simp only [e2]
      rw [if_neg (by decide)]
end Go.Proofs.Ytbeoegdkoodlfaa.Q

/- Rows of structs and struct parameters, opened: what an argument's datum says of its cells, kind by kind. -/
set_option linter.unusedVariables false
set_option linter.unusedSimpArgs false
namespace Go.Proofs.Ytbeoegdkoodlfaa.O
open Go.RowKit Go.ChangeShapes Go.WideShapes Go.Deep Go.Proofs.YtbeoegdkoodlfaaW.PrintWords Go.Proofs.YtbeoegdkoodlfaaW.PrintMore
section
variable {H : Type} {enc : TypeId × Value → H} {P : Program}
/-- What the cells of a type's value are: a value of the kind d, of which ok holds. -/
def El (enc : TypeId × Value → H) (P : Program) (e : TypeId) {α : Type} (d : Kd α) (ok : α → Prop) : Prop :=
  ∀ (w : World) (base : Nat) (spare : Nat → Bool) (held : Bool) (n : Nat) (cs : List Value) (x : DataW H × List MemPlace), DataW.trod enc P w base spare held n e cs = some x → ∃ a, d.K w a cs ∧ ok a
theorem el_int {k : IntKind} {e : TypeId} (he : P.underlying e = some (.int k)) : El enc P e (Kd.int k) (fun n => (Lit.int k n).wf = true) := by
  intro w base spare held n cs x h
  obtain ⟨m, h1, h2, h3⟩ := DataW.trod_int he h
  exact ⟨m, h1, h3⟩
theorem el_bool {e : TypeId} (he : P.underlying e = some .bool) : El enc P e Kd.bool (fun _ => True) := by
  intro w base spare held n cs x h
  obtain ⟨m, h1, h2⟩ := DataW.trod_bool he h
  exact ⟨m, h1, trivial⟩
theorem el_string {e : TypeId} (he : P.underlying e = some .string) : El enc P e Kd.string (fun s => s.size ≤ 9223372036854775807) := by
  intro w base spare held n cs x h
  obtain ⟨m, h1, h2, h3⟩ := DataW.trod_string he h
  exact ⟨m, h1, h3⟩
theorem el_struct2 {e : TypeId} {f0 f1 : Field} {α β : Type} {a : Kd α} {b : Kd β} {oka : α → Prop} {okb : β → Prop} (he : P.underlying e = some (.struct #[f0, f1])) (hc : P.cellsOf e = a.sz + b.sz) (o0 : f0.offset = 0) (o1 : f1.offset = a.sz) (c0 : P.cellsOf f0.type = a.sz) (c1 : P.cellsOf f1.type = b.sz)
    (h0 : El enc P f0.type a oka) (h1 : El enc P f1.type b okb) : El enc P e (Kd.pair a b) (fun x => oka x.1 ∧ okb x.2) := by
  intro w base spare held n cs x h
  obtain ⟨y0, y1, m, hx, hl, g0, g1⟩ := trod_struct2 he h
  obtain ⟨x0, k0, q0⟩ := h0 _ _ _ _ _ _ _ g0
  obtain ⟨x1, k1, q1⟩ := h1 _ _ _ _ _ _ _ g1
  refine ⟨(x0, x1), ⟨_, _, ?_, k0, k1⟩, q0, q1⟩
  rw [o0, o1, c0, c1, List.drop_zero]
  rw [List.take_of_length_le (l := cs.drop a.sz) (by rw [List.length_drop]; omega), List.take_append_drop]
theorem el_struct3 {e : TypeId} {f0 f1 f2 : Field} {α β γ : Type} {a : Kd α} {b : Kd β} {c : Kd γ} {oka : α → Prop} {okb : β → Prop} {okc : γ → Prop} (he : P.underlying e = some (.struct #[f0, f1, f2])) (hc : P.cellsOf e = a.sz + (b.sz + c.sz))
    (o0 : f0.offset = 0) (o1 : f1.offset = a.sz) (o2 : f2.offset = a.sz + b.sz) (c0 : P.cellsOf f0.type = a.sz) (c1 : P.cellsOf f1.type = b.sz) (c2 : P.cellsOf f2.type = c.sz)
    (h0 : El enc P f0.type a oka) (h1 : El enc P f1.type b okb) (h2 : El enc P f2.type c okc) : El enc P e (Kd.pair a (Kd.pair b c)) (fun x => oka x.1 ∧ okb x.2.1 ∧ okc x.2.2) := by
  intro w base spare held n cs x h
  obtain ⟨y0, y1, y2, m, hx, hl, g0, g1, g2⟩ := trod_struct3 he h
  obtain ⟨x0, k0, q0⟩ := h0 _ _ _ _ _ _ _ g0
  obtain ⟨x1, k1, q1⟩ := h1 _ _ _ _ _ _ _ g1
  obtain ⟨x2, k2, q2⟩ := h2 _ _ _ _ _ _ _ g2
  refine ⟨(x0, x1, x2), ⟨_, _, ?_, k0, _, _, rfl, k1, k2⟩, q0, q1, q2⟩
  rw [o0, o1, o2, c0, c1, c2, List.drop_zero, ← List.drop_drop]
  rw [List.take_of_length_le (l := (cs.drop a.sz).drop b.sz) (by rw [List.length_drop, List.length_drop]; omega), List.take_append_drop, List.take_append_drop]
theorem el_iso {e : TypeId} {α β : Type} {d : Kd α} {ok : α → Prop} (f : β → α) (g : α → β) (hfg : ∀ x, f (g x) = x) (h : El enc P e d ok) : El enc P e (Kd.iso d f) (fun x => ok (f x)) := by
  intro w base spare held n cs x hx
  obtain ⟨a, h1, h2⟩ := h _ _ _ _ _ _ _ hx
  refine ⟨g a, ?_, ?_⟩
  · show d.K w (f (g a)) cs
    rw [hfg]; exact h1
  · show ok (f (g a))
    rw [hfg]; exact h2
def IsRows {α : Type} (d : Kd α) (ok : α → Prop) (w : World) (A : Option Addr) (len cap : Nat) (xs : List α) : Prop :=
  xs.length = len ∧ len ≤ cap ∧ cap ≤ 9223372036854775807 ∧ d.C w A len xs ∧ ∀ a ∈ xs, ok a
/-- A slice that came in, as a row of its element's kind. -/
theorem open_rows {t e : TypeId} {α : Type} [Inhabited α] {d : Kd α} {ok : α → Prop} {w : World} {base : Nat} {spare : Nat → Bool} {held : Bool} {fuel : Nat} {A : Option Addr} {len cap : Nat} {x : DataW H × List MemPlace} (ht : P.underlying t = some (.slice e)) (hc : P.cellsOf e = d.sz)
    (hE : El enc P e d ok) (h : DataW.trod enc P w base spare held fuel t (Value.slice A len cap).cells.toList = some x) :
    ∃ xs : List α, IsRows d ok w A len cap xs := by
  have hcs : (Value.slice A len cap).cells.toList = [.slice A len cap] := rfl
  rw [hcs] at h
  rcases open_slice ht h with ⟨h1, _⟩ | ⟨a, l, c, m, n, D, Pl, h1, hb, hl, hm, hmm, _, hx⟩
  · simp at h1
    obtain ⟨rfl, rfl, rfl⟩ := h1
    exact ⟨[], rfl, by omega, by omega, Kd.C_nil d w, by simp⟩
  · simp at h1
    obtain ⟨rfl, rfl, rfl⟩ := h1
    have hlm : len ≤ m := by rw [hmm]; split <;> omega
    have each : ∀ i, i < len → ∃ y : α, (∃ cs', w.cells? base (a.add (i * P.cellsOf e)) (P.cellsOf e) = some cs' ∧ d.K w y cs') ∧ ok y := fun i hi => by
      obtain ⟨cs', h2, h3⟩ := hx i (by omega)
      obtain ⟨y, h4, h5⟩ := hE _ _ _ _ _ _ _ h3
      exact ⟨y, ⟨cs', h2, h4⟩, h5⟩
    obtain ⟨f, hf⟩ := choose_lt each
    have hmax : maxLen = 9223372036854775807 := rfl
    refine ⟨(List.range len).map f, by simp, hl, by omega, ⟨by simp, by omega, fun _ => ⟨a, rfl, fun j p hj => ?_⟩⟩, fun y hy => ?_⟩
    · obtain ⟨h6, h7⟩ := List.getElem?_eq_some_iff.1 hj
      simp at h6 h7
      subst h7
      obtain ⟨cs', h2, h4⟩ := (hf j h6).1
      obtain ⟨_, hlen, hcell⟩ := World.cells?_some h2
      refine ⟨cs', by rw [hlen, hc], h4, fun i u hu => ?_⟩
      have hi : i < P.cellsOf e := by rw [← hlen]; exact (List.getElem?_eq_some_iff.1 hu).1
      have h8 := hcell i hi
      rw [hu] at h8
      rw [← h8, ← hc]
      congr 1
      exact (Go.Deep.add_add _ _ _).symm
    · simp at hy
      obtain ⟨i, hi, rfl⟩ := hy
      exact (hf i hi).2
end
end Go.Proofs.Ytbeoegdkoodlfaa.O

/- api.Raw that came in: by value, and in rows. -/
set_option linter.unusedVariables false
set_option linter.unusedSimpArgs false
namespace Go.Proofs.Ytbeoegdkoodlfaa.O
open Go.RowKit Go.ChangeShapes Go.WideShapes Go.Deep Go.Proofs.YtbeoegdkoodlfaaW.PrintWords Go.Proofs.YtbeoegdkoodlfaaW.PrintMore Go.Proofs.Ytbeoegdkoodlfaa.XVam
instance : Inhabited S23 := ⟨⟨0, 0, ByteArray.empty⟩⟩
def ok23 (x : S23) : Prop := (Lit.int .i64 x.f0).wf = true ∧ (Lit.int .i64 x.f1).wf = true ∧ x.f2.size ≤ 9223372036854775807
theorem el23 {H : Type} {enc : TypeId × Value → H} : El enc Try.prog 23 k23 ok23 :=
  el_iso (fun x : S23 => (x.f0, x.f1, x.f2)) (fun p => ⟨p.1, p.2.1, p.2.2⟩) (fun _ => rfl)
    (el_struct3 Try.underlying23 (by kernel_rfl) rfl rfl rfl (by kernel_rfl) (by kernel_rfl) (by kernel_rfl) (el_int Try.underlying3) (el_int Try.underlying2) (el_string Try.underlying9))
def v23 (x : S23) : Value := .agg #[.int .i64 x.f0, .int .i64 x.f1, .string x.f2]
theorem st23 {H : Type} {enc : TypeId × Value → H} {w : World} {base : Nat} {spare : Nat → Bool} {held : Bool} {r : Reach} {b0 : Nat} {v : Value} {d : DataW H} {p : List MemPlace} (hv : Value.okWide Try.prog w r b0 23 v) (h : DataW.Trod enc Try.prog w base spare held 23 v d p) : ∃ x, v = v23 x ∧ ok23 x := by
  obtain ⟨cs, rfl, hs⟩ := okWide_struct Try.underlying23 hv
  obtain ⟨n, hn⟩ := h
  obtain ⟨a, ha, ho⟩ := el23 _ _ _ _ _ _ _ hn
  refine ⟨a, ?_, ho⟩
  obtain ⟨c0, c1, e, rfl, c2, c3, rfl, rfl, rfl⟩ := ha
  have e2 : cs.toList = [.int .i64 a.f0, .int .i64 a.f1, .string a.f2] := e
  unfold v23
  rw [← Array.toList_inj.1 (show cs.toList = (#[.int .i64 a.f0, .int .i64 a.f1, .string a.f2] : Array Value).toList from e2)]
end Go.Proofs.Ytbeoegdkoodlfaa.O

/- A raw value that is cut. -/
set_option linter.unusedVariables false
set_option linter.unusedSimpArgs false
namespace Go.Proofs.Ytbeoegdkoodlfaa.Pure
open Go.RowKit Go.Proofs.YtbeoegdkoodlfaaW.PrintWords Go.Proofs.YtbeoegdkoodlfaaW.PrintMore Go.Proofs.Ytbeoegdkoodlfaa.G Go.Proofs.Ytbeoegdkoodlfaa.XVam Go.Proofs.Ytbeoegdkoodlfaa.Q
theorem cutV (a b : Int) (s : ByteArray) : ∃ t : ByteArray, loesslaw4_Cut.f a b s = some (a, b, t) ∧ t.size ≤ 30 ∧ bytesOf t = (bytesOf s).take 30 := by
  obtain ⟨t, h1, h2, h3⟩ := cut3_eq s 30
  refine ⟨t, ?_, h2, h3⟩
  unfold loesslaw4_Cut.f
  rw [show (30 : Int) = ((30 : Nat) : Int) from rfl, h1]
  rfl
end Go.Proofs.Ytbeoegdkoodlfaa.Pure

/- The law ValueMany in plain Lean: values one behind the other are told one by one. -/
set_option linter.unusedVariables false
set_option linter.unusedSimpArgs false
namespace Go.Proofs.Ytbeoegdkoodlfaa.Pure
open Go.RowKit Go.Proofs.YtbeoegdkoodlfaaW.PrintWords Go.Proofs.YtbeoegdkoodlfaaW.PrintMore Go.Proofs.Ytbeoegdkoodlfaa.G Go.Proofs.Ytbeoegdkoodlfaa.XVam Go.Proofs.Ytbeoegdkoodlfaa.Q
abbrev Sx := S23
def putAllV (l : List Sx) : List Int := l.flatMap (fun x => putV x.f0 x.f1 x.f2)
def goodV (x : Sx) : Prop := mayV x.f0 x.f1 x.f2 = true ∧ I64 x.f1
theorem putAllV_len : ∀ {l : List Sx}, (∀ x ∈ l, goodV x) → (putAllV l).length ≤ 44 * l.length := by
  intro l
  induction l with
  | nil => intro _; simp [putAllV]
  | cons x r ih =>
    intro h
    have hx := h x List.mem_cons_self
    have h1 := putV_len (mayV_i64 hx.1) hx.2 (mayV_size hx.1) (by decide)
    have h2 := ih (fun y hy => h y (List.mem_cons_of_mem _ hy))
    simp only [putAllV, List.flatMap_cons, List.length_append, List.length_cons] at h2 ⊢
    omega
theorem putAllV_byt : ∀ l : List Sx, Byt (putAllV l) := by
  intro l
  induction l with
  | nil => exact Byt.nil
  | cons x r ih => exact (putV_byt x.f0 x.f1 x.f2).append ih
theorem rdS_append (p r : List Sx) (c : Sx) : rd_T23 (p ++ c :: r) (p.length : Int) = c := by simp [rd_T23]
theorem many_get (m : List Sx) (hl : m.length ≤ 20) (hx : ∀ x ∈ m, goodV x) : ∀ (r pre : List Sx), m = pre ++ r → Ev (fun k => loesslaw4_ValueMany.l1 k (putAllV r) m (pre.length : Int)) true := by
  intro r
  induction r with
  | nil =>
    intro pre e
    refine Ev.step (f := fun _ => some true) (fun k => ?_) (Ev.now _)
    simp only [loesslaw4_ValueMany.l1]
    rw [if_neg (by rw [e]; simp)]
    rfl
  | cons x r ih =>
    intro pre e
    have hxi := hx x (by rw [e]; simp)
    have hlen : m.length = pre.length + r.length + 1 := by rw [e]; simp; omega
    have hr := putAllV_len (l := r) (fun y hy => hx y (by rw [e]; simp [hy]))
    have hpl := putV_len (mayV_i64 hxi.1) hxi.2 (mayV_size hxi.1) (by decide)
    have g := get_ev (l := putV x.f0 x.f1 x.f2 ++ putAllV r) ((putV_byt _ _ _).append (putAllV_byt r)) (by simp only [List.length_append]; omega)
    rw [getV_put hxi.1 hxi.2] at g
    have hrec := ih (pre ++ [x]) (by rw [e]; simp)
    have e1 : rd_T23 m (pre.length : Int) = x := by rw [e]; exact rdS_append pre r x
    have e2 : wrap64 ((pre.length : Int) + 1) = pre.length + 1 := w64 (by omega) (by omega)
    refine Ev.step (fun k => by simp only [loesslaw4_ValueMany.l1]; rfl) ?_
    refine Ev.congr (fun k => if_pos (by omega)) ?_
    rw [e1, e2]
    refine Ev.bind g ?_
    simp only [if_true]
    refine Ev.congr (fun k => if_pos (by omega)) (Ev.bind (evC (eqVal_eq _ _ _ _ _ _)) ?_)
    refine Ev.congr (fun k => if_pos (by simp)) (Ev.congr (fun k => if_pos (by omega)) (Ev.congr (fun k => if_pos (by simp only [putAllV, List.flatMap_cons, List.length_append]; omega)) ?_))
    rw [Int.toNat_natCast, show (putAllV (x :: r)).drop (putV x.f0 x.f1 x.f2).length = putAllV r from List.drop_left]
    simp only [List.length_append, List.length_cons, List.length_nil, Int.natCast_add, Nat.zero_add, Int.natCast_one] at hrec
    exact hrec
theorem many_put (l : List Sx) (hl : l.length ≤ 9223372036854775807) (hi : ∀ x ∈ l, I64 x.f0 ∧ I64 x.f1) : ∀ (n : Nat) (pre r m : List Sx), l = pre ++ r → pre.length + n = 20 → m.length ≤ pre.length → (∀ x ∈ m, goodV x) → Ev (fun k => loesslaw4_ValueMany.l0 k l (putAllV m) m (pre.length : Int)) true := by
  intro n
  induction n with
  | zero =>
    intro pre r m e hn hm hg
    have h := many_get m (by omega) hg m [] rfl
    refine Ev.step (fun k => by simp only [loesslaw4_ValueMany.l0]; rfl) ?_
    by_cases c : (pre.length : Int) < l.length
    · refine Ev.congr (fun k => if_pos c) (Ev.step (fun k => by simp only [loesslaw4_ValueMany.j1]; rfl) (Ev.congr (fun k => if_neg (by simp; omega)) h))
    · refine Ev.congr (fun k => if_neg c) (Ev.step (fun k => by simp only [loesslaw4_ValueMany.j1]; rfl) (Ev.congr (fun k => if_neg (by simp)) h))
  | succ n ih =>
    intro pre r m e hn hm hg
    refine Ev.step (fun k => by simp only [loesslaw4_ValueMany.l0]; rfl) ?_
    cases r with
    | nil =>
      have h := many_get m (by omega) hg m [] rfl
      refine Ev.congr (fun k => if_neg (by rw [e]; simp)) (Ev.step (fun k => by simp only [loesslaw4_ValueMany.j1]; rfl) (Ev.congr (fun k => if_neg (by simp)) h))
    | cons x r =>
      have hlen : l.length = pre.length + r.length + 1 := by rw [e]; simp; omega
      have hxi := hi x (by rw [e]; simp)
      have e1 : rd_T23 l (pre.length : Int) = x := by rw [e]; exact rdS_append pre r x
      have e2 : wrap64 ((pre.length : Int) + 1) = pre.length + 1 := w64 (by omega) (by omega)
      refine Ev.congr (fun k => if_pos (by omega)) (Ev.step (fun k => by simp only [loesslaw4_ValueMany.j1]; rfl) ?_)
      refine Ev.congr (fun k => if_pos (by simp; omega)) (Ev.congr (fun k => if_pos (by omega)) (Ev.congr (fun k => if_pos (by omega)) ?_))
      rw [e1, e2]
      obtain ⟨t, h1, h2, h3⟩ := cutV x.f0 x.f1 x.f2
      refine Ev.bind (evC h1) ?_
      dsimp only
      refine Ev.bind (may_ev x.f0 x.f1 (s := t) (by omega)) ?_
      by_cases hv : mayV x.f0 x.f1 t = true
      · refine Ev.congr (fun k => if_pos hv) (Ev.congr (fun k => if_pos (by omega)) ?_)
        have hal := putAllV_len hg
        refine Ev.bind (value_Put_ev hxi.1 hxi.2 (by omega) (putAllV m) (by omega)) ?_
        have h := ih (pre ++ [x]) r (m ++ [⟨x.f0, x.f1, t⟩]) (by rw [e]; simp) (by simp; omega) (by simp; omega) (fun y hy => by
          rcases List.mem_append.1 hy with hy | hy
          · exact hg y hy
          · obtain rfl := List.mem_singleton.1 hy
            exact ⟨hv, hxi.2⟩)
        have e3 : putAllV (m ++ [(⟨x.f0, x.f1, t⟩ : Sx)]) = putAllV m ++ putV x.f0 x.f1 t := by simp [putAllV]
        rw [e3] at h
        simp only [List.length_append, List.length_cons, List.length_nil, Int.natCast_add, Nat.zero_add, Int.natCast_one] at h
        exact h
      · refine Ev.congr (fun k => if_neg hv) ?_
        have h := ih (pre ++ [x]) r m (by rw [e]; simp) (by simp; omega) (by simp; omega) hg
        simp only [List.length_append, List.length_cons, List.length_nil, Int.natCast_add, Nat.zero_add, Int.natCast_one] at h
        exact h
theorem ValueMany (l : List Sx) (hl : l.length ≤ 9223372036854775807) (h0 : ∀ x ∈ l, (Lit.int .i64 x.f0).wf = true) (h1 : ∀ x ∈ l, (Lit.int .i64 x.f1).wf = true) (h2 : ∀ x ∈ l, x.f2.size ≤ 9223372036854775807) : ∃ k, loesslaw4_ValueMany.f k l = some true := by
  refine Ev.rounds ?_
  unfold loesslaw4_ValueMany.f
  refine val_then ?_
  exact many_put l hl (fun x hx => ⟨wfI64 (h0 x hx), wfI64 (h1 x hx)⟩) 20 [] l [] rfl rfl (Nat.le_refl _) (by simp)
end Go.Proofs.Ytbeoegdkoodlfaa.Pure

/- The law ValueMany, out of its printed contract: the walk with its argument opened. -/
set_option linter.unusedVariables false
namespace Go.Proofs.Ytbeoegdkoodlfaa.H
open Go.RowKit Go.Proofs.YtbeoegdkoodlfaaW.PrintWords Go.Proofs.YtbeoegdkoodlfaaW.PrintMore Go.Proofs.Ytbeoegdkoodlfaa.G Go.Proofs.Ytbeoegdkoodlfaa.XVam
theorem ValueMany.walk (P : True) (A : Option Addr) (len cap : Nat) (l : List S23) (w : World) (w0 : O.IsRows k23 O.ok23 w A len cap l) :
    Calls Try.prog 9 #[.slice A len cap] w fun e w' => e = .returned (.bool true) ∧ Below w.heap.size w w' := by
  obtain ⟨rfl, h1, h2, h3, h4⟩ := w0
  obtain ⟨k, hk⟩ := Pure.ValueMany l (by omega) (fun x hx => (h4 x hx).1) (fun x hx => (h4 x hx).2.1) (fun x hx => (h4 x hx).2.2)
  exact loesslaw4_ValueMany.calls k A cap l true w h3 h1 hk
end Go.Proofs.Ytbeoegdkoodlfaa.H
