/- Plain lemmas of this session's own: numbers that wrap, bits as numbers, bytes and texts, rounds. -/
import Derived.Test.YtbeoegdkoodlfaaWMore
import Derived.Lib.Bytes
set_option linter.unusedVariables false
set_option linter.unusedSimpArgs false
namespace Go.Proofs.Ytbeoegdkoodlfaa.Q
open Go.RowKit Go.Proofs.YtbeoegdkoodlfaaW.PrintWords Go.Proofs.YtbeoegdkoodlfaaW.PrintMore
theorem w64 {x : Int} (h0 : -9223372036854775808 ≤ x) (h1 : x < 9223372036854775808) : wrap64 x = x := by unfold wrap64; omega
theorem u64_mod (n : Int) : IntKind.u64.wrap n = n % 18446744073709551616 := by simp [IntKind.wrap, IntKind.bits, IntKind.signed]
theorem u64 {x : Int} (h0 : 0 ≤ x) (h1 : x < 18446744073709551616) : IntKind.u64.wrap x = x := by rw [u64_mod]; omega
theorem wraps_u64 (n : Int) (h0 : 0 ≤ n) (h1 : n < 2 ^ 64) : IntKind.u64.wrap n = n := u64 h0 (by omega)
theorem wfI64 {n : Int} (h : (Lit.int .i64 n).wf = true) : -9223372036854775808 ≤ n ∧ n < 9223372036854775808 := by
  simp only [Lit.wf, IntKind.min, IntKind.max, IntKind.signed, IntKind.bits, Bool.and_eq_true, decide_eq_true_eq, if_true] at h
  omega
theorem wfU64 {n : Int} (h : (Lit.int .u64 n).wf = true) : 0 ≤ n ∧ n < 18446744073709551616 := by
  simp only [Lit.wf, IntKind.min, IntKind.max, IntKind.signed, IntKind.bits, Bool.and_eq_true, decide_eq_true_eq, Bool.false_eq_true, if_false] at h
  omega
theorem wfU8 {n : Int} (h : (Lit.int .u8 n).wf = true) : 0 ≤ n ∧ n < 256 := by
  simp only [Lit.wf, IntKind.min, IntKind.max, IntKind.signed, IntKind.bits, Bool.and_eq_true, decide_eq_true_eq, Bool.false_eq_true, if_false] at h
  omega
theorem wfI32 {n : Int} (h : (Lit.int .i32 n).wf = true) : -2147483648 ≤ n ∧ n < 2147483648 := by
  simp only [Lit.wf, IntKind.min, IntKind.max, IntKind.signed, IntKind.bits, Bool.and_eq_true, decide_eq_true_eq, if_true] at h
  omega
/-- Each number is a byte. -/
def Byt (l : List Int) : Prop := ∀ x ∈ l, 0 ≤ x ∧ x < 256
theorem Byt.nil : Byt [] := fun _ h => by cases h
theorem Byt.of_wf {l : List Int} (h : ∀ x ∈ l, (Lit.int .u8 x).wf = true) : Byt l := fun x hx => wfU8 (h x hx)
theorem Byt.cons {c : Int} {l : List Int} (h0 : 0 ≤ c) (h1 : c < 256) (h : Byt l) : Byt (c :: l) := by
  intro x hx
  rcases List.mem_cons.1 hx with rfl | hx
  · exact ⟨h0, h1⟩
  · exact h x hx
theorem Byt.head {c : Int} {l : List Int} (h : Byt (c :: l)) : 0 ≤ c ∧ c < 256 := h c List.mem_cons_self
theorem Byt.tail {c : Int} {l : List Int} (h : Byt (c :: l)) : Byt l := fun x hx => h x (List.mem_cons_of_mem _ hx)
theorem Byt.append {l m : List Int} (h : Byt l) (k : Byt m) : Byt (l ++ m) := by
  intro x hx
  rcases List.mem_append.1 hx with hx | hx
  · exact h x hx
  · exact k x hx
theorem Byt.left {l m : List Int} (h : Byt (l ++ m)) : Byt l := fun x hx => h x (List.mem_append_left _ hx)
theorem Byt.right {l m : List Int} (h : Byt (l ++ m)) : Byt m := fun x hx => h x (List.mem_append_right _ hx)
theorem Byt.take {l : List Int} (h : Byt l) (n : Nat) : Byt (l.take n) := fun x hx => h x (List.mem_of_mem_take hx)
theorem Byt.drop {l : List Int} (h : Byt l) (n : Nat) : Byt (l.drop n) := fun x hx => h x (List.mem_of_mem_drop hx)
theorem byt_bytesOf (s : ByteArray) : Byt (bytesOf s) := by
  intro x hx
  simp only [bytesOf, List.mem_map] at hx
  obtain ⟨b, _, rfl⟩ := hx
  have := b.toNat_lt
  omega
theorem toList_eq (s : ByteArray) : s.toList = s.data.toList := Lib.toList_data s
theorem bytesOf_str {l : List Int} (h : Byt l) : bytesOf (strOfNums l) = l := by
  rw [bytesOf, strOfNums_data, List.map_map]
  conv => rhs; rw [← List.map_id l]
  apply List.map_congr_left
  intro x hx
  have := h x hx
  simp only [Function.comp_apply, id_eq, UInt8.toNat_ofNat']
  omega
theorem str_bytesOf (s : ByteArray) : strOfNums (bytesOf s) = s := by
  have h : (strOfNums (bytesOf s)).data = s.data := by
    apply Array.ext'
    rw [strOfNums_data, bytesOf, List.map_map]
    conv => rhs; rw [← List.map_id s.data.toList]
    apply List.map_congr_left
    intro b _
    simp
  cases hs : strOfNums (bytesOf s)
  cases s
  simp_all
theorem bytesOf_inj {a b : ByteArray} (h : bytesOf a = bytesOf b) : a = b := by rw [← str_bytesOf a, h, str_bytesOf]
theorem str_inj {l m : List Int} (hl : Byt l) (hm : Byt m) (h : strOfNums l = strOfNums m) : l = m := by rw [← bytesOf_str hl, h, bytesOf_str hm]
theorem toList_inj {a b : ByteArray} (h : a.toList = b.toList) : a = b := by
  rw [toList_eq, toList_eq] at h
  cases a; cases b
  simp only [ByteArray.mk.injEq]
  exact Array.ext' h
theorem toList_iff {a b : ByteArray} : a.toList = b.toList ↔ a = b := ⟨toList_inj, fun h => by rw [h]⟩
theorem bytesOf_append (a b : ByteArray) : bytesOf (a ++ b) = bytesOf a ++ bytesOf b := by simp [bytesOf]
theorem str_append (l m : List Int) : strOfNums (l ++ m) = strOfNums l ++ strOfNums m := by
  have h : (strOfNums (l ++ m)).data = (strOfNums l ++ strOfNums m).data := by
    apply Array.ext'
    simp [strOfNums_data]
  cases h1 : strOfNums (l ++ m)
  cases h2 : strOfNums l ++ strOfNums m
  simp_all
theorem bytesOf_extract (s : ByteArray) (i j : Nat) : bytesOf (s.extract i j) = ((bytesOf s).take j).drop i := by
  rw [bytesOf, ByteArray.data_extract, Array.toList_extract, bytesOf]
  simp [List.extract, List.map_take, List.map_drop, List.drop_take]
theorem size_of_bytes (s : ByteArray) : s.size = (bytesOf s).length := (bytesOf_length s).symm
/- bits -/
theorem or_comm' (k : IntKind) (x y : Int) : Go.bits .or k x y = Go.bits .or k y x := by
  show k.wrap ((BitVec.ofInt k.bits x ||| BitVec.ofInt k.bits y).toNat : Int) = k.wrap ((BitVec.ofInt k.bits y ||| BitVec.ofInt k.bits x).toNat : Int)
  rw [BitVec.or_comm]
theorem or_join (i : Nat) (hi : i ≤ 64) {x y : Int} (hx0 : 0 ≤ x) (hx : x < 2 ^ i) (hy0 : 0 ≤ y) (hy : y % 2 ^ i = 0) (hy1 : y < 2 ^ 64) : Go.bits .or .u64 x y = x + y := by
  have h64 : (2 : Int) ^ i ≤ 2 ^ 64 := by
    have := Nat.pow_le_pow_right (n := 2) (by decide) hi
    exact_mod_cast this
  rw [or_comm', bits_join .u64 64 (by decide) wraps_u64 i y x hy0 hy hy1 hx0 hx (by omega)]
  omega
theorem and127 {c : Int} (h0 : 0 ≤ c) (h1 : c < 256) : Go.bits .and .u8 c 127 = c % 128 := bits_mask .u8 8 (by decide) wraps_u8 7 (by decide) c h0 (by omega)
theorem or128 {c : Int} (h0 : 0 ≤ c) (h1 : c < 256) : Go.bits .or .u8 c 128 = c % 128 + 128 := by
  have h : c % 128 + 128 * (c / 128) = c := by omega
  obtain ⟨a, rfl⟩ := Int.eq_ofNat_of_zero_le h0
  have ha : a < 256 := by omega
  have e := (bits_nat .u8 8 (by decide) wraps_u8 a 128 (by omega) (by decide)).2
  have e2 : (a ||| 128) = a % 128 + 128 := by
    have := Nat.two_pow_add_eq_or_of_lt (i := 7) (b := a % 128) (Nat.mod_lt _ (by decide)) 1
    have h3 : a ||| 128 = (a % 128) ||| 128 := by
      apply Nat.eq_of_testBit_eq
      intro i
      simp only [Nat.testBit_or]
      rcases Nat.lt_or_ge i 7 with hi | hi
      · have : a % 128 = a % 2 ^ 7 := rfl
        rw [this, Nat.testBit_mod_two_pow]
        simp [hi]
      · have : a % 128 = a % 2 ^ 7 := rfl
        rw [this, Nat.testBit_mod_two_pow]
        rcases Nat.lt_or_ge i 8 with hi2 | hi2
        · have : i = 7 := by omega
          subst this
          simp
          intro _
          decide
        · rw [Nat.testBit_lt_two_pow (x := a) (by have := Nat.pow_le_pow_right (n := 2) (by decide) hi2; omega)]
          simp
    have h4 : 128 + a % 128 = 128 ||| a % 128 := this
    rw [h3, Nat.or_comm, ← h4]
    omega
  rw [show ((128 : Int)) = ((128 : Nat) : Int) from rfl, e, e2]
  omega
theorem not_u64 {x : Int} (h0 : 0 ≤ x) (h1 : x < 18446744073709551616) : Go.bits .xor .u64 18446744073709551615 x = 18446744073709551615 - x := by
  obtain ⟨a, rfl⟩ := Int.eq_ofNat_of_zero_le h0
  show IntKind.u64.wrap ((BitVec.ofInt 64 18446744073709551615 ^^^ BitVec.ofInt 64 (a : Int)).toNat : Int) = _
  have e : BitVec.ofInt 64 18446744073709551615 = BitVec.allOnes 64 := by decide
  rw [e, BitVec.ofInt_natCast, BitVec.allOnes_xor, BitVec.toNat_not, BitVec.toNat_ofNat, u64 (by omega) (by omega)]
  omega
theorem not_i64 {x : Int} (h0 : 0 ≤ x) (h1 : x < 9223372036854775808) : Go.bits .xor .i64 (-1) x = -x - 1 := by
  obtain ⟨a, rfl⟩ := Int.eq_ofNat_of_zero_le h0
  show IntKind.i64.wrap ((BitVec.ofInt 64 (-1) ^^^ BitVec.ofInt 64 (a : Int)).toNat : Int) = _
  have e : BitVec.ofInt 64 (-1) = BitVec.allOnes 64 := by decide
  rw [e, BitVec.ofInt_natCast, BitVec.allOnes_xor, BitVec.toNat_not, BitVec.toNat_ofNat, IntKind.wrap_i64]
  omega
theorem shl_u64 {x y : Int} (hy : 0 ≤ y) (hy1 : y ≤ 64) (h0 : 0 ≤ x) (h : x * 2 ^ y.toNat < 2 ^ 64) : shl .u64 x y = x * 2 ^ y.toNat := by
  unfold shl
  rw [Nat.min_eq_left (by show y.toNat ≤ 64; omega)]
  exact wraps_u64 _ (Int.mul_nonneg h0 (by have := Nat.two_pow_pos y.toNat; exact_mod_cast Nat.le_of_lt this)) h
theorem rd_append (p r : List Int) (c : Int) : rd (p ++ c :: r) (p.length : Int) = c := by simp [rd]
theorem rd_at {l : List Int} {i : Int} (h0 : 0 ≤ i) (h1 : i < l.length) : l.drop i.toNat = rd l i :: l.drop (i.toNat + 1) := by
  rw [List.drop_eq_getElem_cons (by omega)]
  congr 1
  simp [rd, List.getD]
  rw [List.getElem?_eq_getElem (by omega)]
  rfl
/- rounds -/
theorem evEq {α : Type} {g : Nat → Option α} {a b : α} (h : Ev g a) (e : a = b) : Ev g b := e ▸ h
theorem evC {α : Type} {o : Option α} {r : α} (h : o = some r) : Ev (fun _ => o) r := ⟨0, fun _ _ => h⟩
end Go.Proofs.Ytbeoegdkoodlfaa.Q
