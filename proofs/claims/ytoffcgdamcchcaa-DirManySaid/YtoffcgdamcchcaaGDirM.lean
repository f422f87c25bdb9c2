import Derived.Test.YtoffcgdamcchcaaWMore
import Derived.Lib.Bytes
import Derived.Test.YtoffcgdamcchcaaXDirx4
import Derived.Test.YtoffcgdamcchcaaXDirx5
import Derived.Test.YtoffcgdamcchcaaXDirx7
import Derived.Test.YtoffcgdamcchcaaXDirx8
import Derived.Test.YtoffcgdamcchcaaXDirx2
import Derived.Test.YtoffcgdamcchcaaXDirx0
import Derived.Shelf.Abstract
import Derived.Test.YtoffcgdamcchcaaXDirx3
import Derived.Test.YtoffcgdamcchcaaXDirx10
/- Plain lemmas of this session's own: numbers that wrap, bits as numbers, bytes and texts, rounds. -/
set_option linter.unusedVariables false
set_option linter.unusedSimpArgs false
namespace Go.Proofs.Ytoffcgdamcchcaa.Q
open Go.RowKit Go.Proofs.YtoffcgdamcchcaaW.PrintWords Go.Proofs.YtoffcgdamcchcaaW.PrintMore
theorem w64 {x : Int} (h0 : -9223372036854775808 ≤ x) (h1 : x < 9223372036854775808) : wrap64 x = x := by unfold wrap64; omega
theorem u64_mod (n : Int) : IntKind.u64.wrap n = n % 18446744073709551616 := by simp [IntKind.wrap, IntKind.bits, IntKind.signed]
theorem u64 {x : Int} (h0 : 0 ≤ x) (h1 : x < 18446744073709551616) : IntKind.u64.wrap x = x := by rw [u64_mod]; omega
theorem wraps_u64 (n : Int) (h0 : 0 ≤ n) (h1 : n < 2 ^ 64) : IntKind.u64.wrap n = n := u64 h0 (by omega)
theorem wfI64 {n : Int} (h : (Lit.int .i64 n).wf = true) : -9223372036854775808 ≤ n ∧ n < 9223372036854775808 := by
  simp only [Lit.wf, IntKind.min, IntKind.max, IntKind.signed, IntKind.bits, Bool.and_eq_true, decide_eq_true_eq, if_true] at h
  omega
theorem wfU64 {n : Int} (h : (Lit.int .u64 n).wf = true) : 0 ≤ n ∧ n < 18446744073709551616 := by
  simp only [Lit.wf, IntKind.min, IntKind.max, IntKind.signed, IntKind.bits, Bool.and_eq_true, decide_eq_true_eq, Bool.false_eq_true, if_false] at h
  omega
theorem wfU8 {n : Int} (h : (Lit.int .u8 n).wf = true) : 0 ≤ n ∧ n < 256 := by
  simp only [Lit.wf, IntKind.min, IntKind.max, IntKind.signed, IntKind.bits, Bool.and_eq_true, decide_eq_true_eq, Bool.false_eq_true, if_false] at h
  omega
theorem wfI32 {n : Int} (h : (Lit.int .i32 n).wf = true) : -2147483648 ≤ n ∧ n < 2147483648 := by
  simp only [Lit.wf, IntKind.min, IntKind.max, IntKind.signed, IntKind.bits, Bool.and_eq_true, decide_eq_true_eq, if_true] at h
  omega
/-- Each number is a byte. -/
def Byt (l : List Int) : Prop := ∀ x ∈ l, 0 ≤ x ∧ x < 256
theorem Byt.nil : Byt [] := fun _ h => by cases h
theorem Byt.of_wf {l : List Int} (h : ∀ x ∈ l, (Lit.int .u8 x).wf = true) : Byt l := fun x hx => wfU8 (h x hx)
theorem Byt.cons {c : Int} {l : List Int} (h0 : 0 ≤ c) (h1 : c < 256) (h : Byt l) : Byt (c :: l) := by
  intro x hx
  rcases List.mem_cons.1 hx with rfl | hx
  · exact ⟨h0, h1⟩
  · exact h x hx
theorem Byt.head {c : Int} {l : List Int} (h : Byt (c :: l)) : 0 ≤ c ∧ c < 256 := h c List.mem_cons_self
theorem Byt.tail {c : Int} {l : List Int} (h : Byt (c :: l)) : Byt l := fun x hx => h x (List.mem_cons_of_mem _ hx)
theorem Byt.append {l m : List Int} (h : Byt l) (k : Byt m) : Byt (l ++ m) := by
  intro x hx
  rcases List.mem_append.1 hx with hx | hx
  · exact h x hx
  · exact k x hx
theorem Byt.left {l m : List Int} (h : Byt (l ++ m)) : Byt l := fun x hx => h x (List.mem_append_left _ hx)
theorem Byt.right {l m : List Int} (h : Byt (l ++ m)) : Byt m := fun x hx => h x (List.mem_append_right _ hx)
theorem Byt.take {l : List Int} (h : Byt l) (n : Nat) : Byt (l.take n) := fun x hx => h x (List.mem_of_mem_take hx)
theorem Byt.drop {l : List Int} (h : Byt l) (n : Nat) : Byt (l.drop n) := fun x hx => h x (List.mem_of_mem_drop hx)
theorem byt_bytesOf (s : ByteArray) : Byt (bytesOf s) := by
  intro x hx
  simp only [bytesOf, List.mem_map] at hx
  obtain ⟨b, _, rfl⟩ := hx
  have := b.toNat_lt
  omega
theorem toList_eq (s : ByteArray) : s.toList = s.data.toList := Lib.toList_data s
theorem bytesOf_str {l : List Int} (h : Byt l) : bytesOf (strOfNums l) = l := by
  rw [bytesOf, strOfNums_data, List.map_map]
  conv => rhs; rw [← List.map_id l]
  apply List.map_congr_left
  intro x hx
  have := h x hx
  simp only [Function.comp_apply, id_eq, UInt8.toNat_ofNat']
  omega
theorem str_bytesOf (s : ByteArray) : strOfNums (bytesOf s) = s := by
  have h : (strOfNums (bytesOf s)).data = s.data := by
    apply Array.ext'
    rw [strOfNums_data, bytesOf, List.map_map]
    conv => rhs; rw [← List.map_id s.data.toList]
    apply List.map_congr_left
    intro b _
    simp
  cases hs : strOfNums (bytesOf s)
  cases s
  simp_all
theorem bytesOf_inj {a b : ByteArray} (h : bytesOf a = bytesOf b) : a = b := by rw [← str_bytesOf a, h, str_bytesOf]
theorem str_inj {l m : List Int} (hl : Byt l) (hm : Byt m) (h : strOfNums l = strOfNums m) : l = m := by rw [← bytesOf_str hl, h, bytesOf_str hm]
theorem toList_inj {a b : ByteArray} (h : a.toList = b.toList) : a = b := by
  rw [toList_eq, toList_eq] at h
  cases a; cases b
  simp only [ByteArray.mk.injEq]
  exact Array.ext' h
theorem toList_iff {a b : ByteArray} : a.toList = b.toList ↔ a = b := ⟨toList_inj, fun h => by rw [h]⟩
theorem bytesOf_append (a b : ByteArray) : bytesOf (a ++ b) = bytesOf a ++ bytesOf b := by simp [bytesOf]
theorem str_append (l m : List Int) : strOfNums (l ++ m) = strOfNums l ++ strOfNums m := by
  have h : (strOfNums (l ++ m)).data = (strOfNums l ++ strOfNums m).data := by
    apply Array.ext'
    simp [strOfNums_data]
  cases h1 : strOfNums (l ++ m)
  cases h2 : strOfNums l ++ strOfNums m
  simp_all
theorem bytesOf_extract (s : ByteArray) (i j : Nat) : bytesOf (s.extract i j) = ((bytesOf s).take j).drop i := by
  rw [bytesOf, ByteArray.data_extract, Array.toList_extract, bytesOf]
  simp [List.extract, List.map_take, List.map_drop, List.drop_take]
theorem size_of_bytes (s : ByteArray) : s.size = (bytesOf s).length := (bytesOf_length s).symm
/- bits -/
theorem or_comm' (k : IntKind) (x y : Int) : Go.bits .or k x y = Go.bits .or k y x := by
  show k.wrap ((BitVec.ofInt k.bits x ||| BitVec.ofInt k.bits y).toNat : Int) = k.wrap ((BitVec.ofInt k.bits y ||| BitVec.ofInt k.bits x).toNat : Int)
  rw [BitVec.or_comm]
theorem or_join (i : Nat) (hi : i ≤ 64) {x y : Int} (hx0 : 0 ≤ x) (hx : x < 2 ^ i) (hy0 : 0 ≤ y) (hy : y % 2 ^ i = 0) (hy1 : y < 2 ^ 64) : Go.bits .or .u64 x y = x + y := by
  have h64 : (2 : Int) ^ i ≤ 2 ^ 64 := by
    have := Nat.pow_le_pow_right (n := 2) (by decide) hi
    exact_mod_cast this
  rw [or_comm', bits_join .u64 64 (by decide) wraps_u64 i y x hy0 hy hy1 hx0 hx (by omega)]
  omega
theorem and127 {c : Int} (h0 : 0 ≤ c) (h1 : c < 256) : Go.bits .and .u8 c 127 = c % 128 := bits_mask .u8 8 (by decide) wraps_u8 7 (by decide) c h0 (by omega)
theorem or128 {c : Int} (h0 : 0 ≤ c) (h1 : c < 256) : Go.bits .or .u8 c 128 = c % 128 + 128 := by
  have h : c % 128 + 128 * (c / 128) = c := by omega
  obtain ⟨a, rfl⟩ := Int.eq_ofNat_of_zero_le h0
  have ha : a < 256 := by omega
  have e := (bits_nat .u8 8 (by decide) wraps_u8 a 128 (by omega) (by decide)).2
  have e2 : (a ||| 128) = a % 128 + 128 := by
    have := Nat.two_pow_add_eq_or_of_lt (i := 7) (b := a % 128) (Nat.mod_lt _ (by decide)) 1
    have h3 : a ||| 128 = (a % 128) ||| 128 := by
      apply Nat.eq_of_testBit_eq
      intro i
      simp only [Nat.testBit_or]
      rcases Nat.lt_or_ge i 7 with hi | hi
      · have : a % 128 = a % 2 ^ 7 := rfl
        rw [this, Nat.testBit_mod_two_pow]
        simp [hi]
      · have : a % 128 = a % 2 ^ 7 := rfl
        rw [this, Nat.testBit_mod_two_pow]
        rcases Nat.lt_or_ge i 8 with hi2 | hi2
        · have : i = 7 := by omega
          subst this
          simp
          intro _
          decide
        · rw [Nat.testBit_lt_two_pow (x := a) (by have := Nat.pow_le_pow_right (n := 2) (by decide) hi2; omega)]
          simp
    have h4 : 128 + a % 128 = 128 ||| a % 128 := this
    rw [h3, Nat.or_comm, ← h4]
    omega
  rw [show ((128 : Int)) = ((128 : Nat) : Int) from rfl, e, e2]
  omega
theorem not_u64 {x : Int} (h0 : 0 ≤ x) (h1 : x < 18446744073709551616) : Go.bits .xor .u64 18446744073709551615 x = 18446744073709551615 - x := by
  obtain ⟨a, rfl⟩ := Int.eq_ofNat_of_zero_le h0
  show IntKind.u64.wrap ((BitVec.ofInt 64 18446744073709551615 ^^^ BitVec.ofInt 64 (a : Int)).toNat : Int) = _
  have e : BitVec.ofInt 64 18446744073709551615 = BitVec.allOnes 64 := by decide
  rw [e, BitVec.ofInt_natCast, BitVec.allOnes_xor, BitVec.toNat_not, BitVec.toNat_ofNat, u64 (by omega) (by omega)]
  omega
theorem not_i64 {x : Int} (h0 : 0 ≤ x) (h1 : x < 9223372036854775808) : Go.bits .xor .i64 (-1) x = -x - 1 := by
  obtain ⟨a, rfl⟩ := Int.eq_ofNat_of_zero_le h0
  show IntKind.i64.wrap ((BitVec.ofInt 64 (-1) ^^^ BitVec.ofInt 64 (a : Int)).toNat : Int) = _
  have e : BitVec.ofInt 64 (-1) = BitVec.allOnes 64 := by decide
  rw [e, BitVec.ofInt_natCast, BitVec.allOnes_xor, BitVec.toNat_not, BitVec.toNat_ofNat, IntKind.wrap_i64]
  omega
theorem shl_u64 {x y : Int} (hy : 0 ≤ y) (hy1 : y ≤ 64) (h0 : 0 ≤ x) (h : x * 2 ^ y.toNat < 2 ^ 64) : shl .u64 x y = x * 2 ^ y.toNat := by
  unfold shl
  rw [Nat.min_eq_left (by show y.toNat ≤ 64; omega)]
  exact wraps_u64 _ (Int.mul_nonneg h0 (by have := Nat.two_pow_pos y.toNat; exact_mod_cast Nat.le_of_lt this)) h
theorem rd_append (p r : List Int) (c : Int) : rd (p ++ c :: r) (p.length : Int) = c := by simp [rd]
theorem rd_at {l : List Int} {i : Int} (h0 : 0 ≤ i) (h1 : i < l.length) : l.drop i.toNat = rd l i :: l.drop (i.toNat + 1) := by
  rw [List.drop_eq_getElem_cons (by omega)]
  congr 1
  simp [rd, List.getD]
  rw [List.getElem?_eq_getElem (by omega)]
  rfl
/- rounds -/
theorem evEq {α : Type} {g : Nat → Option α} {a b : α} (h : Ev g a) (e : a = b) : Ev g b := e ▸ h
theorem evC {α : Type} {o : Option α} {r : α} (h : o = some r) : Ev (fun _ => o) r := ⟨0, fun _ _ => h⟩
end Go.Proofs.Ytoffcgdamcchcaa.Q

/- Numbers as bytes, in plain Lean: what is written of a number, what is read of bytes, and that the one undoes the other. -/
set_option linter.unusedVariables false
set_option linter.unusedSimpArgs false
namespace Go.Proofs.Ytoffcgdamcchcaa.Q
open Go.RowKit Go.Proofs.YtoffcgdamcchcaaW.PrintWords Go.Proofs.YtoffcgdamcchcaaW.PrintMore
def putU (u : Nat) : List Int := if u < 128 then [(u : Int)] else ((u % 128 + 128 : Nat) : Int) :: putU (u / 128)
termination_by u
decreasing_by omega
theorem putU_lt {u : Nat} (h : u < 128) : putU u = [(u : Int)] := by rw [putU, if_pos h]
theorem putU_ge {u : Nat} (h : ¬ u < 128) : putU u = ((u % 128 + 128 : Nat) : Int) :: putU (u / 128) := by rw [putU, if_neg h]
def zig (n : Int) : Nat := if n < 0 then (-2 * n - 1).toNat else (2 * n).toNat
def unzig (x : Int) : Int := if x % 2 = 1 then -(x / 2) - 1 else x / 2
theorem unzig_zig (n : Int) : unzig (zig n) = n := by unfold unzig zig; split <;> split <;> omega
def I64 (n : Int) : Prop := -9223372036854775808 ≤ n ∧ n < 9223372036854775808
theorem zig_lt {n : Int} (h : I64 n) : zig n < 18446744073709551616 := by unfold zig; unfold I64 at h; split <;> omega
def putN (n : Int) : List Int := putU (zig n)
def putT (s : ByteArray) : List Int := putN s.size ++ bytesOf s
theorem putU_byt (u : Nat) : Byt (putU u) := by
  induction u using Nat.strongRecOn with
  | _ u ih =>
    by_cases h : u < 128
    · rw [putU_lt h]; exact Byt.cons (by omega) (by omega) Byt.nil
    · rw [putU_ge h]; exact Byt.cons (by omega) (by omega) (ih _ (by omega))
theorem putN_byt (n : Int) : Byt (putN n) := putU_byt _
theorem putT_byt (s : ByteArray) : Byt (putT s) := (putN_byt _).append (byt_bytesOf s)
theorem putU_pos (u : Nat) : 0 < (putU u).length := by rw [putU]; split <;> simp
theorem putN_pos (n : Int) : 0 < (putN n).length := putU_pos _
/-- u below 128^d takes d bytes at most. -/
theorem putU_len (d : Nat) : ∀ u : Nat, u < 128 ^ (d + 1) → (putU u).length ≤ d + 1 := by
  induction d with
  | zero => intro u h; rw [putU_lt (by simpa using h)]; simp
  | succ d ih =>
    intro u h
    by_cases h1 : u < 128
    · rw [putU_lt h1]; simp
    · rw [putU_ge h1]
      have : u / 128 < 128 ^ (d + 1) := by
        rw [Nat.div_lt_iff_lt_mul (by decide)]
        rw [Nat.pow_succ] at h
        exact h
      have := ih _ this
      simp only [List.length_cons]
      omega
theorem putN_len {n : Int} (h : I64 n) : (putN n).length ≤ 10 := putU_len 9 _ (Nat.lt_of_lt_of_le (zig_lt h) (by decide))
theorem putN_small {n : Int} (h0 : 0 ≤ n) (h1 : n < 64) : putN n = [2 * n] := by
  unfold putN zig
  rw [if_neg (by omega), putU_lt (by omega)]
  simp only [List.cons.injEq, and_true]
  omega
/-- What is read of bytes: the number, how many bytes, the error's number (0: none). -/
def ug : List Int → Nat → Int → Int × Int × Int
  | [], _, _ => (0, 0, 2)
  | c :: r, i, u =>
    if i = 9 ∧ c > 1 then (0, 0, 1)
    else if c > 127 then ug r (i + 1) (u + (c - 128) * 128 ^ i)
    else if i > 0 ∧ c = 0 then (0, 0, 1)
    else (unzig (u + c * 128 ^ i), i + 1, 0)
def getN (l : List Int) : Int × Int × Int := ug l 0 0
def getT (l : List Int) : ByteArray × Int × Int :=
  if (getN l).2.2 ≠ 0 then (⟨#[]⟩, 0, (getN l).2.2)
  else if (getN l).1 < 0 ∨ (getN l).1 > 65536 then (⟨#[]⟩, 0, 1)
  else if (getN l).1 > (l.length : Int) - (getN l).2.1 then (⟨#[]⟩, 0, 2)
  else (strOfNums ((l.take ((getN l).2.1 + (getN l).1).toNat).drop (getN l).2.1.toNat), (getN l).2.1 + (getN l).1, 0)
theorem p128 (i : Nat) : (0 : Int) < 128 ^ i := by
  have := Nat.pow_pos (n := i) (show 0 < 128 by decide)
  exact_mod_cast this
theorem pow128_mono {i j : Nat} (h : i ≤ j) : (128 : Int) ^ i ≤ 128 ^ j := by
  have := Nat.pow_le_pow_right (n := 128) (by decide) h
  exact_mod_cast this
theorem ug_put (u : Nat) : ∀ (rest : List Int) (i : Nat) (acc : Int), (u : Int) * 128 ^ i + acc < 18446744073709551616 → (i > 0 → 0 < u) → 0 ≤ acc →
    ug (putU u ++ rest) i acc = (unzig (acc + u * 128 ^ i), (i : Int) + ((putU u).length : Int), 0) := by
  induction u using Nat.strongRecOn with
  | _ u ih =>
    intro rest i acc hb hp ha
    have h9 : ∀ v : Nat, i = 9 → v ≤ u → (v : Int) ≤ 1 := by
      intro v hi hv
      subst hi
      have : ((u : Int)) * 128 ^ 9 < 18446744073709551616 := by omega
      omega
    by_cases h : u < 128
    · rw [putU_lt h]
      simp only [List.cons_append, List.nil_append, ug, List.length_cons, List.length_nil]
      rw [if_neg (fun hh => by have := h9 u hh.1 (Nat.le_refl _); omega), if_neg (by omega), if_neg (fun hh => by have := hp hh.1; omega)]
      simp
    · rw [putU_ge h]
      have hi9 : i ≠ 9 := fun hi => by have := h9 u hi (Nat.le_refl _); omega
      simp only [List.cons_append, ug, List.length_cons]
      rw [if_neg (fun hh => hi9 hh.1), if_pos (by omega)]
      have hm : ((u % 128 + 128 : Nat) : Int) - 128 = (u : Int) % 128 := by omega
      have he : acc + (u : Int) % 128 * 128 ^ i + ((u / 128 : Nat) : Int) * 128 ^ (i + 1) = acc + u * 128 ^ i := by
        have h2 : (u : Int) = u % 128 + ((u / 128 : Nat) : Int) * 128 := by omega
        have h3 : (u : Int) * 128 ^ i = (u : Int) % 128 * 128 ^ i + ((u / 128 : Nat) : Int) * (128 * 128 ^ i) := by
          conv => lhs; rw [h2]
          rw [Int.add_mul, Int.mul_assoc]
        rw [Int.pow_succ, h3, Int.mul_comm (128 ^ i) 128]
        omega
      rw [hm, ih (u / 128) (by omega) rest (i + 1) _ (by rw [Int.add_comm, he]; omega) (fun _ => by omega) (Int.add_nonneg ha (Int.mul_nonneg (by omega) (Int.le_of_lt (p128 i))))]
      rw [he]
      simp only [Prod.mk.injEq, true_and, and_true]
      omega
theorem getN_put {n : Int} (h : I64 n) (rest : List Int) : getN (putN n ++ rest) = (n, ((putN n).length : Int), 0) := by
  have := zig_lt h
  unfold getN putN
  rw [ug_put (zig n) rest 0 0 (by simp; omega) (fun h => absurd h (by decide)) (by decide)]
  simp [unzig_zig]
theorem ug_cut (u : Nat) : ∀ (m i : Nat) (acc : Int), (u : Int) * 128 ^ i + acc < 18446744073709551616 → 0 ≤ acc → m < (putU u).length → ug ((putU u).take m) i acc = (0, 0, 2) := by
  induction u using Nat.strongRecOn with
  | _ u ih =>
    intro m i acc hb ha hm
    cases m with
    | zero => simp [ug]
    | succ m =>
      by_cases h : u < 128
      · rw [putU_lt h] at hm; simp at hm
      · rw [putU_ge h] at hm ⊢
        have hi9 : i ≠ 9 := fun hi => by
          subst hi
          have : ((u : Int)) * 128 ^ 9 < 18446744073709551616 := by omega
          omega
        simp only [List.take_succ_cons, ug]
        rw [if_neg (fun hh => hi9 hh.1), if_pos (by omega)]
        have hm' : ((u % 128 + 128 : Nat) : Int) - 128 = (u : Int) % 128 := by omega
        have he : acc + (u : Int) % 128 * 128 ^ i + ((u / 128 : Nat) : Int) * 128 ^ (i + 1) = acc + u * 128 ^ i := by
          have h2 : (u : Int) = u % 128 + ((u / 128 : Nat) : Int) * 128 := by omega
          have h3 : (u : Int) * 128 ^ i = (u : Int) % 128 * 128 ^ i + ((u / 128 : Nat) : Int) * (128 * 128 ^ i) := by
            conv => lhs; rw [h2]
            rw [Int.add_mul, Int.mul_assoc]
          rw [Int.pow_succ, h3, Int.mul_comm (128 ^ i) 128]
          omega
        rw [hm']
        refine ih (u / 128) (by omega) m (i + 1) _ (by rw [Int.add_comm, he]; omega) (Int.add_nonneg ha (Int.mul_nonneg (by omega) (Int.le_of_lt (p128 i)))) ?_
        simp only [List.length_cons] at hm
        omega
theorem getN_cut {n : Int} (h : I64 n) {m : Nat} (hm : m < (putN n).length) : getN ((putN n).take m) = (0, 0, 2) := by
  have := zig_lt h
  exact ug_cut (zig n) m 0 0 (by simp; omega) (by decide) hm
/-- What is read lies in what was there. -/
theorem ug_bound : ∀ (l : List Int) (i : Nat) (u : Int), 0 ≤ (ug l i u).2.1 ∧ (ug l i u).2.1 ≤ i + l.length ∧ ((ug l i u).2.2 = 0 → (i : Int) < (ug l i u).2.1) ∧ ((ug l i u).2.2 = 0 ∨ (ug l i u).2.2 = 1 ∨ (ug l i u).2.2 = 2) ∧ ((ug l i u).2.2 ≠ 0 → (ug l i u).1 = 0 ∧ (ug l i u).2.1 = 0) := by
  intro l
  induction l with
  | nil => intro i u; simp [ug]
  | cons c r ih =>
    intro i u
    unfold ug
    split
    · simp; omega
    · split
      · have := ih (i + 1) (u + (c - 128) * 128 ^ i)
        simp only [List.length_cons]
        omega
      · split
        · simp; omega
        · simp; omega
theorem getN_bound (l : List Int) : 0 ≤ (getN l).2.1 ∧ (getN l).2.1 ≤ l.length ∧ ((getN l).2.2 = 0 → 0 < (getN l).2.1) ∧ ((getN l).2.2 = 0 ∨ (getN l).2.2 = 1 ∨ (getN l).2.2 = 2) ∧ ((getN l).2.2 ≠ 0 → (getN l).1 = 0 ∧ (getN l).2.1 = 0) := by
  have := ug_bound l 0 0
  simpa [getN] using this
theorem ug_i64 : ∀ (l : List Int) (i : Nat) (u : Int), Byt l → i ≤ 9 → 0 ≤ u → u < 128 ^ i → I64 (ug l i u).1 := by
  intro l
  induction l with
  | nil => intro i u _ _ _ _; simp [ug, I64]
  | cons c r ih =>
    intro i u hb hi h0 h1
    have hc := hb.head
    unfold ug
    split
    · simp [I64]
    · rename_i h9
      split
      · rename_i hc1
        have hi9 : i ≠ 9 := fun h => h9 ⟨h, by omega⟩
        refine ih (i + 1) _ hb.tail (by omega) (Int.add_nonneg h0 (Int.mul_nonneg (by omega) (Int.le_of_lt (p128 i)))) ?_
        have : (c - 128) * 128 ^ i ≤ 127 * 128 ^ i := Int.mul_le_mul_of_nonneg_right (by omega) (Int.le_of_lt (p128 i))
        rw [Int.pow_succ]
        omega
      · split
        · simp [I64]
        · have : 0 ≤ u + c * 128 ^ i ∧ u + c * 128 ^ i < 18446744073709551616 := by
            refine ⟨Int.add_nonneg h0 (Int.mul_nonneg hc.1 (Int.le_of_lt (p128 i))), ?_⟩
            by_cases hi9 : i = 9
            · subst hi9
              omega
            · have h8 := pow128_mono (i := i) (j := 8) (by omega)
              have h2 : c * 128 ^ i ≤ 127 * 128 ^ i := Int.mul_le_mul_of_nonneg_right (by omega) (Int.le_of_lt (p128 i))
              have e8 : (128 : Int) ^ 8 = 72057594037927936 := rfl
              omega
          simp only
          unfold unzig I64
          split <;> omega
theorem getN_i64 {l : List Int} (h : Byt l) : I64 (getN l).1 := ug_i64 l 0 0 h (by decide) (by decide) (by simp)
/-- Bytes behind what is told say nothing of it. -/
theorem ug_append : ∀ (l rest : List Int) (i : Nat) (u : Int), (ug l i u).2.2 ≠ 2 → ug (l ++ rest) i u = ug l i u := by
  intro l
  induction l with
  | nil => intro rest i u h; simp [ug] at h
  | cons c r ih =>
    intro rest i u h
    simp only [List.cons_append]
    unfold ug at h ⊢
    split
    · rfl
    · rename_i h1
      rw [if_neg h1] at h
      split
      · rename_i h2
        rw [if_pos h2] at h
        exact ih rest _ _ h
      · rfl
/-- What is read as a number is just what is written of it. -/
theorem ug_canon : ∀ (l : List Int) (i : Nat) (u : Int), Byt l → i ≤ 9 → (ug l i u).2.2 = 0 → ∃ v : Nat, (ug l i u).1 = unzig (u + v * 128 ^ i) ∧ (ug l i u).2.1 = i + (putU v).length ∧ l.take (putU v).length = putU v ∧ (i > 0 → 0 < v) ∧ (v : Int) * 128 ^ i < 18446744073709551616 := by
  intro l
  induction l with
  | nil => intro i u _ _ h; simp [ug] at h
  | cons c r ih =>
    intro i u hb hi h
    have hc := hb.head
    unfold ug at h ⊢
    by_cases h1 : i = 9 ∧ c > 1
    · rw [if_pos h1] at h; simp at h
    · rw [if_neg h1] at h ⊢
      by_cases h2 : c > 127
      · rw [if_pos h2] at h ⊢
        have hi9 : i ≠ 9 := fun h => h1 ⟨h, by omega⟩
        obtain ⟨v, e1, e2, e3, e4, e5⟩ := ih (i + 1) _ hb.tail (by omega) h
        have hv := e4 (by omega)
        have e : ((v * 128 + (c - 128).toNat : Nat) : Int) = v * 128 + (c - 128) := by omega
        have hw : ¬ v * 128 + (c - 128).toNat < 128 := by omega
        have hd : (v * 128 + (c - 128).toNat) / 128 = v := by omega
        have hm : (((v * 128 + (c - 128).toNat) % 128 + 128 : Nat) : Int) = c := by omega
        have hp : u + ((v * 128 + (c - 128).toNat : Nat) : Int) * 128 ^ i = u + (c - 128) * 128 ^ i + v * 128 ^ (i + 1) := by
          rw [e, Int.pow_succ, Int.add_mul, Int.mul_assoc, Int.mul_comm 128 (128 ^ i)]
          omega
        refine ⟨v * 128 + (c - 128).toNat, ?_, ?_, ?_, fun _ => by omega, ?_⟩
        · rw [e1, hp]
        · rw [e2, putU_ge hw, hd]; simp only [List.length_cons]; omega
        · rw [putU_ge hw, hd, hm]; simp only [List.length_cons, List.take_succ_cons]; rw [e3]
        · rw [e, Int.add_mul]
          by_cases hi8 : i + 1 = 9
          · obtain rfl : i = 8 := by omega
            have e9 : (128 : Int) ^ (8 + 1) = 9223372036854775808 := rfl
            have e8 : (128 : Int) ^ 8 = 72057594037927936 := rfl
            rw [e9] at e5
            rw [e8]
            have : (v : Int) ≤ 1 := by omega
            omega
          · have h7 := pow128_mono (i := i) (j := 7) (by omega)
            have h0 := p128 i
            rw [Int.pow_succ] at e5
            have : (c - 128) * 128 ^ i ≤ 127 * 128 ^ i := Int.mul_le_mul_of_nonneg_right (by omega) (Int.le_of_lt (p128 i))
            have h3 : (v : Int) * 128 * 128 ^ i = v * (128 ^ i * 128) := by rw [Int.mul_assoc, Int.mul_comm 128 (128 ^ i)]
            have e7 : (128 : Int) ^ 7 = 562949953421312 := rfl
            rw [h3]
            -- v * 128^(i+1) is a multiple of 128^(i+1), below 2^64
            have hmul : (v : Int) * (128 ^ i * 128) ≤ 18446744073709551616 - 128 ^ i * 128 := by
              have hdvd : (128 : Int) ^ i * 128 ∣ 18446744073709551616 := by
                have hk : (18446744073709551616 : Int) = 128 ^ (i + 1) * (128 ^ (8 - i) * 2) := by
                  rw [← Int.mul_assoc, ← Int.pow_add, show i + 1 + (8 - i) = 9 by omega]
                  rfl
                rw [← Int.pow_succ]
                exact ⟨_, hk⟩
              obtain ⟨q, hq⟩ := hdvd
              rw [hq] at e5 ⊢
              have hq2 : (v : Int) < q := by
                rcases Int.lt_or_le (v : Int) q with h | h
                · exact h
                · have := Int.mul_le_mul_of_nonneg_left h (show (0 : Int) ≤ 128 ^ i * 128 by omega)
                  rw [Int.mul_comm (v : Int)] at e5
                  omega
              have := Int.mul_le_mul_of_nonneg_left (show (v : Int) ≤ q - 1 by omega) (show (0 : Int) ≤ 128 ^ i * 128 by omega)
              rw [Int.mul_comm (v : Int), Int.mul_sub] at *
              omega
            omega
      · rw [if_neg h2] at h ⊢
        by_cases h3 : i > 0 ∧ c = 0
        · rw [if_pos h3] at h; simp at h
        · rw [if_neg h3]
          have hl : c.toNat < 128 := by omega
          refine ⟨c.toNat, ?_, ?_, ?_, fun hh => ?_, ?_⟩
          · simp only [show ((c.toNat : Nat) : Int) = c by omega]
          · rw [putU_lt hl]; simp
          · rw [putU_lt hl]; simp; omega
          · rcases Nat.eq_zero_or_pos c.toNat with h | h
            · exact absurd ⟨hh, by omega⟩ h3
            · exact h
          · rw [show ((c.toNat : Nat) : Int) = c by omega]
            by_cases hi9 : i = 9
            · subst hi9
              omega
            · have h8 := pow128_mono (i := i) (j := 8) (by omega)
              have h2 : c * 128 ^ i ≤ 127 * 128 ^ i := Int.mul_le_mul_of_nonneg_right (by omega) (Int.le_of_lt (p128 i))
              have e8 : (128 : Int) ^ 8 = 72057594037927936 := rfl
              omega
theorem zig_unzig (v : Nat) : zig (unzig v) = v := by unfold zig unzig; split <;> split <;> omega
theorem getN_canon {l : List Int} (hb : Byt l) (h : (getN l).2.2 = 0) : l.take (getN l).2.1.toNat = putN (getN l).1 ∧ (getN l).2.1 = (putN (getN l).1).length := by
  obtain ⟨v, e1, e2, e3, _, _⟩ := ug_canon l 0 0 hb (by decide) h
  have e4 : putN (getN l).1 = putU v := by
    unfold putN getN
    rw [e1]
    simp only [Int.pow_zero, Int.mul_one, Int.zero_add, zig_unzig]
  rw [e4]
  unfold getN
  rw [e2]
  simp only [Int.natCast_zero, Int.zero_add, Int.toNat_natCast, and_true]
  exact e3
theorem putU_inj {a b : Nat} (ha : a < 18446744073709551616) (hb : b < 18446744073709551616) {r q : List Int} (h : putU a ++ r = putU b ++ q) : a = b ∧ r = q := by
  have h1 := ug_put a r 0 0 (by simp; omega) (fun h => absurd h (by decide)) (by decide)
  have h2 := ug_put b q 0 0 (by simp; omega) (fun h => absurd h (by decide)) (by decide)
  rw [h, h2] at h1
  simp only [Int.pow_zero, Int.mul_one, Int.zero_add, Prod.mk.injEq] at h1
  have e : a = b := by
    have := congrArg zig h1.1
    rw [zig_unzig, zig_unzig] at this
    exact this.symm
  subst e
  exact ⟨rfl, List.append_cancel_left h⟩
theorem putN_inj {a b : Int} (ha : I64 a) (hb : I64 b) {r q : List Int} (h : putN a ++ r = putN b ++ q) : a = b ∧ r = q := by
  have := putU_inj (zig_lt ha) (zig_lt hb) h
  refine ⟨?_, this.2⟩
  rw [← unzig_zig a, ← unzig_zig b, this.1]
theorem putT_inj {a b : ByteArray} (ha : a.size ≤ 9223372036854775807) (hb : b.size ≤ 9223372036854775807) {r q : List Int} (h : putT a ++ r = putT b ++ q) : a = b ∧ r = q := by
  unfold putT at h
  rw [List.append_assoc, List.append_assoc] at h
  obtain ⟨h1, h2⟩ := putN_inj (by unfold I64; omega) (by unfold I64; omega) h
  have hl : (bytesOf a).length = (bytesOf b).length := by rw [bytesOf_length, bytesOf_length]; omega
  have := List.append_inj h2 hl
  exact ⟨bytesOf_inj this.1, this.2⟩
theorem getT_put {s : ByteArray} (h : s.size ≤ 65536) (rest : List Int) : getT (putT s ++ rest) = (s, ((putT s).length : Int), 0) := by
  have hi : I64 (s.size : Int) := by unfold I64; omega
  have hg : getN (putT s ++ rest) = ((s.size : Int), ((putN s.size).length : Int), 0) := by unfold putT; rw [List.append_assoc]; exact getN_put hi _
  have hl := bytesOf_length s
  unfold getT
  rw [hg]
  simp only [ne_eq, not_true_eq_false, if_false]
  rw [if_neg (by omega), if_neg (by unfold putT; simp only [List.length_append]; omega)]
  have e1 : (((putN s.size).length : Int) + (s.size : Int)).toNat = (putT s).length := by unfold putT; simp only [List.length_append]; omega
  rw [e1, List.take_left']
  · have e2 : (putT s).drop (putN (s.size : Int)).length = bytesOf s := by unfold putT; exact List.drop_left
    rw [Int.toNat_natCast, e2, str_bytesOf]
    unfold putT
    simp only [List.length_append]
    congr 2
    omega
  · rfl
theorem getT_cut {s : ByteArray} (h : s.size ≤ 65536) {m : Nat} (hm : m < (putT s).length) : getT ((putT s).take m) = (⟨#[]⟩, 0, 2) := by
  have hi : I64 (s.size : Int) := by unfold I64; omega
  have hl := bytesOf_length s
  rcases Nat.lt_or_ge m (putN (s.size : Int)).length with h1 | h1
  · have e : (putT s).take m = (putN (s.size : Int)).take m := by unfold putT; rw [List.take_append_of_le_length (by omega)]
    unfold getT
    rw [e, getN_cut hi h1]
    simp
  · have e : (putT s).take m = putN (s.size : Int) ++ (bytesOf s).take (m - (putN (s.size : Int)).length) := by
      unfold putT; rw [List.take_append]; congr 1; exact List.take_of_length_le h1
    have hlen : (putT s).length = (putN (s.size : Int)).length + s.size := by unfold putT; rw [List.length_append, hl]
    unfold getT
    rw [e, getN_put hi]
    simp only [ne_eq, not_true_eq_false, if_false]
    rw [if_neg (by omega), if_pos (by simp only [List.length_append, List.length_take]; omega)]
theorem getT_bound (l : List Int) : 0 ≤ (getT l).2.1 ∧ (getT l).2.1 ≤ l.length ∧ ((getT l).2.2 = 0 → 0 < (getT l).2.1) ∧ ((getT l).2.2 ≠ 0 → (getT l).1 = ⟨#[]⟩ ∧ (getT l).2.1 = 0) := by
  have hb := getN_bound l
  unfold getT
  split
  · simp_all
  · split
    · simp
    · split
      · simp
      · simp only [ne_eq, not_true_eq_false, false_implies, and_true]
        have := hb.2.2.1 (by simp_all)
        omega
/-- What is read as a text is just what is written of it. -/
theorem getT_canon {l : List Int} (hb : Byt l) (h : (getT l).2.2 = 0) : l.take (getT l).2.1.toNat = putT (getT l).1 ∧ (getT l).2.1 = (putT (getT l).1).length ∧ (getT l).1.size ≤ 65536 := by
  have hbd := getN_bound l
  unfold getT at h ⊢
  by_cases h0 : (getN l).2.2 ≠ 0
  · rw [if_pos h0] at h; exact absurd h h0
  · rw [if_neg h0] at h ⊢
    by_cases h1 : (getN l).1 < 0 ∨ (getN l).1 > 65536
    · rw [if_pos h1] at h; simp at h
    · rw [if_neg h1] at h ⊢
      by_cases h2 : (getN l).1 > (l.length : Int) - (getN l).2.1
      · rw [if_pos h2] at h; simp at h
      · rw [if_neg h2] at h ⊢
        have h0' : (getN l).2.2 = 0 := by simpa using h0
        obtain ⟨c1, c2⟩ := getN_canon hb h0'
        simp only
        have hz : (strOfNums ((l.take ((getN l).2.1 + (getN l).1).toNat).drop (getN l).2.1.toNat)).size = ((getN l).1).toNat := by
          rw [strOfNums_size]; simp only [List.length_drop, List.length_take]; omega
        have hbt : bytesOf (strOfNums ((l.take ((getN l).2.1 + (getN l).1).toNat).drop (getN l).2.1.toNat)) = (l.take ((getN l).2.1 + (getN l).1).toNat).drop (getN l).2.1.toNat := bytesOf_str ((hb.take _).drop _)
        have e : putT (strOfNums ((l.take ((getN l).2.1 + (getN l).1).toNat).drop (getN l).2.1.toNat)) = l.take ((getN l).2.1 + (getN l).1).toNat := by
          unfold putT
          rw [hz, hbt, show (((getN l).1.toNat : Nat) : Int) = (getN l).1 by omega, ← c1]
          have : l.take (getN l).2.1.toNat = (l.take ((getN l).2.1 + (getN l).1).toNat).take (getN l).2.1.toNat := by rw [List.take_take, Nat.min_eq_left (by omega)]
          rw [this, List.take_append_drop]
        rw [e, hz]
        refine ⟨rfl, ?_, by omega⟩
        rw [List.length_take]
        omega
end Go.Proofs.Ytoffcgdamcchcaa.Q

/- The printed functions of package num and of its reference tell what QNum says. -/
set_option linter.unusedVariables false
set_option linter.unusedSimpArgs false
namespace Go.Proofs.Ytoffcgdamcchcaa.Q
open Go.RowKit Go.Proofs.YtoffcgdamcchcaaW.PrintWords Go.Proofs.YtoffcgdamcchcaaW.PrintMore Go.Proofs.Ytoffcgdamcchcaa.XDir
theorem zig_bits {n : Int} (h : I64 n) : (if n < 0 then Go.bits .xor .u64 18446744073709551615 (IntKind.u64.wrap (IntKind.u64.wrap n * 2)) else IntKind.u64.wrap (IntKind.u64.wrap n * 2)) = (zig n : Int) := by
  unfold I64 at h
  unfold zig
  split
  · rw [u64_mod, u64_mod, not_u64 (by omega) (by omega)]
    omega
  · rw [u64_mod, u64_mod]
    omega
theorem num_Put_l (u : Nat) : ∀ l : List Int, l.length + (putU u).length ≤ 140737488355328 → Ev (fun k => num_Put.l0 k l (u : Int)) (l ++ putU u) := by
  induction u using Nat.strongRecOn with
  | _ u ih =>
    intro l hl
    by_cases h : u < 128
    · rw [putU_lt h] at hl ⊢
      refine Ev.step (f := fun _ => some (l ++ [(u : Int)])) (fun k => ?_) (Ev.now _)
      simp only [num_Put.l0]
      simp only [List.length_cons, List.length_nil] at hl
      rw [if_neg (by omega), if_pos (by omega), show (u : Int) % 256 = u by omega]
    · rw [putU_ge h] at hl ⊢
      simp only [List.length_cons] at hl
      refine Ev.step (f := fun k => num_Put.l0 k (l ++ [((u % 128 + 128 : Nat) : Int)]) ((u / 128 : Nat) : Int)) (fun k => ?_) ?_
      · simp only [num_Put.l0]
        rw [if_pos (by omega), if_pos (by omega), or128 (by omega) (by omega)]
        rw [show ((u : Int) % 256) % 128 + 128 = ((u % 128 + 128 : Nat) : Int) by omega, show (u : Int) / 128 = ((u / 128 : Nat) : Int) by omega]
      · refine evEq (ih (u / 128) (by omega) (l ++ [((u % 128 + 128 : Nat) : Int)]) (by simp only [List.length_append, List.length_cons, List.length_nil]; omega)) ?_
        rw [List.append_assoc]
        rfl
theorem num_Put_ev {n : Int} (h : I64 n) (l : List Int) (hl : l.length + 10 ≤ 140737488355328) : Ev (fun k => num_Put.f k l n) (l ++ putN n) := by
  have hz := zig_bits h
  have := putN_len h
  have h1 : Ev (fun k => num_Put.j0 k l (zig n : Int)) (l ++ putN n) := Ev.step (fun k => by simp only [num_Put.j0]) (num_Put_l (zig n) l (by unfold putN at this; omega))
  refine Ev.congr (fun k => ?_) h1
  unfold num_Put.f
  split
  · rename_i hn; rw [if_pos hn] at hz; rw [hz]
  · rename_i hn; rw [if_neg hn] at hz; rw [hz]
theorem num_PutText_ev {s : ByteArray} (h : s.size ≤ 70368744177664) (l : List Int) (hl : l.length ≤ 35184372088832) : Ev (fun k => num_PutText.f k l s) (l ++ putT s) := by
  have hi : I64 (s.size : Int) := by unfold I64; omega
  have := putN_len hi
  have h2 : Ev (fun _ => if (l ++ putN (s.size : Int)).length + s.size < 140737488355328 then some ((l ++ putN (s.size : Int)) ++ bytesOf s) else none) ((l ++ putN (s.size : Int)) ++ bytesOf s) :=
    evC (if_pos (by simp only [List.length_append]; omega))
  refine evEq (Ev.bind (num_Put_ev hi l (by omega)) h2) ?_
  unfold putT
  rw [List.append_assoc]
theorem num_Get_l : ∀ (r pre : List Int) (u : Int), Byt (pre ++ r) → (pre ++ r).length < 9223372036854775800 → pre.length ≤ 9 → 0 ≤ u → u < 128 ^ pre.length →
    Ev (fun k => num_Get.l0 k u (pre ++ r) ((pre ++ r).length : Int) (pre.length : Int)) (ug r pre.length u) := by
  intro r
  induction r with
  | nil =>
    intro pre u hb hl hi h0 h1
    refine Ev.step (f := fun _ => some (0, 0, 2)) (fun k => ?_) (Ev.now _)
    simp only [num_Get.l0]
    rw [if_neg (by simp)]
  | cons c r ih =>
    intro pre u hb hl hi h0 h1
    have hc := hb.right.head
    have hll : (pre ++ c :: r).length = pre.length + r.length + 1 := by simp; omega
    have hlt : (pre.length : Int) < ((pre ++ c :: r).length : Int) := by omega
    have hpp := p128 pre.length
    have e7 : wrap64 (7 * (pre.length : Int)) = 7 * pre.length := w64 (by omega) (by omega)
    have ep : (2 : Int) ^ (7 * (pre.length : Int)).toNat = 128 ^ pre.length := by
      rw [show (7 * (pre.length : Int)).toNat = 7 * pre.length by omega, Int.pow_mul]
      rfl
    have hcm : c % 128 * 128 ^ pre.length < 2 ^ 64 ∨ (pre.length = 9 ∧ c > 1) := by
      by_cases h9 : pre.length = 9
      · by_cases hc1 : c > 1
        · exact .inr ⟨h9, hc1⟩
        · rw [h9]
          have : c % 128 ≤ 1 := by omega
          left; omega
      · have h8 := pow128_mono (i := pre.length) (j := 8) (by omega)
        have h2 : c % 128 * 128 ^ pre.length ≤ 127 * 128 ^ pre.length := Int.mul_le_mul_of_nonneg_right (by omega) (Int.le_of_lt hpp)
        have e8 : (128 : Int) ^ 8 = 72057594037927936 := rfl
        left; omega
    -- the state behind this byte
    have hbits : ¬ (pre.length = 9 ∧ c > 1) → Go.bits .or .u64 u (shl .u64 (IntKind.u64.wrap (Go.bits .and .u8 c 127)) (wrap64 (7 * (pre.length : Int)))) = u + c % 128 * 128 ^ pre.length := by
      intro hn
      have hcm' : c % 128 * 128 ^ pre.length < 2 ^ 64 := by
        rcases hcm with h | h
        · exact h
        · exact absurd h hn
      rw [e7, and127 hc.1 hc.2, u64 (by omega) (by omega), shl_u64 (by omega) (by omega) (by omega) (by rw [ep]; exact hcm'), ep]
      have e2 : (128 : Int) ^ pre.length = 2 ^ (7 * pre.length) := by rw [Int.pow_mul]; rfl
      refine or_join (7 * pre.length) (by omega) h0 (by rw [← e2]; exact h1) (Int.mul_nonneg (by omega) (Int.le_of_lt hpp)) (by rw [e2]; exact Int.mul_emod_left _ _) hcm'
    -- the head of the loop
    have hstep : ∀ k, num_Get.l0 (k + 1) u (pre ++ c :: r) ((pre ++ c :: r).length : Int) (pre.length : Int) = num_Get.j1 k u (pre.length : Int) c (pre ++ c :: r) ((pre ++ c :: r).length : Int) (pre.length : Int) (decide (pre.length = 9 ∧ c > 1)) := by
      intro k
      simp only [num_Get.l0]
      rw [if_pos hlt, if_pos (by omega), if_pos hlt, rd_append]
      by_cases h9 : pre.length = 9
      · rw [if_pos (by omega)]
        congr 1
        simp [h9]
      · rw [if_neg (by omega)]
        congr 1
        simp [h9]
    refine Ev.step hstep ?_
    by_cases hx : pre.length = 9 ∧ c > 1
    · refine Ev.step (f := fun _ => some (0, 0, 1)) (fun k => ?_) (evEq (Ev.now _) ?_)
      · simp only [num_Get.j1]
        rw [if_pos (by simp [hx])]
      · unfold ug; rw [if_pos hx]
    · have hbt := hbits hx
      have hd : decide (pre.length = 9 ∧ c > 1) = false := by simpa using fun h h2 => hx ⟨h, h2⟩
      rw [hd]
      by_cases hc1 : c > 127
      · have hi9 : pre.length ≠ 9 := fun h => hx ⟨h, by omega⟩
        have hrec := ih (pre ++ [c]) (u + (c - 128) * 128 ^ pre.length) (by rw [List.append_assoc]; exact hb) (by rw [List.append_assoc]; exact hl) (by simp; omega) (Int.add_nonneg h0 (Int.mul_nonneg (by omega) (Int.le_of_lt hpp))) (by
          simp only [List.length_append, List.length_cons, List.length_nil]
          have : (c - 128) * 128 ^ pre.length ≤ 127 * 128 ^ pre.length := Int.mul_le_mul_of_nonneg_right (by omega) (Int.le_of_lt hpp)
          rw [Int.pow_succ]
          omega)
        simp only [List.append_assoc, List.cons_append, List.nil_append, List.length_append, List.length_cons, List.length_nil] at hrec
        refine Ev.step (fun k => ?_) (evEq hrec ?_)
        · simp only [num_Get.j1]
          rw [if_neg (by simp), if_pos (by omega), if_pos hc1, hbt, w64 (by omega) (by omega)]
          rw [show c % 128 = c - 128 by omega]
          simp only [Nat.zero_add, Int.natCast_add, Int.natCast_one, List.length_append, List.length_cons]
        · conv => rhs; unfold ug
          rw [if_neg hx, if_pos hc1]
      · have e1 : c % 128 = c := by omega
        rw [e1] at hbt
        have hv : 0 ≤ u + c * 128 ^ pre.length ∧ u + c * 128 ^ pre.length < 18446744073709551616 := by
          refine ⟨Int.add_nonneg h0 (Int.mul_nonneg hc.1 (Int.le_of_lt hpp)), ?_⟩
          by_cases hi9 : pre.length = 9
          · have : c ≤ 1 := by
              rcases Int.lt_or_le 1 c with h | h
              · exact absurd ⟨hi9, h⟩ hx
              · exact h
            rw [hi9] at h1 ⊢
            omega
          · have h8 := pow128_mono (i := pre.length) (j := 8) (by omega)
            have h2 : c * 128 ^ pre.length ≤ 127 * 128 ^ pre.length := Int.mul_le_mul_of_nonneg_right (by omega) (Int.le_of_lt hpp)
            have e8 : (128 : Int) ^ 8 = 72057594037927936 := rfl
            omega
        by_cases hz : pre.length > 0 ∧ c = 0
        · refine Ev.step (f := fun k => num_Get.j2 k (u + c * 128 ^ pre.length) (pre.length : Int) true) (fun k => ?_) ?_
          · simp only [num_Get.j1]
            rw [if_neg (by simp), if_pos (by omega), if_neg hc1, hbt, if_pos (by omega)]
            congr 1
            simp [hz.2]
          · refine Ev.step (f := fun _ => some (0, 0, 1)) (fun k => ?_) (evEq (Ev.now _) ?_)
            · simp only [num_Get.j2]; rw [if_pos trivial]
            · unfold ug; rw [if_neg hx, if_neg hc1, if_pos hz]
        · refine Ev.step (f := fun k => num_Get.j2 k (u + c * 128 ^ pre.length) (pre.length : Int) false) (fun k => ?_) ?_
          · simp only [num_Get.j1]
            rw [if_neg (by simp), if_pos (by omega), if_neg hc1, hbt]
            by_cases hp : (pre.length : Int) > 0
            · rw [if_pos hp]
              congr 1
              simp only [beq_eq_false_iff_ne]
              exact fun h => hz ⟨by omega, h⟩
            · rw [if_neg hp]
          · refine Ev.step (f := fun _ => some (unzig (u + c * 128 ^ pre.length), (pre.length : Int) + 1, 0)) (fun k => ?_) (evEq (Ev.now _) ?_)
            · simp only [num_Get.j2]
              rw [if_neg (by simp), w64 (x := (pre.length : Int) + 1) (by omega) (by omega), w64 (x := (u + c * 128 ^ pre.length) / 2) (by omega) (by omega)]
              have ha : Go.bits .and .u64 (u + c * 128 ^ pre.length) 1 = (u + c * 128 ^ pre.length) % 2 := bits_mask .u64 64 (by decide) wraps_u64 1 (by decide) _ hv.1 (by omega)
              rw [ha, not_i64 (by omega) (by omega)]
              unfold unzig
              split <;> rfl
            · unfold ug; rw [if_neg hx, if_neg hc1, if_neg hz]
theorem num_Get_ev {l : List Int} (h : Byt l) (hl : l.length < 9223372036854775800) : Ev (fun k => num_Get.f k l) (getN l) := num_Get_l l [] 0 (by simpa using h) (by simpa using hl) (by simp) (by decide) (by simp)
theorem num_GetText_ev {l : List Int} (h : Byt l) (hl : l.length < 9223372036854775800) : Ev (fun k => num_GetText.f k l) (getT l) := by
  have hb := getN_bound l
  have hi := getN_i64 h
  unfold I64 at hi
  unfold num_GetText.f
  refine Ev.bind (num_Get_ev h hl) ?_
  unfold getT
  by_cases h0 : (getN l).2.2 = 0
  · simp only [h0, ne_eq, not_true_eq_false, if_false, if_true]
    by_cases h1 : (getN l).1 < 0 ∨ (getN l).1 > 65536
    · rw [if_pos h1]
      have e : ∀ k, (if (getN l).1 < 0 then num_GetText.j0 k l (getN l).1 (getN l).2.1 true else num_GetText.j0 k l (getN l).1 (getN l).2.1 (decide ((getN l).1 > 65536))) = num_GetText.j0 k l (getN l).1 (getN l).2.1 true := by
        intro k
        split
        · rfl
        · rw [decide_eq_true (by omega)]
      refine Ev.congr e (Ev.step (f := fun _ => some (⟨#[]⟩, 0, 1)) (fun k => ?_) (Ev.now _))
      simp only [num_GetText.j0]
      rw [if_pos trivial]
    · rw [if_neg h1]
      have e : ∀ k, (if (getN l).1 < 0 then num_GetText.j0 k l (getN l).1 (getN l).2.1 true else num_GetText.j0 k l (getN l).1 (getN l).2.1 (decide ((getN l).1 > 65536))) = num_GetText.j0 k l (getN l).1 (getN l).2.1 false := by
        intro k
        rw [if_neg (by omega), decide_eq_false (by omega)]
      refine Ev.congr e (Ev.step (f := fun _ => if (getN l).1 > (l.length : Int) - (getN l).2.1 then some (⟨#[]⟩, 0, 2) else some (strOfNums ((l.take ((getN l).2.1 + (getN l).1).toNat).drop (getN l).2.1.toNat), (getN l).2.1 + (getN l).1, 0)) (fun k => ?_) ?_)
      · simp only [num_GetText.j0]
        rw [if_neg (by simp), w64 (x := (l.length : Int) - (getN l).2.1) (by omega) (by omega)]
        split
        · rfl
        · rw [w64 (x := (getN l).2.1 + (getN l).1) (by omega) (by omega), if_pos (by omega), if_pos (by omega), if_pos (by omega)]
      · split <;> exact Ev.now _
  · have h0' : ¬ ((getN l).2.2 = 0) := h0
    simp only [ne_eq, h0, not_false_eq_true, if_true, if_false]
    exact Ev.now _
end Go.Proofs.Ytoffcgdamcchcaa.Q

/- dir.Find by hand: a closure handed to slices.IndexFunc. -/
-- GIVEN loess/dir.Find 1 late
namespace Go.Proofs.Ytoffcgdamcchcaa.GL
open Go.RowKit Go.Proofs.YtoffcgdamcchcaaW.PrintWords Go.Proofs.YtoffcgdamcchcaaW.PrintLast Go.Proofs.YtoffcgdamcchcaaW.PrintMore Go.Proofs.Ytoffcgdamcchcaa.XDir
set_option linter.unusedVariables false
set_option linter.unusedSimpArgs false
abbrev Ent := S32
def vE (x : Ent) : Value := .agg #[.string x.f0, .int .i64 x.f1, .int .i64 x.f2.f0, .int .i64 x.f2.f1]
/-- Where a name stands, from the i-th entry on. -/
def findFrom (s : ByteArray) : List Ent → Int → Int
  | [], _ => -1
  | x :: r, i => if x.f0.toList = s.toList then i else findFrom s r (i + 1)
set_option maxRecDepth 1000000 in
set_option maxHeartbeats 4000000 in
theorem find1 (x : Ent) (s : ByteArray) (B : Nat) (W : World) (hB : B < W.heap.size) (hcell : W.cell? ⟨B, 0, none⟩ = some (.string s)) :
    Calls Try.prog 28 #[vE x, .pointer (some ⟨B, 0, none⟩)] W fun e w' => e = .returned (.bool (x.f0.toList == s.toList)) ∧ Below W.heap.size W w' := by
  have hu := Try.underlying32
  unfold vE
  have HB := Aside0.mk (Below.refl W.heap.size W)
  go_enter Try.func28, Try.ntmps28
  go_wp2_with (first | ((with_reducible refine gate_dst (N := 2) rfl ?_); refine box_event ?hg (N := 2) ?hd (cs := #[.string x.f0, .int .i64 x.f1, .int .i64 x.f2.f0, .int .i64 x.f2.f1]) (t := 32) ?hr ?_; (case hd => rfl); (case hg => rfl); (case hr => first | (go_simp; done) | (go_simp; rfl)); intro gb hg w7 hbox hb; have n0_ := Aside0.mk (hb : Below W.heap.size W w7); have n2_ := Aside0.mk hbox; clear HB; have HB := n0_; have BK := n2_; clear n0_ n2_; have hcb := (HB.out.cell hB).trans hcell; clear hbox hg; have hcz : w7.cell? ⟨gb, 0, none⟩ = some (.string x.f0) := (blk_cell BK.out 0).trans rfl))
  go_ret
  exact ⟨rfl, HB.out⟩
theorem findFrom_step (s : ByteArray) (l : List Ent) (k : Nat) (h : k < l.length) : findFrom s (l.drop k) k = if (rd_T32 l k).f0.toList = s.toList then (k : Int) else findFrom s (l.drop (k + 1)) ((k + 1 : Nat) : Int) := by
  rw [List.drop_eq_getElem_cons h]
  have e : rd_T32 l (k : Int) = l[k] := by simp [rd_T32, h]
  rw [e]
  rfl
set_option maxRecDepth 1000000 in
set_option maxHeartbeats 4000000 in
theorem idx (A0 : Option Addr) (c0 : Nat) (l0 : List Ent) (s : ByteArray) (B : Nat) (w : World) (hr0 : Kd.C k32 w A0 l0.length l0) (hB : B < w.heap.size) (hcell : w.cell? ⟨B, 0, none⟩ = some (.string s)) :
    Calls Try.prog 27 #[.slice A0 l0.length c0, .func (.func 28) #[] #[.pointer (some ⟨B, 0, none⟩)]] w fun e w' => e = .returned (.int .i64 (findFrom s l0 0)) ∧ Below w.heap.size w w' := by
  have hu := Try.underlying32
  have eg : ∀ args w, (callFunc 28 args).run Try.prog w = .ok (.enter 28 args) w := Go.Proofs.enters_of Try.func28 (by kernel_rfl) rfl
  have hbig := hr0.2.1
  have HR0 := Aside0.mk hr0
  clear hr0
  have HB := Aside0.mk (Below.refl w.heap.size w)
  have HC := Aside0.mk hcell
  clear hcell
  go_enter Try.func27, Try.ntmps27
  go_wp2
  go_loopg [5, 8] l0.length (fun gg _ v8 wr => ∃ kk : Nat, kk ≤ l0.length ∧ l0.length - kk ≤ gg ∧ v8 = .int .i64 kk ∧ Aside0 (Below w.heap.size w wr) ∧ Aside0 (findFrom s l0 0 = findFrom s (l0.drop kk) kk))
  case atStart => exact ⟨0, Nat.zero_le _, by omega, rfl, HB, ⟨rfl⟩⟩
  case round =>
    clear HB
    obtain ⟨kk, hkk, hg, rfl, HB, HF⟩ := hrel
    by_cases hlt : kk < l0.length
    · have hltz : (kk : Int) < (l0.length : Int) := by omega
      have h0z : (0 : Int) ≤ (kk : Int) := by omega
      obtain ⟨ad, e, h0, h1, h2, h3⟩ := at_T32 HR0.out (kk : Int) h0z hltz
      cases e
      replace h0 := (HB.out.cell (World.block_lt_of_cell? w _ h0)).trans h0
      replace h1 := (HB.out.cell (World.block_lt_of_cell? w _ h1)).trans h1
      replace h2 := (HB.out.cell (World.block_lt_of_cell? w _ h2)).trans h2
      replace h3 := (HB.out.cell (World.block_lt_of_cell? w _ h3)).trans h3
      simp only [Int.toNat_natCast] at h0 h1 h2 h3
      have hcall := find1 (rd_T32 l0 (kk : Int)) s B wr (Nat.lt_of_lt_of_le hB HB.out.size) ((HB.out.cell hB).trans HC.out)
      unfold vE at hcall
      have HS := Aside0.mk (findFrom_step s l0 kk hlt)
      have HCALL := Aside0.mk hcall
      clear hcall
      replace h0z := eq_true h0z
      by_cases hq : (rd_T32 l0 (kk : Int)).f0.toList = s.toList
      · have hqb : ((rd_T32 l0 (kk : Int)).f0.toList == s.toList) = true := beq_iff_eq.mpr hq
        have HQ := Aside0.mk hq
        clear hq
        go_wp2_with (go_at_fn 28; refine HCALL.out.mono ?_; rintro e w' ⟨rfl, hb'⟩)
        go_ret
        refine ⟨?_, below_step HB.out hb'⟩
        rw [HF.out, HS.out, if_pos HQ.out]
        rfl
      · have hqb : ((rd_T32 l0 (kk : Int)).f0.toList == s.toList) = false := beq_eq_false_iff_ne.mpr hq
        have HQ := Aside0.mk hq
        clear hq
        go_wp2_with (go_at_fn 28; refine HCALL.out.mono ?_; rintro e w' ⟨rfl, hb'⟩)
        go_roundg (l0.length - (kk + 1))
        case measure => omega
        case rel => exact ⟨kk + 1, by omega, by omega, by go_num, ⟨below_step HB.out hb'⟩, ⟨by rw [HF.out, HS.out, if_neg HQ.out]⟩⟩
    · have hltz : ¬ (kk : Int) < (l0.length : Int) := by omega
      have HE := Aside0.mk (show findFrom s (l0.drop kk) kk = -1 by rw [List.drop_of_length_le (by omega)]; rfl)
      go_wp2
      go_ret
      exact ⟨by rw [HF.out, HE.out]; rfl, HB.out⟩
def dir_Find.f (l0 : List Ent) (a1 : ByteArray) : Option Int := some (findFrom a1 l0 0)
set_option maxRecDepth 1000000 in
set_option maxHeartbeats 4000000 in
theorem dir_Find.calls (A0 : Option Addr) (c0 : Nat) (l0 : List Ent) (a1 : ByteArray) (r : Int) (w : World) (hr0 : Kd.C k32 w A0 l0.length l0) (hc0 : l0.length ≤ c0) (h : dir_Find.f l0 a1 = some r) :
    Calls Try.prog 16 #[.slice A0 l0.length c0, .string a1] w fun e w' => e = .returned (.int .i64 r) ∧ Below w.heap.size w w' := by
  have HR := Aside0.mk (Option.some.inj h)
  clear h
  have hmf : ∀ (fn : Fn) (first cap : Array Value) (w : World), (Instr.makeFunc fn first cap).run Try.prog w = .ok (.func fn first cap) w := fun _ _ _ _ => rfl
  have HR0 := Aside0.mk hr0
  clear hr0
  have HB := Aside0.mk (Below.refl w.heap.size w)
  go_enter Try.func16, Try.ntmps16
  go_wp2_with (first
    | ((with_reducible refine gate_dst (N := 3) rfl ?_); refine box_event ?hg (N := 3) ?hd (cs := #[.string a1]) (t := 9) ?hr ?_; (case hd => rfl); (case hg => rfl); (case hr => first | (go_simp; done) | (go_simp; rfl)); intro gb hg w7 hbox hb; have n0_ := Aside0.mk (hb : Below w.heap.size w w7); have n2_ := Aside0.mk hbox; clear HB; have HB := n0_; have BK := n2_; clear n0_ n2_; clear hbox hg; have hgl : gb < w7.heap.size := World.block_lt_of_cell? w7 ⟨gb, 0, none⟩ ((blk_cell BK.out 0).trans rfl))
    | (go_at_call 27; refine (idx A0 c0 l0 a1 _ _ (Kd.C_below HR0.out HB.out) hgl ((blk_cell BK.out 0).trans rfl)).mono ?_; rintro e w' ⟨rfl, hb'⟩))
  go_ret
  exact ⟨by rw [← HR.out]; rfl, below_step HB.out hb'⟩
end Go.Proofs.Ytoffcgdamcchcaa.GL

/- dir.one by hand: a text and three numbers, the numbers laid in an array. -/
namespace Go.Proofs.Ytoffcgdamcchcaa.GL
open Go.RowKit Go.Proofs.YtoffcgdamcchcaaW.PrintWords Go.Proofs.YtoffcgdamcchcaaW.PrintLast Go.Proofs.YtoffcgdamcchcaaW.PrintMore Go.Proofs.Ytoffcgdamcchcaa.XDir Go.Proofs.Ytoffcgdamcchcaa.Q
set_option linter.unusedVariables false
set_option linter.unusedSimpArgs false
/-- What is behind a place in bytes, as it is handed on. -/
theorem cutD (A0 : Option Addr) (c0 : Nat) (l0 : List Int) (t : Int) (q0 : 0 ≤ t) (q1 : t ≤ (l0.length : Int)) (hc : l0.length ≤ c0) : ∃ A1 c1,
    (∀ W : World, (Instr.slice 26 (.slice A0 l0.length c0) (some (.int .i64 t)) none none).run Try.prog W = .ok (.slice A1 (l0.drop t.toNat).length c1) W) ∧
    (∀ W : World, Kd.C (Kd.int .u8) W A0 l0.length l0 → Kd.C (Kd.int .u8) W A1 (l0.drop t.toNat).length (l0.drop t.toNat)) ∧ (l0.drop t.toNat).length ≤ c1 := by
  obtain ⟨i0, hi0, _, hsz, _⟩ := info_parts info5
  have hcut := cut_from (P := Try.prog) 26 5 .i64 Try.underlying26 hi0 1 hsz A0 l0.length c0 t q0 q1
  refine ⟨(if c0 = t.toNat then A0 else A0.map (·.add (t.toNat * 1))), c0 - t.toNat, ?_, fun W h => Kd.C_drop (m := t.toNat) (c := c0) h (by omega) hc, by rw [List.length_drop]; omega⟩
  rw [List.length_drop]
  exact hcut
def slotNat : Value → Nat
  | .int _ i => i.toNat
  | _ => 0
/-- Some numbers one behind the other, from a place on. -/
def nums3 (l : List Int) : Nat → Int → List Int → Option (List Int × Int)
  | 0, p, acc => some (acc, p)
  | d + 1, p, acc => if (getN (l.drop p.toNat)).2.2 = 0 then nums3 l d (p + (getN (l.drop p.toNat)).2.1) (acc ++ [(getN (l.drop p.toNat)).1]) else none
theorem nums3_succ (l : List Int) (d : Nat) (p : Int) (acc : List Int) : nums3 l (d + 1) p acc = if (getN (l.drop p.toNat)).2.2 = 0 then nums3 l d (p + (getN (l.drop p.toNat)).2.1) (acc ++ [(getN (l.drop p.toNat)).1]) else none := rfl
def zE : Ent := ⟨⟨#[]⟩, 0, ⟨0, 0⟩⟩
def mkE (s : ByteArray) : Option (List Int × Int) → Ent × Int
  | some ([x, y, z], p) => (⟨s, x, ⟨y, z⟩⟩, p)
  | _ => (zE, 0)
/-- An entry that is read. -/
def oneD (l : List Int) : Ent × Int := if (getT l).2.2 = 0 then mkE (getT l).1 (nums3 l 3 (getT l).2.1 []) else (zE, 0)
set_option maxRecDepth 1000000 in
set_option maxHeartbeats 8000000 in
theorem dir_one (A0 : Option Addr) (c0 : Nat) (l0 : List Int) (w : World) (hr0 : Kd.C (Kd.int .u8) w A0 l0.length l0) (hc0 : l0.length ≤ c0) (hb : Byt l0) (hl : l0.length < 4611686018427387904) :
    Calls Try.prog 23 #[.slice A0 l0.length c0] w fun e w' => e = .returned (.tuple #[vE (oneD l0).1, .int .i64 (oneD l0).2]) ∧ Below w.heap.size w w' := by
  have hu := Try.underlying32
  have hua := Try.underlying61
  have HR0 := Aside0.mk hr0
  have HC0 := Aside0.mk hc0
  clear hr0 hc0
  have HB := Aside0.mk (Below.refl w.heap.size w)
  obtain ⟨k0, hk0⟩ := Ev.rounds (num_GetText_ev hb (by omega))
  have hbd := getT_bound l0
  obtain ⟨⟨s, t, e0⟩, ht⟩ : ∃ x, x = getT l0 := ⟨_, rfl⟩
  have HD : oneD l0 = if e0 = 0 then mkE s (nums3 l0 3 t []) else (zE, 0) := by unfold oneD; rw [← ht]
  rw [← ht] at hk0 hbd
  clear ht
  simp only at hbd
  have A0_ := Aside0.mk hk0
  clear hk0
  rw [HD]
  clear HD
  by_cases c0_ : e0 = 0
  · subst c0_
    rw [if_pos rfl]
    have hbd1 := Aside0.mk (hbd.2.2.1 rfl)
    have hbd0 := Aside0.mk hbd.1
    have hbd2 := Aside0.mk hbd.2.1
    clear hbd
    go_enter Try.func23, Try.ntmps23
    go_wp2_with (first
      | ((with_reducible refine gate_dst (N := 2) rfl ?_); refine box_event ?hg (N := 2) ?hd (cs := #[.string (⟨#[]⟩ : ByteArray), .int .i64 0, .int .i64 0, .int .i64 0]) (t := 32) ?hr ?_; (case hd => rfl); (case hg => rfl); (case hr => first | (go_simp; done) | (go_simp; rfl)); intro g2 hg w7 hbox hb_; have n0_ := Aside0.mk (below_step HB.out hb_); have n2_ := Aside0.mk hbox; have n3_ := Aside0.mk (show w.heap.size ≤ g2 by rw [hg]; exact Nat.le_refl _); clear HB; have HB := n0_; have BK2 := n2_; have GE2 := n3_; clear n0_ n2_ n3_; clear hbox hg hb_)
      | (go_at_call 30; (with_reducible refine (num_GetText.calls k0 A0 c0 l0 s t 0 _ (Kd.C_below HR0.out HB.out) HC0.out A0_.out).mono ?_); rintro e w' ⟨rfl, ⟨nd, rfl⟩⟩)
      | ((with_reducible refine gate_dst (N := 7) rfl ?_); refine box_event ?hg (N := 7) ?hd (cs := #[.int .i64 0, .int .i64 0, .int .i64 0]) (t := 61) ?hr ?_; (case hd => rfl); (case hg => rfl); (case hr => first | (go_simp; done) | (go_simp; rfl)); intro g7 hg w8 hbox hb_; have n0_ := Aside0.mk (below_step (pw_below_drewN HB.out nd) hb_); have n2_ := Aside0.mk hbox; have n3_ := Aside0.mk (show w.heap.size ≤ g7 by rw [hg]; exact HB.out.size); have n4_ := Aside0.mk (blk_below (blk_drewN BK2.out nd) hb_); clear HB; have HB := n0_; have BK7 := n2_; have GE7 := n3_; clear BK2; have BK2 := n4_; clear n0_ n2_ n3_ n4_; clear hbox hg hb_))
    go_loopw [5, 21] (fun v5 v21 wr => ∃ (i : Nat) (p : Int) (acc : List Int), v5 = .int .i64 p ∧ v21 = .int .i64 i ∧ i ≤ 3 ∧ acc.length = i ∧ 0 ≤ p ∧ p ≤ (l0.length : Int) ∧ Aside0 (nums3 l0 3 t [] = nums3 l0 (3 - i) p acc) ∧ Aside0 (wr.heap[g7]? = some (.cells ((acc ++ List.replicate (3 - i) 0).map (Value.int .i64)).toArray 61 (0, 0))) ∧ Aside0 (wr.heap[g2]? = some (.cells #[.string (⟨#[]⟩ : ByteArray), .int .i64 0, .int .i64 0, .int .i64 0] 32 (0, 0))) ∧ Aside0 (Below w.heap.size w wr)) (fun _ v _ => 3 - slotNat v)
    case atStart => exact ⟨0, t, [], rfl, rfl, by omega, rfl, hbd0.out, hbd2.out, ⟨rfl⟩, BK7, BK2, by first | exact HB | exact ⟨HB.out⟩⟩
    case round =>
      clear BK7 BK2 HB
      obtain ⟨i, p, acc, rfl, rfl, hi, hacc, hp0, hp1, HN, BK7, BK2, HB⟩ := hrel
      have hne : g2 ≠ g7 := blk_ne BK2.out BK7.out (by decide)
      have hne' : g7 ≠ g2 := fun h => hne h.symm
      have hcases : i = 0 ∨ i = 1 ∨ i = 2 ∨ i = 3 := by omega
      clear hi
      rcases hcases with rfl | rfl | rfl | rfl
      · obtain rfl := List.eq_nil_of_length_eq_zero hacc
        clear hacc
        replace BK7 : Aside0 (wr.heap[g7]? = some (.cells #[.int .i64 0, .int .i64 0, .int .i64 0] 61 (0, 0))) := ⟨BK7.out⟩
        obtain ⟨A1, c1, hcut, hrd, hroom⟩ := cutD A0 c0 l0 p hp0 hp1 HC0.out
        have hyb := hb.drop p.toNat
        have hpl : (l0.drop p.toNat).length = l0.length - p.toNat := List.length_drop
        obtain ⟨y, hy⟩ : ∃ y, y = l0.drop p.toNat := ⟨_, rfl⟩
        rw [← hy] at hcut hrd hroom hyb hpl
        obtain ⟨k1, hk1⟩ := Ev.rounds (num_Get_ev hyb (by omega))
        have hgb := getN_bound y
        obtain ⟨⟨x, n, e1⟩, hx⟩ : ∃ z, z = getN y := ⟨_, rfl⟩
        have HS : nums3 l0 (3 - 0) p [] = if e1 = 0 then nums3 l0 (3 - 1) (p + n) ([] ++ [x]) else none := by
          show nums3 l0 (2 + 1) p [] = _
          rw [nums3_succ, ← hy, ← hx]
        rw [← hx] at hk1 hgb
        clear hx
        simp only at hgb
        clear hy
        have hps : p + n ≤ (l0.length : Int) := by omega
        have hps0 : 0 ≤ p + n := by omega
        have A1_ := Aside0.mk hk1
        clear hk1
        have HPS := Aside0.mk hps
        have HPS0 := Aside0.mk hps0
        have HRM := Aside0.mk hroom
        clear hps hps0 hgb hpl
        have HN2 := Aside0.mk (HN.out.trans HS)
        clear HN HS
        have q0 := eq_true hp0
        have q1 := eq_true hp1
        by_cases ce : e1 = 0
        · subst ce
          rw [if_pos rfl] at HN2
          have hcz : wr.cell? ⟨g7, 0, none⟩ = some (.int .i64 0) := (blk_cell BK7.out 0).trans rfl
          have hfz := blk_frozen BK7.out 0
          go_wp2_with (first | (go_at_call 22; (with_reducible refine (num_Get.calls k1 A1 c1 y x n 0 _ (hrd _ (Kd.C_below HR0.out HB.out)) hroom A1_.out).mono ?_); rintro e w' ⟨rfl, ⟨nd1, rfl⟩⟩))
          go_roundw
          case rel => exact ⟨1, p + n, [] ++ [x], by first | rfl | (go_num; done) | (rw [w64 (by have := HPS0.out; omega) (by have := HPS.out; omega)]), by first | rfl | go_num, by omega, rfl, HPS0.out, HPS.out, HN2, ⟨blk_put (cs := #[.int .i64 0, .int .i64 0, .int .i64 0]) (blk_drewN BK7.out _) 0 _ rfl⟩, ⟨blk_far (blk_drewN BK2.out _) hne _⟩, ⟨below_set (pw_below_drewN HB.out _) GE7.out⟩⟩
          case measure => simp [slotNat]; try omega
        · have ceb : (e1 != 0) = true := bne_iff_ne.mpr ce
          have ceb0 : (e1 == 0) = false := beq_eq_false_iff_ne.mpr ce
          rw [if_neg ce] at HN2
          clear ce
          have hcz0 : wr.cell? ⟨g2, 0, none⟩ = some (.string (⟨#[]⟩ : ByteArray)) := (blk_cell BK2.out 0).trans rfl
          have hcz1 : wr.cell? ⟨g2, 1, none⟩ = some (.int .i64 0) := (blk_cell BK2.out 1).trans rfl
          have hcz2 : wr.cell? ⟨g2, 2, none⟩ = some (.int .i64 0) := (blk_cell BK2.out 2).trans rfl
          have hcz3 : wr.cell? ⟨g2, 3, none⟩ = some (.int .i64 0) := (blk_cell BK2.out 3).trans rfl
          have hfz0 := blk_frozen BK2.out 0
          have hfz1 := blk_frozen BK2.out 1
          have hfz2 := blk_frozen BK2.out 2
          have hfz3 := blk_frozen BK2.out 3
          go_wp2_with (first | (go_at_call 22; (with_reducible refine (num_Get.calls k1 A1 c1 y x n e1 _ (hrd _ (Kd.C_below HR0.out HB.out)) hroom A1_.out).mono ?_); rintro e w' ⟨rfl, ⟨nd1, rfl⟩⟩))
          refine bodyPost_ret (results_ct rfl _ _ g2 32 #[.string (⟨#[]⟩ : ByteArray), .int .i64 0, .int .i64 0, .int .i64 0] (0, 0) _ rfl (by refine blk_put (cs := #[.string (⟨#[]⟩ : ByteArray), .int .i64 0, .int .i64 0, .int .i64 0]) ?_ 3 _ rfl; refine blk_put (cs := #[.string (⟨#[]⟩ : ByteArray), .int .i64 0, .int .i64 0, .int .i64 0]) ?_ 2 _ rfl; refine blk_put (cs := #[.string (⟨#[]⟩ : ByteArray), .int .i64 0, .int .i64 0, .int .i64 0]) ?_ 1 _ rfl; refine blk_put (cs := #[.string (⟨#[]⟩ : ByteArray), .int .i64 0, .int .i64 0, .int .i64 0]) ?_ 0 _ rfl; exact (blk_drewN BK2.out _)) Try.underlying32 rfl (by kernel_rfl)) rfl ?_
          refine ⟨?_, below_set (below_set (below_set (below_set (pw_below_drewN HB.out _) GE2.out) GE2.out) GE2.out) GE2.out⟩
          rw [HN2.out]
          rfl
      · obtain ⟨y0, rfl⟩ := List.length_eq_one_iff.1 hacc
        clear hacc
        replace BK7 : Aside0 (wr.heap[g7]? = some (.cells #[.int .i64 y0, .int .i64 0, .int .i64 0] 61 (0, 0))) := ⟨BK7.out⟩
        obtain ⟨A1, c1, hcut, hrd, hroom⟩ := cutD A0 c0 l0 p hp0 hp1 HC0.out
        have hyb := hb.drop p.toNat
        have hpl : (l0.drop p.toNat).length = l0.length - p.toNat := List.length_drop
        obtain ⟨y, hy⟩ : ∃ y, y = l0.drop p.toNat := ⟨_, rfl⟩
        rw [← hy] at hcut hrd hroom hyb hpl
        obtain ⟨k1, hk1⟩ := Ev.rounds (num_Get_ev hyb (by omega))
        have hgb := getN_bound y
        obtain ⟨⟨x, n, e1⟩, hx⟩ : ∃ z, z = getN y := ⟨_, rfl⟩
        have HS : nums3 l0 (3 - 1) p [y0] = if e1 = 0 then nums3 l0 (3 - 2) (p + n) ([y0] ++ [x]) else none := by
          show nums3 l0 (1 + 1) p [y0] = _
          rw [nums3_succ, ← hy, ← hx]
        rw [← hx] at hk1 hgb
        clear hx
        simp only at hgb
        clear hy
        have hps : p + n ≤ (l0.length : Int) := by omega
        have hps0 : 0 ≤ p + n := by omega
        have A1_ := Aside0.mk hk1
        clear hk1
        have HPS := Aside0.mk hps
        have HPS0 := Aside0.mk hps0
        have HRM := Aside0.mk hroom
        clear hps hps0 hgb hpl
        have HN2 := Aside0.mk (HN.out.trans HS)
        clear HN HS
        have q0 := eq_true hp0
        have q1 := eq_true hp1
        by_cases ce : e1 = 0
        · subst ce
          rw [if_pos rfl] at HN2
          have hcz : wr.cell? ⟨g7, 1, none⟩ = some (.int .i64 0) := (blk_cell BK7.out 1).trans rfl
          have hfz := blk_frozen BK7.out 1
          go_wp2_with (first | (go_at_call 22; (with_reducible refine (num_Get.calls k1 A1 c1 y x n 0 _ (hrd _ (Kd.C_below HR0.out HB.out)) hroom A1_.out).mono ?_); rintro e w' ⟨rfl, ⟨nd1, rfl⟩⟩))
          go_roundw
          case rel => exact ⟨2, p + n, [y0] ++ [x], by first | rfl | (go_num; done) | (rw [w64 (by have := HPS0.out; omega) (by have := HPS.out; omega)]), by first | rfl | go_num, by omega, rfl, HPS0.out, HPS.out, HN2, ⟨blk_put (cs := #[.int .i64 y0, .int .i64 0, .int .i64 0]) (blk_drewN BK7.out _) 1 _ rfl⟩, ⟨blk_far (blk_drewN BK2.out _) hne _⟩, ⟨below_set (pw_below_drewN HB.out _) GE7.out⟩⟩
          case measure => simp [slotNat]; try omega
        · have ceb : (e1 != 0) = true := bne_iff_ne.mpr ce
          have ceb0 : (e1 == 0) = false := beq_eq_false_iff_ne.mpr ce
          rw [if_neg ce] at HN2
          clear ce
          have hcz0 : wr.cell? ⟨g2, 0, none⟩ = some (.string (⟨#[]⟩ : ByteArray)) := (blk_cell BK2.out 0).trans rfl
          have hcz1 : wr.cell? ⟨g2, 1, none⟩ = some (.int .i64 0) := (blk_cell BK2.out 1).trans rfl
          have hcz2 : wr.cell? ⟨g2, 2, none⟩ = some (.int .i64 0) := (blk_cell BK2.out 2).trans rfl
          have hcz3 : wr.cell? ⟨g2, 3, none⟩ = some (.int .i64 0) := (blk_cell BK2.out 3).trans rfl
          have hfz0 := blk_frozen BK2.out 0
          have hfz1 := blk_frozen BK2.out 1
          have hfz2 := blk_frozen BK2.out 2
          have hfz3 := blk_frozen BK2.out 3
          go_wp2_with (first | (go_at_call 22; (with_reducible refine (num_Get.calls k1 A1 c1 y x n e1 _ (hrd _ (Kd.C_below HR0.out HB.out)) hroom A1_.out).mono ?_); rintro e w' ⟨rfl, ⟨nd1, rfl⟩⟩))
          refine bodyPost_ret (results_ct rfl _ _ g2 32 #[.string (⟨#[]⟩ : ByteArray), .int .i64 0, .int .i64 0, .int .i64 0] (0, 0) _ rfl (by refine blk_put (cs := #[.string (⟨#[]⟩ : ByteArray), .int .i64 0, .int .i64 0, .int .i64 0]) ?_ 3 _ rfl; refine blk_put (cs := #[.string (⟨#[]⟩ : ByteArray), .int .i64 0, .int .i64 0, .int .i64 0]) ?_ 2 _ rfl; refine blk_put (cs := #[.string (⟨#[]⟩ : ByteArray), .int .i64 0, .int .i64 0, .int .i64 0]) ?_ 1 _ rfl; refine blk_put (cs := #[.string (⟨#[]⟩ : ByteArray), .int .i64 0, .int .i64 0, .int .i64 0]) ?_ 0 _ rfl; exact (blk_drewN BK2.out _)) Try.underlying32 rfl (by kernel_rfl)) rfl ?_
          refine ⟨?_, below_set (below_set (below_set (below_set (pw_below_drewN HB.out _) GE2.out) GE2.out) GE2.out) GE2.out⟩
          rw [HN2.out]
          rfl
      · obtain ⟨y0, y1, rfl⟩ : ∃ a b, acc = [a, b] := by match acc, hacc with | [a, b], _ => exact ⟨a, b, rfl⟩
        clear hacc
        replace BK7 : Aside0 (wr.heap[g7]? = some (.cells #[.int .i64 y0, .int .i64 y1, .int .i64 0] 61 (0, 0))) := ⟨BK7.out⟩
        obtain ⟨A1, c1, hcut, hrd, hroom⟩ := cutD A0 c0 l0 p hp0 hp1 HC0.out
        have hyb := hb.drop p.toNat
        have hpl : (l0.drop p.toNat).length = l0.length - p.toNat := List.length_drop
        obtain ⟨y, hy⟩ : ∃ y, y = l0.drop p.toNat := ⟨_, rfl⟩
        rw [← hy] at hcut hrd hroom hyb hpl
        obtain ⟨k1, hk1⟩ := Ev.rounds (num_Get_ev hyb (by omega))
        have hgb := getN_bound y
        obtain ⟨⟨x, n, e1⟩, hx⟩ : ∃ z, z = getN y := ⟨_, rfl⟩
        have HS : nums3 l0 (3 - 2) p [y0, y1] = if e1 = 0 then nums3 l0 (3 - 3) (p + n) ([y0, y1] ++ [x]) else none := by
          show nums3 l0 (0 + 1) p [y0, y1] = _
          rw [nums3_succ, ← hy, ← hx]
        rw [← hx] at hk1 hgb
        clear hx
        simp only at hgb
        clear hy
        have hps : p + n ≤ (l0.length : Int) := by omega
        have hps0 : 0 ≤ p + n := by omega
        have A1_ := Aside0.mk hk1
        clear hk1
        have HPS := Aside0.mk hps
        have HPS0 := Aside0.mk hps0
        have HRM := Aside0.mk hroom
        clear hps hps0 hgb hpl
        have HN2 := Aside0.mk (HN.out.trans HS)
        clear HN HS
        have q0 := eq_true hp0
        have q1 := eq_true hp1
        by_cases ce : e1 = 0
        · subst ce
          rw [if_pos rfl] at HN2
          have hcz : wr.cell? ⟨g7, 2, none⟩ = some (.int .i64 0) := (blk_cell BK7.out 2).trans rfl
          have hfz := blk_frozen BK7.out 2
          go_wp2_with (first | (go_at_call 22; (with_reducible refine (num_Get.calls k1 A1 c1 y x n 0 _ (hrd _ (Kd.C_below HR0.out HB.out)) hroom A1_.out).mono ?_); rintro e w' ⟨rfl, ⟨nd1, rfl⟩⟩))
          go_roundw
          case rel => exact ⟨3, p + n, [y0, y1] ++ [x], by first | rfl | (go_num; done) | (rw [w64 (by have := HPS0.out; omega) (by have := HPS.out; omega)]), by first | rfl | go_num, by omega, rfl, HPS0.out, HPS.out, HN2, ⟨blk_put (cs := #[.int .i64 y0, .int .i64 y1, .int .i64 0]) (blk_drewN BK7.out _) 2 _ rfl⟩, ⟨blk_far (blk_drewN BK2.out _) hne _⟩, ⟨below_set (pw_below_drewN HB.out _) GE7.out⟩⟩
          case measure => simp [slotNat]; try omega
        · have ceb : (e1 != 0) = true := bne_iff_ne.mpr ce
          have ceb0 : (e1 == 0) = false := beq_eq_false_iff_ne.mpr ce
          rw [if_neg ce] at HN2
          clear ce
          have hcz0 : wr.cell? ⟨g2, 0, none⟩ = some (.string (⟨#[]⟩ : ByteArray)) := (blk_cell BK2.out 0).trans rfl
          have hcz1 : wr.cell? ⟨g2, 1, none⟩ = some (.int .i64 0) := (blk_cell BK2.out 1).trans rfl
          have hcz2 : wr.cell? ⟨g2, 2, none⟩ = some (.int .i64 0) := (blk_cell BK2.out 2).trans rfl
          have hcz3 : wr.cell? ⟨g2, 3, none⟩ = some (.int .i64 0) := (blk_cell BK2.out 3).trans rfl
          have hfz0 := blk_frozen BK2.out 0
          have hfz1 := blk_frozen BK2.out 1
          have hfz2 := blk_frozen BK2.out 2
          have hfz3 := blk_frozen BK2.out 3
          go_wp2_with (first | (go_at_call 22; (with_reducible refine (num_Get.calls k1 A1 c1 y x n e1 _ (hrd _ (Kd.C_below HR0.out HB.out)) hroom A1_.out).mono ?_); rintro e w' ⟨rfl, ⟨nd1, rfl⟩⟩))
          refine bodyPost_ret (results_ct rfl _ _ g2 32 #[.string (⟨#[]⟩ : ByteArray), .int .i64 0, .int .i64 0, .int .i64 0] (0, 0) _ rfl (by refine blk_put (cs := #[.string (⟨#[]⟩ : ByteArray), .int .i64 0, .int .i64 0, .int .i64 0]) ?_ 3 _ rfl; refine blk_put (cs := #[.string (⟨#[]⟩ : ByteArray), .int .i64 0, .int .i64 0, .int .i64 0]) ?_ 2 _ rfl; refine blk_put (cs := #[.string (⟨#[]⟩ : ByteArray), .int .i64 0, .int .i64 0, .int .i64 0]) ?_ 1 _ rfl; refine blk_put (cs := #[.string (⟨#[]⟩ : ByteArray), .int .i64 0, .int .i64 0, .int .i64 0]) ?_ 0 _ rfl; exact (blk_drewN BK2.out _)) Try.underlying32 rfl (by kernel_rfl)) rfl ?_
          refine ⟨?_, below_set (below_set (below_set (below_set (pw_below_drewN HB.out _) GE2.out) GE2.out) GE2.out) GE2.out⟩
          rw [HN2.out]
          rfl
      · obtain ⟨y0, y1, y2, rfl⟩ : ∃ a b c, acc = [a, b, c] := by match acc, hacc with | [a, b, c], _ => exact ⟨a, b, c, rfl⟩
        clear hacc
        replace BK7 : Aside0 (wr.heap[g7]? = some (.cells #[.int .i64 y0, .int .i64 y1, .int .i64 y2] 61 (0, 0))) := ⟨BK7.out⟩
        have hca0 : wr.cell? ⟨g7, 0, none⟩ = some (.int .i64 y0) := (blk_cell BK7.out 0).trans rfl
        have hca1 : wr.cell? ⟨g7, 1, none⟩ = some (.int .i64 y1) := (blk_cell BK7.out 1).trans rfl
        have hca2 : wr.cell? ⟨g7, 2, none⟩ = some (.int .i64 y2) := (blk_cell BK7.out 2).trans rfl
        have hcz0 : wr.cell? ⟨g2, 0, none⟩ = some (.string (⟨#[]⟩ : ByteArray)) := (blk_cell BK2.out 0).trans rfl
        have hcz1 : wr.cell? ⟨g2, 1, none⟩ = some (.int .i64 0) := (blk_cell BK2.out 1).trans rfl
        have hcz2 : wr.cell? ⟨g2, 2, none⟩ = some (.int .i64 0) := (blk_cell BK2.out 2).trans rfl
        have hcz3 : wr.cell? ⟨g2, 3, none⟩ = some (.int .i64 0) := (blk_cell BK2.out 3).trans rfl
        have hfz0 := blk_frozen BK2.out 0
        have hfz1 := blk_frozen BK2.out 1
        have hfz2 := blk_frozen BK2.out 2
        have hfz3 := blk_frozen BK2.out 3
        have HN2 := Aside0.mk (show nums3 l0 3 t [] = some ([y0, y1, y2], p) from HN.out.trans rfl)
        clear HN
        go_wp2
        refine bodyPost_ret (results_ct rfl _ _ g2 32 #[.string s, .int .i64 y0, .int .i64 y1, .int .i64 y2] (0, 0) _ rfl (by refine blk_put (cs := #[.string s, .int .i64 y0, .int .i64 y1, .int .i64 0]) ?_ 3 _ rfl; refine blk_put (cs := #[.string s, .int .i64 y0, .int .i64 0, .int .i64 0]) ?_ 2 _ rfl; refine blk_put (cs := #[.string s, .int .i64 0, .int .i64 0, .int .i64 0]) ?_ 1 _ rfl; refine blk_put (cs := #[.string (⟨#[]⟩ : ByteArray), .int .i64 0, .int .i64 0, .int .i64 0]) ?_ 0 _ rfl; exact BK2.out) Try.underlying32 rfl (by kernel_rfl)) rfl ?_
        refine ⟨?_, below_set (below_set (below_set (below_set HB.out GE2.out) GE2.out) GE2.out) GE2.out⟩
        rw [HN2.out]
        rfl
  · rw [if_neg c0_]
    have ceb : (e0 != 0) = true := bne_iff_ne.mpr c0_
    have ceb0 : (e0 == 0) = false := beq_eq_false_iff_ne.mpr c0_
    clear c0_ hbd
    go_enter Try.func23, Try.ntmps23
    go_wp2_with (first
      | ((with_reducible refine gate_dst (N := 2) rfl ?_); refine box_event ?hg (N := 2) ?hd (cs := #[.string (⟨#[]⟩ : ByteArray), .int .i64 0, .int .i64 0, .int .i64 0]) (t := 32) ?hr ?_; (case hd => rfl); (case hg => rfl); (case hr => first | (go_simp; done) | (go_simp; rfl)); intro g2 hg w7 hbox hb_; have n0_ := Aside0.mk (below_step HB.out hb_); have n2_ := Aside0.mk hbox; have n3_ := Aside0.mk (show w.heap.size ≤ g2 by rw [hg]; exact Nat.le_refl _); clear HB; have HB := n0_; have BK2 := n2_; have GE2 := n3_; clear n0_ n2_ n3_; clear hbox hg hb_; have hcz0 : w7.cell? ⟨g2, 0, none⟩ = some (.string (⟨#[]⟩ : ByteArray)) := (blk_cell BK2.out 0).trans rfl; have hcz1 : w7.cell? ⟨g2, 1, none⟩ = some (.int .i64 0) := (blk_cell BK2.out 1).trans rfl; have hcz2 : w7.cell? ⟨g2, 2, none⟩ = some (.int .i64 0) := (blk_cell BK2.out 2).trans rfl; have hcz3 : w7.cell? ⟨g2, 3, none⟩ = some (.int .i64 0) := (blk_cell BK2.out 3).trans rfl; have hfz0 := blk_frozen BK2.out 0; have hfz1 := blk_frozen BK2.out 1; have hfz2 := blk_frozen BK2.out 2; have hfz3 := blk_frozen BK2.out 3)
      | (go_at_call 30; (with_reducible refine (num_GetText.calls k0 A0 c0 l0 s t e0 _ (Kd.C_below HR0.out HB.out) HC0.out A0_.out).mono ?_); rintro e w' ⟨rfl, ⟨nd, rfl⟩⟩))
    refine bodyPost_ret (results_ct rfl _ _ g2 32 #[.string (⟨#[]⟩ : ByteArray), .int .i64 0, .int .i64 0, .int .i64 0] (0, 0) _ rfl (by refine blk_put (cs := #[.string (⟨#[]⟩ : ByteArray), .int .i64 0, .int .i64 0, .int .i64 0]) ?_ 3 _ rfl; refine blk_put (cs := #[.string (⟨#[]⟩ : ByteArray), .int .i64 0, .int .i64 0, .int .i64 0]) ?_ 2 _ rfl; refine blk_put (cs := #[.string (⟨#[]⟩ : ByteArray), .int .i64 0, .int .i64 0, .int .i64 0]) ?_ 1 _ rfl; refine blk_put (cs := #[.string (⟨#[]⟩ : ByteArray), .int .i64 0, .int .i64 0, .int .i64 0]) ?_ 0 _ rfl; exact (blk_drewN BK2.out _)) Try.underlying32 rfl (by kernel_rfl)) rfl ?_
    refine ⟨rfl, below_set (below_set (below_set (below_set (pw_below_drewN HB.out _) GE2.out) GE2.out) GE2.out) GE2.out⟩
end Go.Proofs.Ytoffcgdamcchcaa.GL

/- package dir in plain Lean: which lists may be; a list's bytes. -/
set_option linter.unusedVariables false
set_option linter.unusedSimpArgs false
namespace Go.Proofs.Ytoffcgdamcchcaa.Q
open Go.RowKit Go.Proofs.YtoffcgdamcchcaaW.PrintWords Go.Proofs.YtoffcgdamcchcaaW.PrintMore Go.Proofs.Ytoffcgdamcchcaa.XDir Go.Proofs.Ytoffcgdamcchcaa.GL
def OkE (x : Ent) : Prop := 1 ≤ x.f0.size ∧ x.f0.size ≤ 20 ∧ 0 ≤ x.f1 ∧ x.f1 ≤ 65536 ∧ x.f2.f1 = (x.f1 + 63) / 64 ∧ 0 ≤ x.f2.f0 ∧ x.f2.f0 ≤ 2048 ∧ (0 < x.f1 ∨ x.f2.f0 = 0)
instance (x : Ent) : Decidable (OkE x) := by unfold OkE; infer_instance
abbrev ra (l : List Ent) (i : Nat) : Ent := rd_T32 l (i : Int)
def stepE (l : List Ent) (i : Nat) : Bool := decide (OkE (ra l i)) && (i == 0 || Op.bytesLess (ra l (i - 1)).f0.toList (ra l i).f0.toList)
/-- The last d entries, and how many there are at all. -/
def mayA (l : List Ent) : Nat → Bool
  | 0 => decide (l.length ≤ 32)
  | d + 1 => stepE l (l.length - (d + 1)) && mayA l d
def mayD (l : List Ent) : Bool := mayA l l.length
theorem sect (x : Int) (h0 : 0 ≤ x) (h1 : x ≤ 65536) : wrap64 (Int.tdiv (wrap64 ((wrap64 (x + 64)) - 1)) 64) = (x + 63) / 64 := by
  rw [w64 (x := x + 64) (by omega) (by omega), w64 (x := x + 64 - 1) (by omega) (by omega)]
  have e : Int.tdiv (x + 64 - 1) 64 = (x + 63) / 64 := by
    rw [Int.tdiv_eq_ediv_of_nonneg (by omega)]
    congr 1
    omega
  rw [e, w64 (by omega) (by omega)]
theorem dir_may_eq (x : Ent) : dir_may.f x.f0 x.f1 x.f2.f0 x.f2.f1 = some (decide (OkE x)) := by
  unfold dir_may.f
  by_cases h1 : (x.f0.size : Int) < 1
  · rw [if_pos h1, decide_eq_false (fun h => by unfold OkE at h; omega)]
  rw [if_neg h1]
  by_cases h2 : (x.f0.size : Int) > 20
  · rw [if_pos h2, decide_eq_false (fun h => by unfold OkE at h; omega)]
  rw [if_neg h2]
  by_cases h3 : x.f1 < 0
  · rw [if_pos h3, decide_eq_false (fun h => by unfold OkE at h; omega)]
  rw [if_neg h3]
  by_cases h4 : x.f1 > 65536
  · rw [if_pos h4, decide_eq_false (fun h => by unfold OkE at h; omega)]
  rw [if_neg h4]
  unfold dir_Sectors.f
  rw [Option.bind_some, sect x.f1 (by omega) (by omega)]
  by_cases h5 : x.f2.f1 = (x.f1 + 63) / 64
  · rw [if_pos h5]
    by_cases h6 : x.f2.f0 ≥ 0
    · rw [if_pos h6]
      by_cases h7 : x.f2.f0 ≤ 2048
      · rw [if_pos h7]
        by_cases h8 : x.f1 > 0
        · rw [if_pos h8, decide_eq_true (by unfold OkE; omega)]
        · rw [if_neg h8]
          by_cases h9 : x.f2.f0 = 0
          · rw [decide_eq_true (by unfold OkE; omega), h9]; rfl
          · rw [decide_eq_false (fun h => by unfold OkE at h; omega)]
            simp [h9]
      · rw [if_neg h7, decide_eq_false (fun h => by unfold OkE at h; omega)]
    · rw [if_neg h6, decide_eq_false (fun h => by unfold OkE at h; omega)]
  · rw [if_neg h5, decide_eq_false (fun h => by unfold OkE at h; omega)]
theorem dir_May_l (l : List Ent) (hl : l.length ≤ 9223372036854775807) : ∀ (d i : Nat), i + d = l.length → Ev (fun k => dir_May.l0 k l l (l.length : Int) (i : Int)) (mayA l d) := by
  intro d
  induction d with
  | zero =>
    intro i h
    refine Ev.step (f := fun _ => some (mayA l 0)) (fun k => ?_) (Ev.now _)
    simp only [dir_May.l0]
    rw [if_neg (by omega)]
    unfold mayA
    congr 1
    exact decide_eq_decide.2 (by omega)
  | succ d ih =>
    intro i h
    have hrec := ih (i + 1) (by omega)
    have hi : l.length - (d + 1) = i := by omega
    refine Ev.step (fun k => by simp only [dir_May.l0]; rfl) ?_
    refine Ev.congr (fun k => if_pos (by omega)) (Ev.congr (fun k => if_pos (by omega)) (Ev.congr (fun k => if_pos (by omega)) ?_))
    refine Ev.bind (evC (dir_may_eq (ra l i))) ?_
    unfold mayA stepE
    rw [hi]
    by_cases h1 : OkE (ra l i)
    · rw [decide_eq_true h1]
      refine Ev.congr (fun k => if_pos rfl) ?_
      rw [w64 (x := (i : Int) + 1) (by omega) (by omega)]
      by_cases h2 : i = 0
      · subst h2
        refine Ev.congr (fun k => if_neg (by omega)) ?_
        exact hrec
      · refine Ev.congr (fun k => if_pos (by omega)) ?_
        have e : ((i : Int) - 1) = ((i - 1 : Nat) : Int) := by omega
        rw [w64 (x := (i : Int) - 1) (by omega) (by omega), e]
        refine Ev.congr (fun k => if_pos (by omega)) (Ev.congr (fun k => if_pos (by omega)) ?_)
        have h0 : (i == 0) = false := by simp [h2]
        rw [h0, Bool.false_or, Bool.true_and]
        by_cases h3 : Op.bytesLess (ra l (i - 1)).f0.toList (ra l i).f0.toList = true
        · refine Ev.congr (fun k => if_pos h3) ?_
          rw [h3]
          exact hrec
        · refine Ev.congr (fun k => if_neg h3) (evC ?_)
          rw [Bool.eq_false_iff.2 h3]
          rfl
    · rw [decide_eq_false h1]
      exact Ev.congr (fun k => if_neg (by simp)) (Ev.now _)
theorem dir_May_ev (l : List Ent) (hl : l.length ≤ 9223372036854775807) : Ev (fun k => dir_May.f k l) (mayD l) := dir_May_l l hl l.length 0 (by omega)
theorem mayA_ok (l : List Ent) : ∀ d, d ≤ l.length → mayA l d = true → l.length ≤ 32 ∧ ∀ i, l.length - d ≤ i → i < l.length → stepE l i = true := by
  intro d
  induction d with
  | zero => intro _ h; exact ⟨of_decide_eq_true h, fun i h1 h2 => by omega⟩
  | succ d ih =>
    intro hd h
    unfold mayA at h
    rw [Bool.and_eq_true] at h
    obtain ⟨h1, h2⟩ := ih (by omega) h.2
    refine ⟨h1, fun i h3 h4 => ?_⟩
    by_cases e : i = l.length - (d + 1)
    · rw [e]; exact h.1
    · exact h2 i (by omega) h4
theorem mayD_iff (l : List Ent) : mayD l = true ↔ l.length ≤ 32 ∧ ∀ i, i < l.length → stepE l i = true := by
  constructor
  · intro h
    obtain ⟨h1, h2⟩ := mayA_ok l l.length (Nat.le_refl _) h
    exact ⟨h1, fun i hi => h2 i (by omega) hi⟩
  · rintro ⟨h1, h2⟩
    have : ∀ d, d ≤ l.length → mayA l d = true := by
      intro d
      induction d with
      | zero => intro _; exact decide_eq_true h1
      | succ d ih =>
        intro hd
        unfold mayA
        rw [h2 _ (by omega), ih (by omega)]
        rfl
    exact this _ (Nat.le_refl _)
theorem stepE_ok {l : List Ent} {i : Nat} (h : stepE l i = true) : OkE (ra l i) := by
  unfold stepE at h
  rw [Bool.and_eq_true] at h
  exact of_decide_eq_true h.1
theorem ra_mem {l : List Ent} {x : Ent} (h : x ∈ l) : ∃ i, i < l.length ∧ ra l i = x := by
  obtain ⟨i, hi, e⟩ := List.mem_iff_getElem.1 h
  exact ⟨i, hi, by simp [rd_T32, hi, e]⟩
theorem mayD_mem {l : List Ent} (h : mayD l = true) : ∀ x ∈ l, OkE x := by
  intro x hx
  obtain ⟨i, hi, rfl⟩ := ra_mem hx
  exact stepE_ok (((mayD_iff l).1 h).2 i hi)
/-- An entry's bytes; a list's. -/
def encE (x : Ent) : List Int := putT x.f0 ++ putN x.f1 ++ putN x.f2.f0 ++ putN x.f2.f1
def encP (l : List Ent) (i : Nat) : List Int := putN l.length ++ (l.take i).flatMap encE
def encD (l : List Ent) : List Int := putN l.length ++ l.flatMap encE
def encO (l : List Ent) : List Int := if mayD l = true then encD l else []
theorem ok_i64 {x : Ent} (h : OkE x) : I64 x.f1 ∧ I64 x.f2.f0 ∧ I64 x.f2.f1 := by
  unfold OkE at h
  unfold I64
  omega
theorem encE_len {x : Ent} (h : OkE x) : (encE x).length ≤ 60 := by
  obtain ⟨h1, h2, h3⟩ := ok_i64 h
  have a1 := putN_len h1
  have a2 := putN_len h2
  have a3 := putN_len h3
  have a4 := putN_len (n := (x.f0.size : Int)) (by unfold OkE at h; unfold I64; omega)
  unfold encE putT
  simp only [List.length_append, bytesOf_length]
  unfold OkE at h
  omega
theorem flat_len {l : List Ent} (h : ∀ x ∈ l, OkE x) : (l.flatMap encE).length ≤ 60 * l.length := by
  induction l with
  | nil => simp
  | cons x r ih =>
    have := encE_len (h x List.mem_cons_self)
    have := ih (fun y hy => h y (List.mem_cons_of_mem _ hy))
    simp only [List.flatMap_cons, List.length_append, List.length_cons]
    omega
theorem encP_len {l : List Ent} (h : mayD l = true) (i : Nat) : (encP l i).length ≤ 2000 := by
  have h1 := ((mayD_iff l).1 h).1
  have h2 := flat_len (l := l.take i) (fun x hx => mayD_mem h x (List.mem_of_mem_take hx))
  have h3 := putN_len (n := (l.length : Int)) (by unfold I64; omega)
  have h4 : (l.take i).length ≤ l.length := by rw [List.length_take]; omega
  unfold encP
  rw [List.length_append]
  omega
theorem encP_step {l : List Ent} {i : Nat} (h : i < l.length) : encP l (i + 1) = encP l i ++ putT (ra l i).f0 ++ putN (ra l i).f1 ++ putN (ra l i).f2.f0 ++ putN (ra l i).f2.f1 := by
  have e : ra l i = l[i] := by simp [rd_T32, h]
  unfold encP
  rw [List.take_succ_eq_append_getElem h, List.flatMap_append, e]
  simp [encE, List.append_assoc]
theorem encP_end (l : List Ent) {i : Nat} (h : l.length ≤ i) : encP l i = encD l := by
  unfold encP encD
  rw [List.take_of_length_le h]
end Go.Proofs.Ytoffcgdamcchcaa.Q

/- dir.Encode by hand. -/
-- GIVEN loess/dir.Encode 1 late
namespace Go.Proofs.Ytoffcgdamcchcaa.GL
open Go.RowKit Go.Proofs.YtoffcgdamcchcaaW.PrintWords Go.Proofs.YtoffcgdamcchcaaW.PrintLast Go.Proofs.YtoffcgdamcchcaaW.PrintMore Go.Proofs.Ytoffcgdamcchcaa.XDir Go.Proofs.Ytoffcgdamcchcaa.Q
set_option linter.unusedVariables false
set_option linter.unusedSimpArgs false
def accE (B : List Int) (x : Ent) : Nat → List Int
  | 0 => B
  | 1 => B ++ putN x.f1
  | 2 => B ++ putN x.f1 ++ putN x.f2.f0
  | _ => B ++ putN x.f1 ++ putN x.f2.f0 ++ putN x.f2.f1
def dir_Encode.f (l0 : List Ent) : Option (List Int) := some (encO l0)
set_option maxRecDepth 1000000 in
set_option maxHeartbeats 8000000 in
theorem dir_Encode_nil (A0 : Option Addr) (c0 : Nat) (l0 : List Ent) (w : World) (hr0 : Kd.C k32 w A0 l0.length l0) (hc0 : l0.length ≤ c0) :
    Calls Try.prog 10 #[.slice A0 l0.length c0] w fun e w' => ∃ v0_ : Value, e = .returned (v0_) ∧ (Kd.R (Kd.int .u8) 5 w' w.heap.size (fun _ => True) v0_ (encO l0) ∧ Below w.heap.size w w') ∧ (mayD l0 = false → v0_ = .slice none 0 0) := by
  have hu := Try.underlying32
  have hua := Try.underlying46
  have hbig := hr0.2.1
  have HR0 := Aside0.mk hr0
  have HC0 := Aside0.mk hc0
  clear hr0 hc0
  have HB := Aside0.mk (Below.refl w.heap.size w)
  obtain ⟨k0, hk0⟩ := Ev.rounds (dir_May_ev l0 hbig)
  have A0_ := Aside0.mk hk0
  clear hk0
  by_cases hm : mayD l0 = true
  · have hle := ((mayD_iff l0).1 hm).1
    have HM := Aside0.mk hm
    rw [hm] at A0_
    obtain ⟨k1, hk1⟩ := Ev.rounds (num_Put_ev (n := (l0.length : Int)) (by unfold I64; omega) [] (by simp))
    have A1_ := Aside0.mk (show num_Put.f k1 [] (l0.length : Int) = some (encP l0 0) by rw [hk1]; simp [encP])
    clear hk1 hm
    go_enter Try.func10, Try.ntmps10
    go_wp2_with (first
      | (go_at_call 11; (with_reducible refine (dir_May.calls k0 A0 c0 l0 true _ (Kd.C_below HR0.out HB.out) HC0.out A0_.out).mono ?_); rintro e w1 ⟨rfl, hb⟩; have n0_ := Aside0.mk (below_step HB.out hb); clear HB; have HB := n0_; clear n0_ hb)
      | (go_at_call 19; (with_reducible refine (num_Put.calls k1 (fun _ => True) (.slice none 0 0) [] (l0.length : Int) (encP l0 0) w _ HB.out (Kd.R_nil _ _ _ _ _) A1_.out).mono ?_); rintro e w2 ⟨v, rfl, hR, hb, hk⟩; have HO := Aside0.mk (Kd.R_mono hR (fun _ _ => trivial) (ok' := fun _ => True)); clear HB; have HB := Aside0.mk hb; clear hb hk hR))
    go_loopw [3, 16] (fun v3 v16 wr => ∃ (i : Nat), v16 = .int .i64 i ∧ i ≤ l0.length ∧ Aside0 (Kd.R (Kd.int .u8) 5 wr w.heap.size (fun _ => True) v3 (encP l0 i)) ∧ Aside0 (Below w.heap.size w wr)) (fun _ v _ => l0.length - slotNat v)
    case atStart => exact ⟨0, rfl, Nat.zero_le _, HO, HB⟩
    case round =>
      clear HB HO
      obtain ⟨i, rfl, hi, HO, HB⟩ := hrel
      by_cases hlt : i < l0.length
      · have hltz : (i : Int) < (l0.length : Int) := by omega
        have h0z : (0 : Int) ≤ (i : Int) := by omega
        have hok : OkE (rd_T32 l0 (i : Int)) := stepE_ok (((mayD_iff l0).1 HM.out).2 i hlt)
        have HL := Aside0.mk (encP_len HM.out i)
        have HST := Aside0.mk (encP_step hlt)
        obtain ⟨ad, e, h0, h1, h2, h3⟩ := at_T32 HR0.out (i : Int) h0z hltz
        cases e
        replace h0 := (HB.out.cell (World.block_lt_of_cell? w _ h0)).trans h0
        replace h1 := (HB.out.cell (World.block_lt_of_cell? w _ h1)).trans h1
        replace h2 := (HB.out.cell (World.block_lt_of_cell? w _ h2)).trans h2
        replace h3 := (HB.out.cell (World.block_lt_of_cell? w _ h3)).trans h3
        simp only [Int.toNat_natCast] at h0 h1 h2 h3
        obtain ⟨i1, i2, i3⟩ := ok_i64 hok
        have hsz : (rd_T32 l0 (i : Int)).f0.size ≤ 20 := hok.2.1
        replace HST := Aside0.mk (show encP l0 (i + 1) = accE (encP l0 i ++ putT (rd_T32 l0 (i : Int)).f0) (rd_T32 l0 (i : Int)) 3 from HST.out)
        obtain ⟨x, hx⟩ : ∃ x, x = rd_T32 l0 (i : Int) := ⟨_, rfl⟩
        rw [← hx] at HST h0 h1 h2 h3 i1 i2 i3 hsz
        clear hx hok
        have p1 := putN_len i1
        have p2 := putN_len i2
        have p4 := putN_len (n := (x.f0.size : Int)) (by unfold I64; omega)
        obtain ⟨k2, hk2⟩ := Ev.rounds (num_PutText_ev (s := x.f0) (by omega) (encP l0 i) (by have := HL.out; omega))
        obtain ⟨B, hB⟩ : ∃ B, B = encP l0 i ++ putT x.f0 := ⟨_, rfl⟩
        have hBl : B.length ≤ 2100 := by
          have := HL.out
          rw [hB]
          unfold putT
          simp only [List.length_append, bytesOf_length]
          omega
        rw [← hB] at HST hk2
        clear hB
        obtain ⟨k3, hk3⟩ := Ev.rounds (num_Put_ev i1 B (by omega))
        obtain ⟨k4, hk4⟩ := Ev.rounds (num_Put_ev i2 (B ++ putN x.f1) (by rw [List.length_append]; omega))
        obtain ⟨k5, hk5⟩ := Ev.rounds (num_Put_ev i3 (B ++ putN x.f1 ++ putN x.f2.f0) (by rw [List.length_append, List.length_append]; omega))
        have A2_ := Aside0.mk hk2
        have A3_ := Aside0.mk (show num_Put.f k3 (accE B x 0) x.f1 = some (accE B x 1) from hk3)
        have A4_ := Aside0.mk (show num_Put.f k4 (accE B x 1) x.f2.f0 = some (accE B x 2) from hk4)
        have A5_ := Aside0.mk (show num_Put.f k5 (accE B x 2) x.f2.f1 = some (accE B x 3) from hk5)
        clear hk2 hk3 hk4 hk5 p1 p2 p4 i1 i2 i3 hsz hBl
        replace h0z := eq_true h0z
        go_wp2_with (first
          | ((with_reducible refine gate_dst (N := 5) rfl ?_); refine box_event ?hg (N := 5) ?hd (cs := #[.string (⟨#[]⟩ : ByteArray), .int .i64 0, .int .i64 0, .int .i64 0]) (t := 32) ?hr ?_; (case hd => rfl); (case hg => rfl); (case hr => first | (go_simp; done) | (go_simp; rfl)); intro g5 hg w7 hbox hb; have n0_ := Aside0.mk (Kd.R_below (Kd.R_elderB HO.out g5 (Nat.le_of_eq hg.symm)) hb); have n1_ := Aside0.mk (below_step HB.out hb); have n2_ := Aside0.mk hbox; have n3_ := Aside0.mk (show w.heap.size ≤ g5 by rw [hg]; exact HB.out.size); clear HO; clear HB; have HO := n0_; have HB := n1_; have BK5 := n2_; have GE5 := n3_; clear n0_ n1_ n2_ n3_; clear hb hbox hg; have hcz0 : w7.cell? ⟨g5, 0, none⟩ = some (.string (⟨#[]⟩ : ByteArray)) := (blk_cell BK5.out 0).trans rfl; have hcz1 : w7.cell? ⟨g5, 1, none⟩ = some (.int .i64 0) := (blk_cell BK5.out 1).trans rfl; have hcz2 : w7.cell? ⟨g5, 2, none⟩ = some (.int .i64 0) := (blk_cell BK5.out 2).trans rfl; have hcz3 : w7.cell? ⟨g5, 3, none⟩ = some (.int .i64 0) := (blk_cell BK5.out 3).trans rfl; have hfz0 := blk_frozen BK5.out 0; have hfz1 := blk_frozen BK5.out 1; have hfz2 := blk_frozen BK5.out 2; have hfz3 := blk_frozen BK5.out 3)
          | (go_at_call 20; (with_reducible refine (num_PutText.calls k2 (fun k => True ∧ k ≠ g5) _ (encP l0 i) x.f0 B w _ (below_set (below_set (below_set (below_set HB.out GE5.out) GE5.out) GE5.out) GE5.out) (Kd.R_far (p := ⟨g5, 3, none⟩) (Kd.R_far (p := ⟨g5, 2, none⟩) (Kd.R_far (p := ⟨g5, 1, none⟩) (Kd.R_far (p := ⟨g5, 0, none⟩) HO.out (fun _ h => h.2) _) (fun _ h => h.2) _) (fun _ h => h.2) _) (fun _ h => h.2) _) A2_.out).mono ?_); rintro e w8 ⟨v8, rfl, hR, hb, hk⟩; have n0_ := Aside0.mk (Kd.R_mono hR (fun _ _ => trivial) (ok' := fun _ => True)); have n1_ := Aside0.mk hb; have n2_ : Aside0 (w8.heap[g5]? = some (.cells #[.string x.f0, .int .i64 x.f1, .int .i64 x.f2.f0, .int .i64 x.f2.f1] 32 (0, 0))) := ⟨blk_kept (by refine blk_put (cs := #[.string x.f0, .int .i64 x.f1, .int .i64 x.f2.f0, .int .i64 0]) ?_ 3 _ rfl; refine blk_put (cs := #[.string x.f0, .int .i64 x.f1, .int .i64 0, .int .i64 0]) ?_ 2 _ rfl; refine blk_put (cs := #[.string x.f0, .int .i64 0, .int .i64 0, .int .i64 0]) ?_ 1 _ rfl; refine blk_put (cs := #[.string (⟨#[]⟩ : ByteArray), .int .i64 0, .int .i64 0, .int .i64 0]) ?_ 0 _ rfl; exact BK5.out) hk (fun h => h.2 rfl)⟩; clear HO HB BK5 hcz0 hcz1 hcz2 hcz3 hfz0 hfz1 hfz2 hfz3; have HO := n0_; have HB := n1_; have BK5 := n2_; clear n0_ n1_ n2_ hR hb hk; have hcz1 : w8.cell? ⟨g5, 1, none⟩ = some (.int .i64 x.f1) := (blk_cell BK5.out 1).trans rfl; have hcz2 : w8.cell? ⟨g5, 2, none⟩ = some (.int .i64 x.f2.f0) := (blk_cell BK5.out 2).trans rfl; have hcz3 : w8.cell? ⟨g5, 3, none⟩ = some (.int .i64 x.f2.f1) := (blk_cell BK5.out 3).trans rfl))
        clear hcz1 hcz2 hcz3 BK5
        have hix0 : ∀ W : World, (Instr.index 46 (.agg #[.int .i64 x.f1, .int .i64 x.f2.f0, .int .i64 x.f2.f1]) (.int .i64 0)).run Try.prog W = .ok (.int .i64 x.f1) W := fun _ => rfl
        have hix1 : ∀ W : World, (Instr.index 46 (.agg #[.int .i64 x.f1, .int .i64 x.f2.f0, .int .i64 x.f2.f1]) (.int .i64 1)).run Try.prog W = .ok (.int .i64 x.f2.f0) W := fun _ => rfl
        have hix2 : ∀ W : World, (Instr.index 46 (.agg #[.int .i64 x.f1, .int .i64 x.f2.f0, .int .i64 x.f2.f1]) (.int .i64 2)).run Try.prog W = .ok (.int .i64 x.f2.f1) W := fun _ => rfl
        go_loopw [3, 33] (fun v3 v33 wq => ∃ (j : Nat), v33 = .int .i64 j ∧ j ≤ 3 ∧ Aside0 (Kd.R (Kd.int .u8) 5 wq w.heap.size (fun _ => True) v3 (accE B x j)) ∧ Aside0 (Below w.heap.size w wq)) (fun _ v _ => 3 - slotNat v)
        case atStart => exact ⟨0, rfl, by omega, HO, HB⟩
        case round =>
          clear HB HO
          obtain ⟨j, rfl, hj, HO, HB⟩ := hrel
          have hcases : j = 0 ∨ j = 1 ∨ j = 2 ∨ j = 3 := by omega
          clear hj
          rcases hcases with rfl | rfl | rfl | rfl
          · go_wp2_with (first
              | (go_at_call 19; (with_reducible refine (num_Put.calls k3 (fun _ => True) _ (accE B x 0) x.f1 (accE B x 1) w _ HB.out HO.out A3_.out).mono ?_); rintro e w4 ⟨v4, rfl, hR, hb, hk⟩; have n0_ := Aside0.mk (Kd.R_mono hR (fun _ _ => trivial) (ok' := fun _ => True)); clear HO HB; have HO := n0_; have HB := Aside0.mk hb; clear n0_ hR hb hk))
            go_roundw
            case rel => exact ⟨1, by first | rfl | go_num, by omega, HO, HB⟩
            case measure => simp [slotNat]
          · go_wp2_with (first
              | (go_at_call 19; (with_reducible refine (num_Put.calls k4 (fun _ => True) _ (accE B x 1) x.f2.f0 (accE B x 2) w _ HB.out HO.out A4_.out).mono ?_); rintro e w4 ⟨v4, rfl, hR, hb, hk⟩; have n0_ := Aside0.mk (Kd.R_mono hR (fun _ _ => trivial) (ok' := fun _ => True)); clear HO HB; have HO := n0_; have HB := Aside0.mk hb; clear n0_ hR hb hk))
            go_roundw
            case rel => exact ⟨2, by first | rfl | go_num, by omega, HO, HB⟩
            case measure => simp [slotNat]
          · go_wp2_with (first
              | (go_at_call 19; (with_reducible refine (num_Put.calls k5 (fun _ => True) _ (accE B x 2) x.f2.f1 (accE B x 3) w _ HB.out HO.out A5_.out).mono ?_); rintro e w4 ⟨v4, rfl, hR, hb, hk⟩; have n0_ := Aside0.mk (Kd.R_mono hR (fun _ _ => trivial) (ok' := fun _ => True)); clear HO HB; have HO := n0_; have HB := Aside0.mk hb; clear n0_ hR hb hk))
            go_roundw
            case rel => exact ⟨3, by first | rfl | go_num, by omega, HO, HB⟩
            case measure => simp [slotNat]
          · go_wp2
            go_roundw
            case rel => exact ⟨i + 1, by first | rfl | go_num, by omega, ⟨by rw [HST.out]; exact HO.out⟩, HB⟩
            case measure => simp [slotNat]; omega
      · have hltz : ¬ (i : Int) < (l0.length : Int) := by omega
        have HE := Aside0.mk (encP_end l0 (show l0.length ≤ i by omega))
        go_wp2
        go_ret
        refine ⟨_, rfl, ⟨?_, HB.out⟩, fun h => by rw [HM.out] at h; cases h⟩
        unfold encO
        rw [if_pos HM.out, ← HE.out]
        exact HO.out
  · have hm' : mayD l0 = false := Bool.eq_false_iff.2 hm
    rw [hm'] at A0_
    go_enter Try.func10, Try.ntmps10
    go_wp2_with (first
      | (go_at_call 11; (with_reducible refine (dir_May.calls k0 A0 c0 l0 false _ (Kd.C_below HR0.out HB.out) HC0.out A0_.out).mono ?_); rintro e w1 ⟨rfl, hb⟩; have n0_ := Aside0.mk (below_step HB.out hb); clear HB; have HB := n0_; clear n0_ hb))
    go_ret
    refine ⟨_, rfl, ⟨?_, HB.out⟩, fun _ => rfl⟩
    unfold encO
    rw [if_neg hm]
    exact Kd.R_nil _ _ _ _ _
theorem dir_Encode.calls (A0 : Option Addr) (c0 : Nat) (l0 : List Ent) (r : List Int) (w : World) (hr0 : Kd.C k32 w A0 l0.length l0) (hc0 : l0.length ≤ c0) (h : dir_Encode.f l0 = some r) :
    Calls Try.prog 10 #[.slice A0 l0.length c0] w fun e w' => ∃ v0_ : Value, e = .returned (v0_) ∧ Kd.R (Kd.int .u8) 5 w' w.heap.size (fun _ => True) v0_ r ∧ Below w.heap.size w w' := by
  obtain rfl := Option.some.inj h
  refine (dir_Encode_nil A0 c0 l0 w hr0 hc0).mono ?_
  rintro e w' ⟨v, he, h1, _⟩
  exact ⟨v, he, h1⟩
end Go.Proofs.Ytoffcgdamcchcaa.GL

/- dir.Decode by hand. -/
-- GIVEN loess/dir.Decode 1 late
namespace Go.Proofs.Ytoffcgdamcchcaa.GL
open Go.RowKit Go.Proofs.YtoffcgdamcchcaaW.PrintWords Go.Proofs.YtoffcgdamcchcaaW.PrintLast Go.Proofs.YtoffcgdamcchcaaW.PrintMore Go.Proofs.Ytoffcgdamcchcaa.XDir Go.Proofs.Ytoffcgdamcchcaa.Q
set_option linter.unusedVariables false
set_option linter.unusedSimpArgs false
theorem nil_nil (W : World) : (binOp .eql 26 (.slice none 0 0) (.slice none 0 0)).run Try.prog W = .ok (.bool true) W := by rfl
theorem some_nil (g n c : Nat) (W : World) : (binOp .eql 26 (.slice (some ⟨g, 0, none⟩) n c) (.slice none 0 0)).run Try.prog W = .ok (.bool false) W := by rfl
theorem nums3_bound (l : List Int) : ∀ (d : Nat) (p : Int) (acc r : List Int) (q : Int), 0 ≤ p → p ≤ (l.length : Int) → nums3 l d p acc = some (r, q) → p ≤ q ∧ q ≤ (l.length : Int) := by
  intro d
  induction d with
  | zero =>
    intro p acc r q h0 h1 h
    have := Prod.mk.inj (Option.some.inj h)
    omega
  | succ d ih =>
    intro p acc r q h0 h1 h
    rw [nums3_succ] at h
    split at h
    · have hb := getN_bound (l.drop p.toNat)
      rw [List.length_drop] at hb
      have := ih _ _ r q (by omega) (by omega) h
      omega
    · cases h
theorem oneD_bound (l : List Int) : 0 ≤ (oneD l).2 ∧ (oneD l).2 ≤ (l.length : Int) := by
  unfold oneD
  have hb := getT_bound l
  split
  · cases h : nums3 l 3 (getT l).2.1 [] with
    | none => simp [mkE, zE]
    | some z =>
      obtain ⟨r, q⟩ := z
      have := nums3_bound l 3 _ _ r q hb.1 hb.2.1 h
      unfold mkE
      split
      · rename_i h2
        have h3 := Prod.mk.inj (Option.some.inj h2)
        simp only
        omega
      · simp
  · simp
def readE (l : List Int) : Nat → Int → List Ent → Option (List Ent)
  | 0, _, acc => some acc
  | d + 1, p, acc => if (oneD (l.drop p.toNat)).2 = 0 then none else readE l d (p + (oneD (l.drop p.toNat)).2) (acc ++ [(oneD (l.drop p.toNat)).1])
theorem readE_succ (l : List Int) (d : Nat) (p : Int) (acc : List Ent) : readE l (d + 1) p acc = if (oneD (l.drop p.toNat)).2 = 0 then none else readE l d (p + (oneD (l.drop p.toNat)).2) (acc ++ [(oneD (l.drop p.toNat)).1]) := rfl
def finD (l : List Int) : Option (List Ent) → List Ent × Int
  | none => ([], 8)
  | some r => if mayD r = true ∧ encD r = l then (r, 0) else ([], 8)
/-- A list that is read. -/
def decD (l : List Int) : List Ent × Int := if (getN l).2.2 = 0 ∧ 0 ≤ (getN l).1 ∧ (getN l).1 ≤ 32 then finD l (readE l (getN l).1.toNat (getN l).2.1 []) else ([], 8)
theorem encE_byt (x : Ent) : Byt (encE x) := (((putT_byt _).append (putN_byt _)).append (putN_byt _)).append (putN_byt _)
theorem encD_byt (l : List Ent) : Byt (encD l) := by
  unfold encD
  refine (putN_byt _).append ?_
  induction l with
  | nil => exact Byt.nil
  | cons x r ih => exact (encE_byt x).append ih
instance (l : List Int) : Decidable (Byt l) := by unfold Byt; infer_instance
def dir_Decode.f (l0 : List Int) : Option (List Ent × Int) := if Byt l0 ∧ l0.length < 4611686018427387904 then some (decD l0) else none
set_option maxRecDepth 1000000 in
set_option maxHeartbeats 8000000 in
theorem dir_Decode.calls (A0 : Option Addr) (c0 : Nat) (l0 : List Int) (r1 : List Ent) (r2 : Int) (w : World) (hr0 : Kd.C (Kd.int .u8) w A0 l0.length l0) (hc0 : l0.length ≤ c0) (h : dir_Decode.f l0 = some (r1, r2)) :
    Calls Try.prog 13 #[.slice A0 l0.length c0] w fun e w' => ∃ v0_ : Value, e = .returned (.tuple #[v0_, .int .i64 r2]) ∧ Kd.R k32 32 w' w.heap.size (fun _ => True) v0_ r1 ∧ Below w.heap.size w w' := by
  unfold dir_Decode.f at h
  split at h
  case isFalse => cases h
  rename_i hh
  obtain ⟨hb, hl⟩ := hh
  have hD := Option.some.inj h
  clear h
  have hu := Try.underlying32
  have hnn := nil_nil
  have hsn := some_nil
  have HR0 := Aside0.mk hr0
  have HC0 := Aside0.mk hc0
  clear hr0 hc0
  have HB := Aside0.mk (Below.refl w.heap.size w)
  obtain ⟨k0, hk0⟩ := Ev.rounds (num_Get_ev hb (by omega))
  have hgb := getN_bound l0
  unfold decD at hD
  obtain ⟨⟨n, q, e0⟩, hx⟩ : ∃ z, z = getN l0 := ⟨_, rfl⟩
  rw [← hx] at hk0 hgb hD
  clear hx
  simp only at hgb hD
  have A0_ := Aside0.mk hk0
  clear hk0
  by_cases ce : e0 = 0
  case neg =>
    have ceb : (e0 != 0) = true := bne_iff_ne.mpr ce
    have ceb0 : (e0 == 0) = false := beq_eq_false_iff_ne.mpr ce
    rw [if_neg (fun h => ce h.1)] at hD
    obtain ⟨rfl, rfl⟩ := Prod.mk.inj hD
    clear hD ce hgb
    go_enter Try.func13, Try.ntmps13
    go_wp2_with (first | (go_at_call 22; (with_reducible refine (num_Get.calls k0 A0 c0 l0 n q e0 _ (Kd.C_below HR0.out HB.out) HC0.out A0_.out).mono ?_); rintro e w' ⟨rfl, ⟨nd, rfl⟩⟩; have n0_ := Aside0.mk (pw_below_drewN HB.out nd); clear HB; have HB := n0_; clear n0_))
    go_ret2
    exact ⟨_, rfl, Kd.R_nil _ _ _ _ _, HB.out⟩
  subst ce
  by_cases c1_ : n < 0
  · rw [if_neg (fun h => by omega)] at hD
    obtain ⟨rfl, rfl⟩ := Prod.mk.inj hD
    have cb : decide (n < 0) = true := decide_eq_true c1_
    clear hD c1_ hgb
    go_enter Try.func13, Try.ntmps13
    go_wp2_with (first | (go_at_call 22; (with_reducible refine (num_Get.calls k0 A0 c0 l0 n q 0 _ (Kd.C_below HR0.out HB.out) HC0.out A0_.out).mono ?_); rintro e w' ⟨rfl, ⟨nd, rfl⟩⟩; have n0_ := Aside0.mk (pw_below_drewN HB.out nd); clear HB; have HB := n0_; clear n0_))
    go_ret2
    exact ⟨_, rfl, Kd.R_nil _ _ _ _ _, HB.out⟩
  by_cases c2_ : n > 32
  · rw [if_neg (fun h => by omega)] at hD
    obtain ⟨rfl, rfl⟩ := Prod.mk.inj hD
    have cb : decide (n < 0) = false := decide_eq_false c1_
    have cb2 : decide (32 < n) = true := decide_eq_true c2_
    clear hD c1_ c2_ hgb
    go_enter Try.func13, Try.ntmps13
    go_wp2_with (first | (go_at_call 22; (with_reducible refine (num_Get.calls k0 A0 c0 l0 n q 0 _ (Kd.C_below HR0.out HB.out) HC0.out A0_.out).mono ?_); rintro e w' ⟨rfl, ⟨nd, rfl⟩⟩; have n0_ := Aside0.mk (pw_below_drewN HB.out nd); clear HB; have HB := n0_; clear n0_))
    go_ret2
    exact ⟨_, rfl, Kd.R_nil _ _ _ _ _, HB.out⟩
  rw [if_pos ⟨rfl, by omega, by omega⟩] at hD
  obtain ⟨N, rfl⟩ := Int.eq_ofNat_of_zero_le (show 0 ≤ n by omega)
  rw [Int.toNat_natCast] at hD
  have hN : N ≤ 32 := by omega
  have cb : decide ((N : Int) < 0) = false := decide_eq_false c1_
  have cb2 : decide (32 < (N : Int)) = false := decide_eq_false c2_
  have hq0 := Aside0.mk hgb.1
  have hq1 := Aside0.mk hgb.2.1
  have HD := Aside0.mk hD
  clear hD c1_ c2_ hgb
  go_enter Try.func13, Try.ntmps13
  go_wp2_with (first | (go_at_call 22; (with_reducible refine (num_Get.calls k0 A0 c0 l0 (N : Int) q 0 _ (Kd.C_below HR0.out HB.out) HC0.out A0_.out).mono ?_); rintro e w' ⟨rfl, ⟨nd, rfl⟩⟩; have n0_ := Aside0.mk (pw_below_drewN HB.out nd); clear HB; have HB := n0_; clear n0_))
  go_loopw [5, 7, 28] (fun v5 v7 v28 wr => ∃ (i : Nat) (p : Int) (acc : List Ent), v5 = .int .i64 p ∧ v28 = .int .i64 i ∧ i ≤ N ∧ 0 ≤ p ∧ p ≤ (l0.length : Int) ∧ acc.length = i ∧ Aside0 (readE l0 N q [] = readE l0 (N - i) p acc) ∧ Aside0 (Kd.R k32 32 wr w.heap.size (fun _ => True) v7 acc) ∧ Aside0 (Below w.heap.size w wr)) (fun _ _ v _ => N - slotNat v)
  case atStart => exact ⟨0, q, [], rfl, rfl, Nat.zero_le _, hq0.out, hq1.out, rfl, ⟨rfl⟩, ⟨Kd.R_nil _ _ _ _ _⟩, HB⟩
  case round =>
    clear HB
    obtain ⟨i, p, acc, rfl, rfl, hi, hp0, hp1, hacc, HN, HO, HB⟩ := hrel
    by_cases hlt : i < N
    · have hltz : decide ((i : Int) < (N : Int)) = true := decide_eq_true (by omega)
      obtain ⟨A1, c1, hcut, hrd, hroom⟩ := cutD A0 c0 l0 p hp0 hp1 HC0.out
      have hyb := hb.drop p.toNat
      have hpl : (l0.drop p.toNat).length = l0.length - p.toNat := List.length_drop
      have hob := oneD_bound (l0.drop p.toNat)
      have hrs := readE_succ l0 (N - (i + 1)) p acc
      rw [show N - (i + 1) + 1 = N - i by omega] at hrs
      obtain ⟨y, hy⟩ : ∃ y, y = l0.drop p.toNat := ⟨_, rfl⟩
      rw [← hy] at hcut hrd hroom hyb hpl hob hrs
      clear hy
      have HYB := Aside0.mk hyb
      have HYL := Aside0.mk (show y.length < 4611686018427387904 by omega)
      have HRM := Aside0.mk hroom
      have hone : (oneD y).2 = (oneD y).2 := rfl
      obtain ⟨x, hx⟩ : ∃ x, x = (oneD y).1 := ⟨_, rfl⟩
      obtain ⟨kk, hkk⟩ : ∃ kk, kk = (oneD y).2 := ⟨_, rfl⟩
      have honec := fun (W : World) (h1 : Kd.C (Kd.int .u8) W A1 y.length y) => dir_one A1 c1 y W h1 HRM.out HYB.out HYL.out
      rw [← hx, ← hkk] at honec
      rw [← hx, ← hkk] at hrs
      rw [← hkk] at hob
      unfold vE at honec
      clear hx hkk hone
      have HRS := Aside0.mk (HN.out.trans hrs)
      have HONE := Aside0.mk honec
      clear hrs honec HN hyb hroom
      have HPS := Aside0.mk (show p + kk ≤ (l0.length : Int) by omega)
      have HPS0 := Aside0.mk (show 0 ≤ p + kk by omega)
      have HACC := Aside0.mk hacc
      have q0 := eq_true hp0
      have q1 := eq_true hp1
      clear hob hpl hacc
      by_cases ck : kk = 0
      · subst ck
        rw [if_pos rfl] at HRS
        go_wp2_with (first
          | (go_at_call 23; (with_reducible refine (HONE.out _ (hrd _ (Kd.C_below HR0.out HB.out))).mono ?_); rintro e w4 ⟨rfl, hb4⟩; have n0_ := Aside0.mk (Kd.R_below HO.out hb4); have n1_ := Aside0.mk (below_step HB.out hb4); clear HO HB; have HO := n0_; have HB := n1_; clear n0_ n1_ hb4)
          | ((with_reducible refine gate_dst (N := 8) rfl ?_); refine box_event ?hg (N := 8) ?hd (cs := #[.string (⟨#[]⟩ : ByteArray), .int .i64 0, .int .i64 0, .int .i64 0]) (t := 32) ?hr ?_; (case hd => rfl); (case hg => rfl); (case hr => first | (go_simp; done) | (go_simp; rfl)); intro g8 hg w7 hbox hb; have n0_ := Aside0.mk (Kd.R_below (Kd.R_elderB HO.out g8 (Nat.le_of_eq hg.symm)) hb); have n1_ := Aside0.mk (below_step HB.out hb); have n2_ := Aside0.mk hbox; have n3_ := Aside0.mk (show w.heap.size ≤ g8 by rw [hg]; exact HB.out.size); clear HO; clear HB; have HO := n0_; have HB := n1_; have BK8 := n2_; have GE8 := n3_; clear n0_ n1_ n2_ n3_; clear hb hbox hg; have hcz0 : w7.cell? ⟨g8, 0, none⟩ = some (.string (⟨#[]⟩ : ByteArray)) := (blk_cell BK8.out 0).trans rfl; have hcz1 : w7.cell? ⟨g8, 1, none⟩ = some (.int .i64 0) := (blk_cell BK8.out 1).trans rfl; have hcz2 : w7.cell? ⟨g8, 2, none⟩ = some (.int .i64 0) := (blk_cell BK8.out 2).trans rfl; have hcz3 : w7.cell? ⟨g8, 3, none⟩ = some (.int .i64 0) := (blk_cell BK8.out 3).trans rfl; have hfz0 := blk_frozen BK8.out 0; have hfz1 := blk_frozen BK8.out 1; have hfz2 := blk_frozen BK8.out 2; have hfz3 := blk_frozen BK8.out 3))
        go_ret2
        rw [HRS.out] at HD
        obtain ⟨rfl, rfl⟩ := Prod.mk.inj HD.out
        exact ⟨_, rfl, Kd.R_nil _ _ _ _ _, (below_set (below_set (below_set (below_set HB.out GE8.out) GE8.out) GE8.out) GE8.out)⟩
      · have ckb : (kk == 0) = false := beq_eq_false_iff_ne.mpr ck
        rw [if_neg ck] at HRS
        clear ck
        have hal : acc.length ≤ 32 := by have := HACC.out; omega
        go_wp2_with (first
          | (go_at_call 23; (with_reducible refine (HONE.out _ (hrd _ (Kd.C_below HR0.out HB.out))).mono ?_); rintro e w4 ⟨rfl, hb4⟩; have n0_ := Aside0.mk (Kd.R_below HO.out hb4); have n1_ := Aside0.mk (below_step HB.out hb4); clear HO HB; have HO := n0_; have HB := n1_; clear n0_ n1_ hb4)
          | ((with_reducible refine gate_dst (N := 8) rfl ?_); refine box_event ?hg (N := 8) ?hd (cs := #[.string (⟨#[]⟩ : ByteArray), .int .i64 0, .int .i64 0, .int .i64 0]) (t := 32) ?hr ?_; (case hd => rfl); (case hg => rfl); (case hr => first | (go_simp; done) | (go_simp; rfl)); intro g8 hg w7 hbox hb; have n0_ := Aside0.mk (Kd.R_below (Kd.R_elderB HO.out g8 (Nat.le_of_eq hg.symm)) hb); have n1_ := Aside0.mk (below_step HB.out hb); have n2_ := Aside0.mk hbox; have n3_ := Aside0.mk (show w.heap.size ≤ g8 by rw [hg]; exact HB.out.size); clear HO; clear HB; have HO := n0_; have HB := n1_; have BK8 := n2_; have GE8 := n3_; clear n0_ n1_ n2_ n3_; clear hb hbox hg; have hcz0 : w7.cell? ⟨g8, 0, none⟩ = some (.string (⟨#[]⟩ : ByteArray)) := (blk_cell BK8.out 0).trans rfl; have hcz1 : w7.cell? ⟨g8, 1, none⟩ = some (.int .i64 0) := (blk_cell BK8.out 1).trans rfl; have hcz2 : w7.cell? ⟨g8, 2, none⟩ = some (.int .i64 0) := (blk_cell BK8.out 2).trans rfl; have hcz3 : w7.cell? ⟨g8, 3, none⟩ = some (.int .i64 0) := (blk_cell BK8.out 3).trans rfl; have hfz0 := blk_frozen BK8.out 0; have hfz1 := blk_frozen BK8.out 1; have hfz2 := blk_frozen BK8.out 2; have hfz3 := blk_frozen BK8.out 3)
          | ((with_reducible refine gate_builtin (b := .append) (xs := #[.tmp 39, .tmp 41]) rfl ?_); at_builtin; refine Kd.R_append k32 (w0 := w) w.heap.size rfl (.tmp 39) (.tmp 41) 22 32 (.agg #[.string (⟨#[]⟩ : ByteArray), .int .i64 0, .int .i64 0, .int .i64 0]) 40 rfl Try.underlying22 info32 rfl (by decide) (by omega) _ acc x [.string x.f0, .int .i64 x.f1, .int .i64 x.f2.f0, .int .i64 x.f2.f1] (fun k_ => k_ ≠ g8) (fun _ => False) rfl (by first | (go_simp; done) | (go_simp; rfl)) ?aP (fun _ hk => hk.elim) ?aF ?aO ?aB ?aS ?aL ?_; (case aP => exact k32_mkM _ _ _ x); (case aB => first | exact (below_set (below_set (below_set (below_set HB.out GE8.out) GE8.out) GE8.out) GE8.out) | exact (below_alloc (below_set (below_set (below_set (below_set HB.out GE8.out) GE8.out) GE8.out) GE8.out))); (case aF => exact (fun k_ hk => Kd.freshB (g := g8) (o := .cells #[.string x.f0, .int .i64 x.f1, .int .i64 x.f2.f0, .int .i64 x.f2.f1] 32 (0, 0)) (by (with_reducible repeat (first | refine blk_drewN ?_ _ | refine blk_drew ?_ | refine blk_alloc ?_ _)); exact (by refine blk_put (cs := #[.string x.f0, .int .i64 x.f1, .int .i64 x.f2.f0, .int .i64 0]) ?_ 3 _ rfl; refine blk_put (cs := #[.string x.f0, .int .i64 x.f1, .int .i64 0, .int .i64 0]) ?_ 2 _ rfl; refine blk_put (cs := #[.string x.f0, .int .i64 0, .int .i64 0, .int .i64 0]) ?_ 1 _ rfl; refine blk_put (cs := #[.string (⟨#[]⟩ : ByteArray), .int .i64 0, .int .i64 0, .int .i64 0]) ?_ 0 _ rfl; exact BK8.out)) k_ hk)); (case aO => exact (by (with_reducible repeat (first | apply Kd.R_alloc | apply Kd.R_drewN | apply Kd.R_drew)); exact Kd.R_mono (Kd.R_far (p := ⟨g8, 3, none⟩) (Kd.R_far (p := ⟨g8, 2, none⟩) (Kd.R_far (p := ⟨g8, 1, none⟩) (Kd.R_far (p := ⟨g8, 0, none⟩) HO.out (fun _ h => h.2) _) (fun _ h => h.2) _) (fun _ h => h.2) _) (fun _ h => h.2) _) (fun _ h => h.2))); (case aS => exact (below_size (by first | exact (below_set (below_set (below_set (below_set HB.out GE8.out) GE8.out) GE8.out) GE8.out) | exact (below_alloc (below_set (below_set (below_set (below_set HB.out GE8.out) GE8.out) GE8.out) GE8.out))))); (case aL => omega); intro v42 w9 ho hb hg hat; have n1_ := Aside0.mk hb; have n2_ := Aside0.mk (Kd.R_mono ho (fun _ _ => trivial) (ok' := fun _ => True)); clear HB HO BK8; have HB := n1_; have HO := n2_; clear n1_ n2_ ho hb hg hat))
        go_roundw
        case rel => exact ⟨i + 1, p + kk, acc ++ [x], by first | rfl | (rw [w64 (by have := HPS0.out; omega) (by have := HPS.out; omega)]), by first | rfl | go_num, by omega, HPS0.out, HPS.out, by rw [List.length_append, HACC.out]; rfl, HRS, HO, HB⟩
        case measure => simp [slotNat]; omega
    · have hltz : decide ((i : Int) < (N : Int)) = false := decide_eq_false (by omega)
      have hiN : N - i = 0 := by omega
      have hal : acc.length ≤ 32 := by omega
      clear hacc
      have HN2 := Aside0.mk (show readE l0 N q [] = some acc by rw [HN.out, hiN]; rfl)
      rw [HN2.out] at HD
      clear HN HN2 hiN
      obtain ⟨A7, c7, hv7, hc7, hC7⟩ := Kd.R_reads HO.out
      subst hv7
      have HC7 := Aside0.mk hC7
      have HL7 := Aside0.mk hc7
      clear hC7 hc7
      have HD2 := Aside0.mk (show (if mayD acc = true ∧ encD acc = l0 then (acc, 0) else ([], 8)) = (r1, r2) from HD.out)
      clear HD
      by_cases hm : mayD acc = true
      · have hpos : 0 < (encO acc).length := by
          unfold encO encD
          rw [if_pos hm, List.length_append]
          have := putN_pos (acc.length : Int)
          omega
        have HENC := Aside0.mk (show encO acc = encD acc by unfold encO; rw [if_pos hm])
        have HM := Aside0.mk hm
        have HPOS := Aside0.mk hpos
        clear hpos hm
        obtain ⟨z, hz⟩ : ∃ z, z = encO acc := ⟨_, rfl⟩
        rw [← hz] at HENC HPOS
        have HZ := Aside0.mk hz
        clear hz
        by_cases he : z = l0
        · have heb : ((strOfNums z).toList == (strOfNums l0).toList) = true := by rw [he]; simp
          have HEQ := Aside0.mk (show bytes_Equal.f z l0 = some true by unfold bytes_Equal.f; rw [heb])
          have HE := Aside0.mk he
          clear he heb
          go_wp2_with (first
            | (go_at_call 10; (with_reducible refine (dir_Encode_nil A7 c7 acc _ HC7.out HL7.out).mono ?_); rw [← HZ.out]; rintro e w5 ⟨v10, rfl, ⟨hR, hb5⟩, hn⟩; obtain ⟨g10, c10, rfl, _⟩ := Kd.R_form hR HPOS.out; have n0_ := Aside0.mk (Kd.R_below HO.out hb5); have n1_ := Aside0.mk (below_step HB.out hb5); have HO10 := Aside0.mk hR; clear HO HB; have HO := n0_; have HB := n1_; clear n0_ n1_ hb5 hR hn)
            | (go_at_call 24; (with_reducible refine (bytes_Equal.calls _ c10 z A0 c0 l0 true _ (Kd.R_reads' HO10.out).2.2 (Kd.R_reads' HO10.out).2.1 (Kd.C_below HR0.out HB.out) HC0.out HEQ.out).mono ?_); rintro e w6 ⟨rfl, ⟨nd6, rfl⟩⟩; have n0_ := Aside0.mk (Kd.R_drewN HO.out nd6); have n1_ := Aside0.mk (pw_below_drewN HB.out nd6); clear HO HB; have HO := n0_; have HB := n1_; clear n0_ n1_))
          go_ret2
          rw [if_pos ⟨HM.out, HENC.out.symm.trans HE.out⟩] at HD2
          obtain ⟨rfl, rfl⟩ := Prod.mk.inj HD2.out
          exact ⟨_, rfl, HO.out, HB.out⟩
        · have heb : ((strOfNums z).toList == (strOfNums l0).toList) = false := by
            refine beq_eq_false_iff_ne.mpr (fun h => he ?_)
            have hzb : Byt z := by
              rw [HENC.out]
              exact encD_byt acc
            exact str_inj hzb hb (toList_inj h)
          have HEQ := Aside0.mk (show bytes_Equal.f z l0 = some false by unfold bytes_Equal.f; rw [heb])
          have HE := Aside0.mk he
          clear he heb
          go_wp2_with (first
            | (go_at_call 10; (with_reducible refine (dir_Encode_nil A7 c7 acc _ HC7.out HL7.out).mono ?_); rw [← HZ.out]; rintro e w5 ⟨v10, rfl, ⟨hR, hb5⟩, hn⟩; obtain ⟨g10, c10, rfl, _⟩ := Kd.R_form hR HPOS.out; have n0_ := Aside0.mk (Kd.R_below HO.out hb5); have n1_ := Aside0.mk (below_step HB.out hb5); have HO10 := Aside0.mk hR; clear HO HB; have HO := n0_; have HB := n1_; clear n0_ n1_ hb5 hR hn)
            | (go_at_call 24; (with_reducible refine (bytes_Equal.calls _ c10 z A0 c0 l0 false _ (Kd.R_reads' HO10.out).2.2 (Kd.R_reads' HO10.out).2.1 (Kd.C_below HR0.out HB.out) HC0.out HEQ.out).mono ?_); rintro e w6 ⟨rfl, ⟨nd6, rfl⟩⟩; have n0_ := Aside0.mk (Kd.R_drewN HO.out nd6); have n1_ := Aside0.mk (pw_below_drewN HB.out nd6); clear HO HB; have HO := n0_; have HB := n1_; clear n0_ n1_))
          go_ret2
          rw [if_neg (fun h => HE.out (HENC.out.trans h.2))] at HD2
          obtain ⟨rfl, rfl⟩ := Prod.mk.inj HD2.out
          exact ⟨_, rfl, Kd.R_nil _ _ _ _ _, HB.out⟩
      · have hm' : mayD acc = false := Bool.eq_false_iff.2 hm
        have HM := Aside0.mk hm'
        clear hm'
        rw [if_neg (fun h => hm h.1)] at HD2
        clear hm
        go_wp2_with (first
          | (go_at_call 10; (with_reducible refine (dir_Encode_nil A7 c7 acc _ HC7.out HL7.out).mono ?_); rintro e w5 ⟨v10, rfl, ⟨hR, hb5⟩, hn⟩; obtain rfl := hn HM.out; have n1_ := Aside0.mk (below_step HB.out hb5); clear HB; have HB := n1_; clear n1_ hb5 hR hn))
        go_ret2
        obtain ⟨rfl, rfl⟩ := Prod.mk.inj HD2.out
        exact ⟨_, rfl, Kd.R_nil _ _ _ _ _, HB.out⟩
end Go.Proofs.Ytoffcgdamcchcaa.GL
