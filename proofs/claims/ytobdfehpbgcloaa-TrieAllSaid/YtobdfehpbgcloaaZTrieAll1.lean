import Derived.Test.YtobdfehpbgcloaaWMore
import Derived.Lib.Bytes
import Derived.Test.YtobdfehpbgcloaaWWords
import Derived.Laws.Cover1
import Derived.Test.YtobdfehpbgcloaaGLen64W
import Derived.Test.YtobdfehpbgcloaaProg
import Derived.Below
import Derived.Deep.Draws
import Derived.Deep.AppendLies
import Derived.Maps.AppendAt
import Derived.OwnWalk
import Derived.Laws.BytesArg
import Derived.Laws.MakeOwn
import Derived.Laws.OwnMore
import Derived.Deep.OwnRows
import Derived.Tactics
import Derived.Lib.ConvBytes
import Derived.Laws.Slices
import Derived.WalkKit
import Derived.KernelRfl
import Derived.RowKit3
import Derived.Deep.LoopGhost
import Derived.Deep.QuietTactic
import Derived.BigQuiet
import Derived.WideLaws
import Derived.Deep.DeepCutAuto
import Derived.Deep.CutBlock
import Derived.Deep.RegionHeld3
import Derived.Laws.Rows
import Derived.Lib.AppendStr
import Derived.ArgAppend
import Derived.Laws.IdiomCopy
import Derived.OrdersHeld
import Derived.Laws.BitsLemmas
import Derived.RowKit
import Derived.Test.YtobdfehpbgcloaaWLast
import Derived.Test.YtobdfehpbgcloaaWTab
import Derived.Test.YtobdfehpbgcloaaWFour
import Derived.Test.YtobdfehpbgcloaaWQPut
import Derived.Test.YtobdfehpbgcloaaWApart
import Derived.Test.YtobdfehpbgcloaaWArr
import Derived.Test.YtobdfehpbgcloaaWZeros
import Derived.Test.YtobdfehpbgcloaaWFoot
import Derived.Test.YtobdfehpbgcloaaWKept
import Derived.Test.YtobdfehpbgcloaaWShare
import Derived.Test.YtobdfehpbgcloaaWN
import Derived.Test.YtobdfehpbgcloaaWFootNe
import Derived.Test.YtobdfehpbgcloaaWAt
import Derived.Test.YtobdfehpbgcloaaWEqStruct
import Derived.Test.YtobdfehpbgcloaaWRepsOne
import Derived.Test.YtobdfehpbgcloaaWInv
import Derived.Test.YtobdfehpbgcloaaWInvWords
import Derived.Test.YtobdfehpbgcloaaWGuard
import Derived.Test.YtobdfehpbgcloaaWNEv
import Derived.WalkSpells
import Derived.Deep.RegionLaw
import Derived.Laws.CopyOwn
/- Plain lemmas of this session's own: numbers that wrap, bits as numbers, bytes and texts, rounds. -/
set_option linter.unusedVariables false
set_option linter.unusedSimpArgs false
namespace Go.Proofs.Ytobdfehpbgcloaa.Q
open Go.RowKit Go.Proofs.YtobdfehpbgcloaaW.PrintWords Go.Proofs.YtobdfehpbgcloaaW.PrintMore
theorem w64 {x : Int} (h0 : -9223372036854775808 ≤ x) (h1 : x < 9223372036854775808) : wrap64 x = x := by unfold wrap64; omega
theorem u64_mod (n : Int) : IntKind.u64.wrap n = n % 18446744073709551616 := by simp [IntKind.wrap, IntKind.bits, IntKind.signed]
theorem u64 {x : Int} (h0 : 0 ≤ x) (h1 : x < 18446744073709551616) : IntKind.u64.wrap x = x := by rw [u64_mod]; omega
theorem wraps_u64 (n : Int) (h0 : 0 ≤ n) (h1 : n < 2 ^ 64) : IntKind.u64.wrap n = n := u64 h0 (by omega)
theorem wfI64 {n : Int} (h : (Lit.int .i64 n).wf = true) : -9223372036854775808 ≤ n ∧ n < 9223372036854775808 := by
  simp only [Lit.wf, IntKind.min, IntKind.max, IntKind.signed, IntKind.bits, Bool.and_eq_true, decide_eq_true_eq, if_true] at h
  omega
theorem wfU64 {n : Int} (h : (Lit.int .u64 n).wf = true) : 0 ≤ n ∧ n < 18446744073709551616 := by
  simp only [Lit.wf, IntKind.min, IntKind.max, IntKind.signed, IntKind.bits, Bool.and_eq_true, decide_eq_true_eq, Bool.false_eq_true, if_false] at h
  omega
theorem wfU8 {n : Int} (h : (Lit.int .u8 n).wf = true) : 0 ≤ n ∧ n < 256 := by
  simp only [Lit.wf, IntKind.min, IntKind.max, IntKind.signed, IntKind.bits, Bool.and_eq_true, decide_eq_true_eq, Bool.false_eq_true, if_false] at h
  omega
theorem wfI32 {n : Int} (h : (Lit.int .i32 n).wf = true) : -2147483648 ≤ n ∧ n < 2147483648 := by
  simp only [Lit.wf, IntKind.min, IntKind.max, IntKind.signed, IntKind.bits, Bool.and_eq_true, decide_eq_true_eq, if_true] at h
  omega
/-- Each number is a byte. -/
def Byt (l : List Int) : Prop := ∀ x ∈ l, 0 ≤ x ∧ x < 256
theorem Byt.nil : Byt [] := fun _ h => by cases h
theorem Byt.of_wf {l : List Int} (h : ∀ x ∈ l, (Lit.int .u8 x).wf = true) : Byt l := fun x hx => wfU8 (h x hx)
theorem Byt.cons {c : Int} {l : List Int} (h0 : 0 ≤ c) (h1 : c < 256) (h : Byt l) : Byt (c :: l) := by
  intro x hx
  rcases List.mem_cons.1 hx with rfl | hx
  · exact ⟨h0, h1⟩
  · exact h x hx
theorem Byt.head {c : Int} {l : List Int} (h : Byt (c :: l)) : 0 ≤ c ∧ c < 256 := h c List.mem_cons_self
theorem Byt.tail {c : Int} {l : List Int} (h : Byt (c :: l)) : Byt l := fun x hx => h x (List.mem_cons_of_mem _ hx)
theorem Byt.append {l m : List Int} (h : Byt l) (k : Byt m) : Byt (l ++ m) := by
  intro x hx
  rcases List.mem_append.1 hx with hx | hx
  · exact h x hx
  · exact k x hx
theorem Byt.left {l m : List Int} (h : Byt (l ++ m)) : Byt l := fun x hx => h x (List.mem_append_left _ hx)
theorem Byt.right {l m : List Int} (h : Byt (l ++ m)) : Byt m := fun x hx => h x (List.mem_append_right _ hx)
theorem Byt.take {l : List Int} (h : Byt l) (n : Nat) : Byt (l.take n) := fun x hx => h x (List.mem_of_mem_take hx)
theorem Byt.drop {l : List Int} (h : Byt l) (n : Nat) : Byt (l.drop n) := fun x hx => h x (List.mem_of_mem_drop hx)
theorem byt_bytesOf (s : ByteArray) : Byt (bytesOf s) := by
  intro x hx
  simp only [bytesOf, List.mem_map] at hx
  obtain ⟨b, _, rfl⟩ := hx
  have := b.toNat_lt
  omega
theorem toList_eq (s : ByteArray) : s.toList = s.data.toList := Lib.toList_data s
theorem bytesOf_str {l : List Int} (h : Byt l) : bytesOf (strOfNums l) = l := by
  rw [bytesOf, strOfNums_data, List.map_map]
  conv => rhs; rw [← List.map_id l]
  apply List.map_congr_left
  intro x hx
  have := h x hx
  simp only [Function.comp_apply, id_eq, UInt8.toNat_ofNat']
  omega
theorem str_bytesOf (s : ByteArray) : strOfNums (bytesOf s) = s := by
  have h : (strOfNums (bytesOf s)).data = s.data := by
    apply Array.ext'
    rw [strOfNums_data, bytesOf, List.map_map]
    conv => rhs; rw [← List.map_id s.data.toList]
    apply List.map_congr_left
    intro b _
    simp
  cases hs : strOfNums (bytesOf s)
  cases s
  simp_all
theorem bytesOf_inj {a b : ByteArray} (h : bytesOf a = bytesOf b) : a = b := by rw [← str_bytesOf a, h, str_bytesOf]
theorem str_inj {l m : List Int} (hl : Byt l) (hm : Byt m) (h : strOfNums l = strOfNums m) : l = m := by rw [← bytesOf_str hl, h, bytesOf_str hm]
theorem toList_inj {a b : ByteArray} (h : a.toList = b.toList) : a = b := by
  rw [toList_eq, toList_eq] at h
  cases a; cases b
  simp only [ByteArray.mk.injEq]
  exact Array.ext' h
theorem toList_iff {a b : ByteArray} : a.toList = b.toList ↔ a = b := ⟨toList_inj, fun h => by rw [h]⟩
theorem bytesOf_append (a b : ByteArray) : bytesOf (a ++ b) = bytesOf a ++ bytesOf b := by simp [bytesOf]
theorem str_append (l m : List Int) : strOfNums (l ++ m) = strOfNums l ++ strOfNums m := by
  have h : (strOfNums (l ++ m)).data = (strOfNums l ++ strOfNums m).data := by
    apply Array.ext'
    simp [strOfNums_data]
  cases h1 : strOfNums (l ++ m)
  cases h2 : strOfNums l ++ strOfNums m
  simp_all
theorem bytesOf_extract (s : ByteArray) (i j : Nat) : bytesOf (s.extract i j) = ((bytesOf s).take j).drop i := by
  rw [bytesOf, ByteArray.data_extract, Array.toList_extract, bytesOf]
  simp [List.extract, List.map_take, List.map_drop, List.drop_take]
theorem size_of_bytes (s : ByteArray) : s.size = (bytesOf s).length := (bytesOf_length s).symm
/- bits -/
theorem or_comm' (k : IntKind) (x y : Int) : Go.bits .or k x y = Go.bits .or k y x := by
  show k.wrap ((BitVec.ofInt k.bits x ||| BitVec.ofInt k.bits y).toNat : Int) = k.wrap ((BitVec.ofInt k.bits y ||| BitVec.ofInt k.bits x).toNat : Int)
  rw [BitVec.or_comm]
theorem or_join (i : Nat) (hi : i ≤ 64) {x y : Int} (hx0 : 0 ≤ x) (hx : x < 2 ^ i) (hy0 : 0 ≤ y) (hy : y % 2 ^ i = 0) (hy1 : y < 2 ^ 64) : Go.bits .or .u64 x y = x + y := by
  have h64 : (2 : Int) ^ i ≤ 2 ^ 64 := by
    have := Nat.pow_le_pow_right (n := 2) (by decide) hi
    exact_mod_cast this
  rw [or_comm', bits_join .u64 64 (by decide) wraps_u64 i y x hy0 hy hy1 hx0 hx (by omega)]
  omega
theorem and127 {c : Int} (h0 : 0 ≤ c) (h1 : c < 256) : Go.bits .and .u8 c 127 = c % 128 := bits_mask .u8 8 (by decide) wraps_u8 7 (by decide) c h0 (by omega)
theorem or128 {c : Int} (h0 : 0 ≤ c) (h1 : c < 256) : Go.bits .or .u8 c 128 = c % 128 + 128 := by
  have h : c % 128 + 128 * (c / 128) = c := by omega
  obtain ⟨a, rfl⟩ := Int.eq_ofNat_of_zero_le h0
  have ha : a < 256 := by omega
  have e := (bits_nat .u8 8 (by decide) wraps_u8 a 128 (by omega) (by decide)).2
  have e2 : (a ||| 128) = a % 128 + 128 := by
    have := Nat.two_pow_add_eq_or_of_lt (i := 7) (b := a % 128) (Nat.mod_lt _ (by decide)) 1
    have h3 : a ||| 128 = (a % 128) ||| 128 := by
      apply Nat.eq_of_testBit_eq
      intro i
      simp only [Nat.testBit_or]
      rcases Nat.lt_or_ge i 7 with hi | hi
      · have : a % 128 = a % 2 ^ 7 := rfl
        rw [this, Nat.testBit_mod_two_pow]
        simp [hi]
      · have : a % 128 = a % 2 ^ 7 := rfl
        rw [this, Nat.testBit_mod_two_pow]
        rcases Nat.lt_or_ge i 8 with hi2 | hi2
        · have : i = 7 := by omega
          subst this
          simp
          intro _
          decide
        · rw [Nat.testBit_lt_two_pow (x := a) (by have := Nat.pow_le_pow_right (n := 2) (by decide) hi2; omega)]
          simp
    have h4 : 128 + a % 128 = 128 ||| a % 128 := this
    rw [h3, Nat.or_comm, ← h4]
    omega
  rw [show ((128 : Int)) = ((128 : Nat) : Int) from rfl, e, e2]
  omega
theorem not_u64 {x : Int} (h0 : 0 ≤ x) (h1 : x < 18446744073709551616) : Go.bits .xor .u64 18446744073709551615 x = 18446744073709551615 - x := by
  obtain ⟨a, rfl⟩ := Int.eq_ofNat_of_zero_le h0
  show IntKind.u64.wrap ((BitVec.ofInt 64 18446744073709551615 ^^^ BitVec.ofInt 64 (a : Int)).toNat : Int) = _
  have e : BitVec.ofInt 64 18446744073709551615 = BitVec.allOnes 64 := by decide
  rw [e, BitVec.ofInt_natCast, BitVec.allOnes_xor, BitVec.toNat_not, BitVec.toNat_ofNat, u64 (by omega) (by omega)]
  omega
theorem not_i64 {x : Int} (h0 : 0 ≤ x) (h1 : x < 9223372036854775808) : Go.bits .xor .i64 (-1) x = -x - 1 := by
  obtain ⟨a, rfl⟩ := Int.eq_ofNat_of_zero_le h0
  show IntKind.i64.wrap ((BitVec.ofInt 64 (-1) ^^^ BitVec.ofInt 64 (a : Int)).toNat : Int) = _
  have e : BitVec.ofInt 64 (-1) = BitVec.allOnes 64 := by decide
  rw [e, BitVec.ofInt_natCast, BitVec.allOnes_xor, BitVec.toNat_not, BitVec.toNat_ofNat, IntKind.wrap_i64]
  omega
theorem shl_u64 {x y : Int} (hy : 0 ≤ y) (hy1 : y ≤ 64) (h0 : 0 ≤ x) (h : x * 2 ^ y.toNat < 2 ^ 64) : shl .u64 x y = x * 2 ^ y.toNat := by
  unfold shl
  rw [Nat.min_eq_left (by show y.toNat ≤ 64; omega)]
  exact wraps_u64 _ (Int.mul_nonneg h0 (by have := Nat.two_pow_pos y.toNat; exact_mod_cast Nat.le_of_lt this)) h
theorem rd_append (p r : List Int) (c : Int) : rd (p ++ c :: r) (p.length : Int) = c := by simp [rd]
theorem rd_at {l : List Int} {i : Int} (h0 : 0 ≤ i) (h1 : i < l.length) : l.drop i.toNat = rd l i :: l.drop (i.toNat + 1) := by
  rw [List.drop_eq_getElem_cons (by omega)]
  congr 1
  simp [rd, List.getD]
  rw [List.getElem?_eq_getElem (by omega)]
  rfl
/- rounds -/
theorem evEq {α : Type} {g : Nat → Option α} {a b : α} (h : Ev g a) (e : a = b) : Ev g b := e ▸ h
theorem evC {α : Type} {o : Option α} {r : α} (h : o = some r) : Ev (fun _ => o) r := ⟨0, fun _ _ => h⟩
end Go.Proofs.Ytobdfehpbgcloaa.Q

/- Words of this session's own beside the printed ones: appends of a string's bytes whose new row is the old one's block or a new one. -/
set_option linter.unusedVariables false
namespace Go.Proofs.YtobdfehpbgcloaaW.PrintWords
open Go.RowKit
/-- One text is no greater than another one just if that one is not less. -/
@[go_sem] theorem y_leq : ∀ (x y : List UInt8), (Op.bytesLess x y || x == y) = !(Op.bytesLess y x)
  | [], [] => rfl
  | [], _ :: _ => rfl
  | _ :: _, [] => rfl
  | a :: x, b :: y => by
    have ih := y_leq x y
    rcases (show a < b ∨ a = b ∨ b < a by
      rcases Nat.lt_trichotomy a.toNat b.toNat with h | h | h
      · exact .inl (UInt8.lt_iff_toNat_lt.2 h)
      · exact .inr (.inl (UInt8.toNat_inj.1 h))
      · exact .inr (.inr (UInt8.lt_iff_toNat_lt.2 h))) with h | h | h
    · have h1 : ¬ b < a := fun h2 => by have := UInt8.lt_iff_toNat_lt.1 h; have := UInt8.lt_iff_toNat_lt.1 h2; omega
      have h2 : b ≠ a := fun h2 => by subst h2; exact h1 h
      simp [Op.bytesLess, h, h1, h2]
    · subst h
      have h1 : ¬ a < a := fun h2 => by have := UInt8.lt_iff_toNat_lt.1 h2; omega
      simpa [Op.bytesLess, h1] using ih
    · have h1 : ¬ a < b := fun h2 => by have := UInt8.lt_iff_toNat_lt.1 h; have := UInt8.lt_iff_toNat_lt.1 h2; omega
      have h2 : a ≠ b := fun h2 => by subst h2; exact h1 h
      simp [Op.bytesLess, h, h1, h2]
section
variable {P : Program} {ops : Array Oper} {rest : List Oper} {o : Oper} {a : Act} {Q : Exit → Act → World → Prop}
theorem y_run_append_str (W : World) (base : Nat) (t u ty e : TypeId) (i : TypeInfo) (ht : P.underlying t = some (.slice e)) (hu : P.underlying u = some .string) (hi : P.info? e = some i) (hz : i.zero = some (.int .u8 0))
    (hsize : i.size = 1) (hby : i.bytes = 1) (v : Value) (n : Nat) (xs : List Value) (hown : W.ownsRow base e 1 v n xs) (s : ByteArray)
    (h63 : n + s.size ≤ maxLen) (hbytes : n + s.size ≤ 140737488355328) (hbase : base ≤ W.heap.size) :
    ∃ v' w', (Builtin.append_ #[t, u] ty #[v, .string s]).run P W = .ok v' w' ∧ w'.ownsRow base e 1 v' (n + s.size) (xs ++ Lib.strCells s) ∧ W.grownBy w' v.ownBlock ∧
      (v'.ownBlock = v.ownBlock ∨ ∃ b, v'.ownBlock = some b ∧ W.heap.size ≤ b) := by
  obtain ⟨v', w', hr, h2, h3, h4⟩ := Lib.run_append_own_string (P := P) W base t u ty e i ht hu hi hz hsize hby v n xs hown s h63 hbytes hbase
  refine ⟨v', w', hr, h2, h3, ?_⟩
  have hxl : xs.length = n := by simpa using hown.1
  rcases hown.2 with ⟨rfl, rfl⟩ | ⟨g, cap, cur, rfl, hbg, hg, hnc, hcm, hcs, htake⟩
  · by_cases hm : s.size = 0
    · exact .inl (by rw [h4.2 ⟨rfl, hm⟩])
    · have hr2 := run_append_nil_string (P := P) W t u ty e i (.int .u8 0) ht hu hi hz s (by omega) (by simp only [maxLen] at h63; omega) (by rw [hby]; omega)
      rw [hr] at hr2
      injection hr2 with hv _
      exact .inr ⟨W.heap.size, by rw [hv]; rfl, Nat.le_refl _⟩
  · by_cases hroom : n + s.size ≤ cap
    · have hr2 := Lib.run_append_room_string (P := P) W t u ty e i ht hu hi hsize g n cap cur hg s hroom (by simp only [Nat.mul_one] at hcs; omega)
      rw [hr] at hr2
      injection hr2 with hv _
      exact .inl (by rw [hv]; rfl)
    · have holds : ∀ j u, xs[j]? = some u → W.cell? ((⟨g, 0, none⟩ : Addr).add j) = some u := hown.cells (g := g) rfl
      have hr2 := Lib.run_append_grow_string (P := P) W t u ty e i (.int .u8 0) ht hu hi hz ⟨g, 0, none⟩ n cap xs (by rw [hsize]; simpa using hxl) holds s (by omega) (by simp only [maxLen] at h63; omega) (by rw [hby]; exact growslice_fits (by omega) (by omega))
      rw [hr] at hr2
      injection hr2 with hv _
      exact .inr ⟨W.heap.size, by rw [hv]; rfl, Nat.le_refl _⟩
theorem Kd.y_append_str {w0 W : World} (base : Nat) (hgd : o.guard = none) (s x : Operand) (t u e : TypeId)
    (ho : o.op = .call { callee := .builtin .append, args := #[s, x], argTypes := #[t, u] })
    (ht : P.underlying t = some (.slice e)) (hu : P.underlying u = some .string) (hinfo : (P.info? e).map (fun i => (i.zero, i.size, i.bytes)) = some (some (.int .u8 0), 1, 1))
    (v : Value) (xs : List Int) (y : ByteArray) (ok : Nat → Prop) (hs : a.eval s = v) (hx : a.eval x = .string y) (hfresh : ∀ k, W.heap.size ≤ k → ok k)
    (HO : (Kd.int .u8).R e W base ok v xs) (HB : Below base w0 W) (hbase : base ≤ W.heap.size) (hl : xs.length + y.size ≤ 140737488355328)
    (h : ∀ v1 w1, (Kd.int .u8).R e w1 base ok v1 (xs ++ bytesOf y) → Below base w0 w1 → W.grownBy w1 v.ownBlock → (v1.ownBlock = v.ownBlock ∨ ∃ b, v1.ownBlock = some b ∧ W.heap.size ≤ b) → wpList P ops Q rest (a.put o.dst v1) w1) :
    wpList P ops Q (o :: rest) a W := by
  obtain ⟨i0, hi, hzz⟩ := Option.map_eq_some_iff.1 hinfo
  simp only [Prod.mk.injEq] at hzz
  obtain ⟨hz0, hz1, hz2⟩ := hzz
  have HO2 : W.ownsRow base e 1 v xs.length (encs (Value.int .u8) xs) := Kd.own_of_R HO
  refine wpList_plain hgd fun K hK => ?_
  obtain ⟨v', w', hr, h2, h3, h4⟩ := y_run_append_str (P := P) W base t u o.type e i0 ht hu hi hz0 hz1 hz2 v xs.length _ HO2 y (by simp only [maxLen]; omega) hl hbase
  have hl2 : (xs ++ bytesOf y).length = xs.length + y.size := by rw [List.length_append, bytesOf_length]
  have hc : encs (Value.int .u8) (xs ++ bytesOf y) = encs (Value.int .u8) xs ++ Lib.strCells y := by
    rw [encs_append]
    congr 1
    simp [encs, bytesOf, Lib.strCells]
  unfold Oper.wp execOp
  simp only [ho, resolve, invoke, builtin, Sem.run_bind, Sem.run_pure, Result.andThen_ok, List.map_toArray, List.map_cons, List.map_nil, hs, hx, hr]
  refine hK _ _ (h v' w' ?_ (HB.grown h3 hbase (own_base HO2)) h3 h4)
  refine Kd.R_of_own (by rw [hl2, hc]; exact h2) (fun k hk => ?_)
  rcases h4 with h4 | ⟨b, hb, hle⟩
  · exact HO.1 k (h4 ▸ hk)
  · rw [hb] at hk
    injection hk with hk
    exact hfresh k (by omega)
end
end Go.Proofs.YtobdfehpbgcloaaW.PrintWords

/- math/bits.Len64 in the form that the printed functions have. -/
-- GIVEN math/bits.Len64 0
set_option linter.unusedVariables false
namespace Go.Proofs.Ytobdfehpbgcloaa.G
open Go.RowKit Go.Proofs.YtobdfehpbgcloaaW.PrintWords
def bits_Len64.f (a0 : Int) : Option Int := if 0 ≤ a0 ∧ a0 ≤ 18446744073709551615 then some (Lib.bitLen a0.toNat) else none
theorem bits_Len64.calls (a0 : Int) (r : Int) (w : World) (h : bits_Len64.f a0 = some r) :
    Calls Try.prog 36 #[.int .u64 a0] w fun e w' => e = .returned (.int .i64 r) ∧ Drawn0 w w' := by
  unfold bits_Len64.f at h
  split at h
  · rename_i hc
    obtain rfl := Option.some.inj h
    refine (len64 a0 w hc.1 hc.2).mono ?_
    rintro e w' ⟨rfl, rfl⟩
    exact ⟨rfl, ⟨0, rfl⟩⟩
  · cases h
end Go.Proofs.Ytobdfehpbgcloaa.G

-- Written by wip/xprint.py, this session's wrapper round the kit's print program. Not trusted: Lean checks it.
namespace Go.Proofs.Ytobdfehpbgcloaa.XTri
open Go.RowKit Go.Proofs.Ytobdfehpbgcloaa.G Go.Proofs.YtobdfehpbgcloaaW.PrintWords Go.Proofs.YtobdfehpbgcloaaW.PrintLast Go.Proofs.YtobdfehpbgcloaaW.PrintMore
attribute [local go_sem] max2_int min2_int max_two min_two max_three min_three max_four min_four   -- for this text's walks alone
set_option linter.unusedVariables false
set_option linter.unusedSimpArgs false



def errW : Option Int → Value
  | none => .nilIface
  | some c => .iface 0 (.int .i64 c)
theorem errW_none : errW none = .nilIface := rfl
theorem errW_some (c : Int) : errW (some c) = .iface 0 (.int .i64 c) := rfl

theorem info4 : (Try.prog.info? 4).map (fun i => (i.zero, i.size, i.bytes)) = some (some (.bool false), 1, 1) := by kernel_rfl
theorem info5 : (Try.prog.info? 5).map (fun i => (i.zero, i.size, i.bytes)) = some (some (.int .u8 0), 1, 1) := by kernel_rfl
theorem info23 : (Try.prog.info? 23).map (fun i => (i.zero, i.size, i.bytes)) = some (some (.int .u64 0), 1, 8) := by kernel_rfl
-- the values' own types

end Go.Proofs.Ytobdfehpbgcloaa.XTri

/- bits.Bits by hand: what an object of bits is in memory; Len, Put. -/
namespace Go.Proofs.Ytobdfehpbgcloaa.GL
open Go.RowKit Go.Proofs.YtobdfehpbgcloaaW.PrintWords Go.Proofs.YtobdfehpbgcloaaW.PrintLast Go.Proofs.YtobdfehpbgcloaaW.PrintMore Go.Proofs.Ytobdfehpbgcloaa.Q Go.Proofs.Ytobdfehpbgcloaa.XTri
set_option linter.unusedVariables false
set_option linter.unusedSimpArgs false
theorem w64_nat {i : Nat} (h : i < 1000000000000) : wrap64 (i : Int) = (i : Int) := w64 (by omega) (by omega)
theorem w64_seven {r : Nat} (h : r < 8) : wrap64 (7 - (r : Int)) = ((7 - r : Nat) : Int) := by
  have e : (7 - (r : Int)) = ((7 - r : Nat) : Int) := by omega
  rw [e]
  exact w64_nat (by omega)
/-- A byte of bits, the first one highest. -/
def byteOf : List Bool → Nat → Int
  | [], _ => 0
  | b :: r, k => (if b = true then 2 ^ (7 - k) else 0) + byteOf r (k + 1)
/-- Bits as bytes. -/
def pack (L : List Bool) : List Int := (List.range ((L.length + 7) / 8)).map fun j => byteOf ((L.drop (8 * j)).take 8) 0
theorem pack_len (L : List Bool) : (pack L).length = (L.length + 7) / 8 := by unfold pack; simp
theorem pack_get (M : List Bool) (i : Nat) : (pack M)[i]? = if i < (M.length + 7) / 8 then some (byteOf ((M.drop (8 * i)).take 8) 0) else none := by
  unfold pack
  rw [List.getElem?_map]
  by_cases hi : i < (M.length + 7) / 8
  · rw [List.getElem?_range hi, if_pos hi]; rfl
  · rw [List.getElem?_eq_none (by simpa using hi), if_neg hi]; rfl
theorem pack_idx (L : List Bool) (h : L.length % 8 ≠ 0) : L.length / 8 < (pack L).length := by rw [pack_len]; omega
/-- A bit more: a byte begins. -/
theorem pack_new (L : List Bool) (h : L.length % 8 = 0) : pack (L ++ [false]) = pack L ++ [0] ∧ pack (L ++ [true]) = pack L ++ [128] := by
  have hl : ∀ x, ((L ++ [x]).length + 7) / 8 = (L.length + 7) / 8 + 1 := fun x => by rw [List.length_append, List.length_singleton]; omega
  have hm : (L.length + 7) / 8 = L.length / 8 := by omega
  have key : ∀ x, pack (L ++ [x]) = pack L ++ [byteOf [x] 0] := by
    intro x
    unfold pack
    rw [hl x, List.range_succ, List.map_append]
    congr 1
    · refine List.map_congr_left fun j hj => ?_
      have hj := List.mem_range.1 hj
      congr 1
      rw [List.drop_append_of_le_length (by omega), List.take_append_of_le_length (by rw [List.length_drop]; omega)]
    · have e : 8 * ((L.length + 7) / 8) = L.length := by omega
      rw [List.map_singleton, e, List.drop_left]
      rfl
  exact ⟨key false, key true⟩
theorem byteOf_snoc : ∀ (l : List Bool) (b : Bool) (k : Nat), byteOf (l ++ [b]) k = byteOf l k + (if b = true then 2 ^ (7 - (k + l.length)) else 0) := by
  intro l
  induction l with
  | nil => intro b k; simp [byteOf]
  | cons x r ih =>
    intro b k
    simp only [List.cons_append, byteOf, ih]
    rw [show k + 1 + r.length = k + (x :: r).length by simp only [List.length_cons]; omega]
    omega
/-- A bit more: in a byte that was begun. -/
theorem pack_old (L : List Bool) (x : Bool) (h : L.length % 8 ≠ 0) : pack (L ++ [x]) = (pack L).set (L.length / 8) ((pack L).getD (L.length / 8) 0 + (if x = true then 2 ^ (7 - L.length % 8) else 0)) := by
  have hl : ((L ++ [x]).length + 7) / 8 = (L.length + 7) / 8 := by rw [List.length_append, List.length_singleton]; omega
  have hlt : L.length / 8 < (L.length + 7) / 8 := by omega
  apply List.ext_getElem?
  intro j
  rw [pack_get, hl, List.getElem?_set, pack_len]
  by_cases hj : j < (L.length + 7) / 8
  · rw [if_pos hj]
    by_cases e : L.length / 8 = j
    · subst e
      rw [if_pos rfl, if_pos hlt, List.getD_eq_getElem?_getD, pack_get, if_pos hlt]
      have hd : (L ++ [x]).drop (8 * (L.length / 8)) = L.drop (8 * (L.length / 8)) ++ [x] := List.drop_append_of_le_length (by omega)
      have h1 : (L.drop (8 * (L.length / 8))).length = L.length % 8 := by rw [List.length_drop]; omega
      rw [hd, List.take_of_length_le (by rw [List.length_append, h1, List.length_singleton]; omega), byteOf_snoc, h1, List.take_of_length_le (by rw [h1]; omega)]
      simp
    · rw [if_neg e, pack_get, if_pos hj]
      congr 2
      rw [List.drop_append_of_le_length (by omega), List.take_append_of_le_length (by rw [List.length_drop]; omega)]
  · rw [if_neg hj, if_neg (by omega), pack_get, if_neg hj]
theorem pack_old0 (L : List Bool) (h : L.length % 8 ≠ 0) : pack (L ++ [false]) = pack L := by
  rw [pack_old L false h]
  apply List.ext_getElem?
  intro j
  rw [List.getElem?_set]
  split
  · rename_i e
    subst e
    split
    · rename_i h2
      simp [List.getD_eq_getElem?_getD, h2]
    · rename_i h2
      rw [List.getElem?_eq_none (by omega)]
  · rfl
/-- What a byte of few bits is: its lowest bits are nought. -/
theorem byteOf_mod : ∀ (l : List Bool) (k : Nat), k + l.length ≤ 8 → 0 ≤ byteOf l k ∧ byteOf l k + 2 ^ (8 - k - l.length) ≤ 2 ^ (8 - k) ∧ byteOf l k % 2 ^ (8 - k - l.length) = 0 := by
  intro l
  induction l with
  | nil => intro k hk; simp [byteOf]
  | cons b r ih =>
    intro k hk
    simp only [List.length_cons] at hk ⊢
    obtain ⟨h0, h1, h2⟩ := ih (k + 1) (by omega)
    have e : 8 - (k + 1) - r.length = 8 - k - (r.length + 1) := by omega
    rw [e] at h1 h2
    have p : (2 : Int) ^ (8 - k) = 2 ^ (7 - k) + 2 ^ (7 - k) := by rw [show 8 - k = (7 - k) + 1 by omega, Int.pow_succ]; omega
    have e7 : 8 - (k + 1) = 7 - k := by omega
    rw [e7] at h1
    have d : (2 : Int) ^ (7 - k) % 2 ^ (8 - k - (r.length + 1)) = 0 := by
      rw [show 7 - k = (8 - k - (r.length + 1)) + r.length by omega, Int.pow_add]
      exact Int.mul_emod_right _ _
    have q : (0 : Int) < 2 ^ (7 - k) := Int.pow_pos (by decide)
    simp only [byteOf]
    cases b
    · simp only [Bool.false_eq_true, if_false, Int.zero_add]
      exact ⟨h0, by omega, h2⟩
    · simp only [if_true]
      refine ⟨by omega, by omega, ?_⟩
      rw [Int.add_emod, d, h2]
      simp
theorem or8 (r : Nat) (hr : r < 8) {c : Int} (h0 : 0 ≤ c) (h1 : c < 256) (h2 : c % 2 ^ (8 - r) = 0) : Go.bits .or .u8 c (2 ^ (7 - r) % 256) = c + 2 ^ (7 - r) := by
  have e : (2 : Int) ^ (7 - r) % 256 = 2 ^ (7 - r) := by
    have : r = 0 ∨ r = 1 ∨ r = 2 ∨ r = 3 ∨ r = 4 ∨ r = 5 ∨ r = 6 ∨ r = 7 := by omega
    rcases this with rfl | rfl | rfl | rfl | rfl | rfl | rfl | rfl <;> rfl
  rw [e]
  exact bits_join .u8 8 (by decide) wraps_u8 (8 - r) c (2 ^ (7 - r)) h0 h2 h1 (Int.le_of_lt (Int.pow_pos (by decide))) (by rw [show 8 - r = (7 - r) + 1 by omega, Int.pow_succ]; have : (0 : Int) < 2 ^ (7 - r) := Int.pow_pos (by decide); omega) (by omega)
/-- The byte that was begun. -/
theorem pack_last (L : List Bool) (h : L.length % 8 ≠ 0) : 0 ≤ (pack L).getD (L.length / 8) 0 ∧ (pack L).getD (L.length / 8) 0 < 256 ∧ (pack L).getD (L.length / 8) 0 % 2 ^ (8 - L.length % 8) = 0 := by
  have hlt : L.length / 8 < (L.length + 7) / 8 := by omega
  have h1 : (L.drop (8 * (L.length / 8))).length = L.length % 8 := by rw [List.length_drop]; omega
  rw [List.getD_eq_getElem?_getD, pack_get, if_pos hlt, List.take_of_length_le (by rw [h1]; omega)]
  have := byteOf_mod (L.drop (8 * (L.length / 8))) 0 (by rw [h1]; omega)
  rw [h1] at this
  simp only [Nat.sub_zero, Option.getD_some] at this ⊢
  have q : (0 : Int) < 2 ^ (8 - L.length % 8) := Int.pow_pos (by decide)
  refine ⟨this.1, ?_, this.2.2⟩
  have := this.2.1
  have e : (2 : Int) ^ 8 = 256 := rfl
  omega
theorem pack_old1 (L : List Bool) (h : L.length % 8 ≠ 0) : pack (L ++ [true]) = (pack L).set (L.length / 8) (Go.bits .or .u8 ((pack L).getD (L.length / 8) 0) (2 ^ (7 - L.length % 8) % 256)) := by
  obtain ⟨h0, h1, h2⟩ := pack_last L h
  rw [pack_old L true h, or8 (L.length % 8) (by omega) h0 h1 h2]
  simp
/-- An object of bits: a block of two cells, the bytes a row of its own. -/
def BitsAt (base : Nat) (w : World) (p : Nat) (v : Value) (L : List Bool) : Prop :=
  w.heap[p]? = some (.cells #[v, .int .i64 L.length] 47 (0, 0)) ∧ base ≤ p ∧ Kd.R (Kd.int .u8) 5 w base (fun k => k ≠ p) v (pack L)
def BO (base : Nat) (w : World) (p : Nat) (L : List Bool) : Prop := ∃ v, BitsAt base w p v L
/-- Blocks of other types than an object's stay. -/
def KeepT (w w' : World) : Prop := w.heap.size ≤ w'.heap.size ∧ ∀ (k : Nat) (cells : Array Value) (t : Nat) r, w.heap[k]? = some (Obj.cells cells t r) → t ≠ 5 → t ≠ 47 → w'.heap[k]? = some (Obj.cells cells t r)
theorem KeepT.refl (w : World) : KeepT w w := ⟨Nat.le_refl _, fun _ _ _ _ h _ _ => h⟩
theorem KeepT.trans {a b c : World} (h : KeepT a b) (k : KeepT b c) : KeepT a c := ⟨Nat.le_trans h.1 k.1, fun i cs t r hi h5 h35 => k.2 i cs t r (h.2 i cs t r hi h5 h35) h5 h35⟩
theorem KeepT.below {w w' : World} (h : Below w.heap.size w w') : KeepT w w' := ⟨h.size, fun k cs t r hk _ _ => (h.block k (blk_lt hk)).trans hk⟩
theorem KeepT.R {α : Type} {d : Kd α} {e base : Nat} {ok : Nat → Prop} {w w' : World} {v : Value} {xs : List α} (hk : KeepT w w') (h : d.R e w base ok v xs) (hE : ∀ q, q ∈ e :: d.E → q ≠ 5 ∧ q ≠ 47) : d.R e w' base ok v xs :=
  Kd.R_mono (Kd.R_move (Kd.R_bound h) (fun k hb => by
    obtain ⟨_, _, _, q, hq, cells, hc⟩ := hb
    rw [hc]
    exact hk.2 k cells q (0, 0) hc (hE q hq).1 (hE q hq).2)) (fun _ hk => hk.1)
theorem BitsAt.below {base p : Nat} {w w' : World} {v : Value} {L : List Bool} (h : BitsAt base w p v L) (hb : Below w.heap.size w w') : BitsAt base w' p v L := ⟨blk_below h.1 hb, h.2.1, Kd.R_below h.2.2 hb⟩
theorem BO.below {base p : Nat} {w w' : World} {L : List Bool} (h : BO base w p L) (hb : Below w.heap.size w w') : BO base w' p L := h.elim fun v h => ⟨v, h.below hb⟩
/-- Bits that are read. -/
def BitsR (w : World) (p : Nat) (L : List Bool) : Prop := ∃ A c, w.heap[p]? = some (.cells #[.slice A (pack L).length c, .int .i64 L.length] 47 (0, 0)) ∧ (pack L).length ≤ c ∧ Kd.C (Kd.int .u8) w A (pack L).length (pack L)
theorem BO.reads {base p : Nat} {w : World} {L : List Bool} (h : BO base w p L) : BitsR w p L := by
  obtain ⟨v, hb, _, hR⟩ := h
  obtain ⟨A, c, rfl, hl, hC⟩ := Kd.R_reads hR
  exact ⟨A, c, hb, hl, hC⟩
theorem BitsR.below {p : Nat} {w w' : World} {L : List Bool} (h : BitsR w p L) (hb : Below w.heap.size w w') : BitsR w' p L := by
  obtain ⟨A, c, hk, hl, hC⟩ := h
  exact ⟨A, c, blk_below hk hb, hl, Kd.C_below hC hb⟩
/-- A pointer to bits, or nil, which has none. -/
def BitsP (w : World) (P : Option Addr) (L : List Bool) : Prop := (P = none ∧ L = []) ∨ ∃ p, P = some ⟨p, 0, none⟩ ∧ BitsR w p L
theorem BitsP.below {w w' : World} {P : Option Addr} {L : List Bool} (h : BitsP w P L) (hb : Below w.heap.size w w') : BitsP w' P L := by
  rcases h with h | ⟨p, hp, h⟩
  · exact .inl h
  · exact .inr ⟨p, hp, h.below hb⟩
theorem BO.toP {base p : Nat} {w : World} {L : List Bool} (h : BO base w p L) : BitsP w (some ⟨p, 0, none⟩) L := .inr ⟨p, rfl, h.reads⟩
theorem BitsP.nil (w : World) : BitsP w none [] := .inl ⟨rfl, rfl⟩
theorem BitsP.drewN {w : World} {P : Option Addr} {L : List Bool} (h : BitsP w P L) (n : Nat) : BitsP (w.drewN n) P L := h.below (pw_below_drewN (Below.refl _ _) n)
set_option maxRecDepth 1000000 in
set_option maxHeartbeats 4000000 in
theorem bits_Len {w : World} {P : Option Addr} {L : List Bool} (h : BitsP w P L) :
    Calls Try.prog 15 #[.pointer P] w fun e w' => e = .returned (.int .i64 L.length) ∧ w = w' := by
  rcases h with ⟨rfl, rfl⟩ | ⟨p, rfl, A, c, hBK, _⟩
  · go_enter Try.func15, Try.ntmps15
    go_wp2
    go_ret
    exact ⟨rfl, rfl⟩
  · have hu := Try.underlying47
    have hc1 : w.cell? ⟨p, 1, none⟩ = some (.int .i64 L.length) := (blk_cell hBK 1).trans rfl
    clear hBK
    go_enter Try.func15, Try.ntmps15
    go_wp2
    go_ret
    exact ⟨rfl, rfl⟩
set_option maxRecDepth 1000000 in
set_option maxHeartbeats 4000000 in
theorem bits_Put_nil (x : Bool) (w : World) : Calls Try.prog 19 #[.pointer none, .bool x] w fun e w' => e = .returned (.tuple #[]) ∧ w = w' := by
  go_enter Try.func19, Try.ntmps19
  go_wp2
  refine bodyPost_ret (results_none rfl _ _ _) rfl ?_
  exact ⟨rfl, rfl⟩
def PutPost (base : Nat) (w : World) (p : Nat) (M : List Bool) (e : Ending) (w' : World) : Prop := e = .returned (.tuple #[]) ∧ BO base w' p M ∧ Below base w w' ∧ KeepT w w'
theorem keep_grown {w w1 : World} {base : Nat} {ok : Nat → Prop} {v : Value} {xs : List Int} (h : Kd.R (Kd.int .u8) 5 w base ok v xs) (hg : w.grownBy w1 v.ownBlock) : KeepT w w1 := by
  refine ⟨hg.size, fun k cs t r hk h5 _ => (hg.block k (blk_lt hk) fun e => ?_).trans hk⟩
  obtain ⟨inner, ho⟩ := Kd.R_own h
  obtain ⟨cells, hc⟩ := own_typed ho k e.symm
  rw [hc] at hk
  injection hk with hk
  injection hk with _ hk
  exact h5 hk.symm
theorem keep_set {w w1 : World} (h : KeepT w w1) {p i : Nat} {cs : Array Value} {t : Nat} (hb : w.heap[p]? = some (.cells cs t (0, 0))) (ht : t = 5 ∨ t = 47) (u : Value) : KeepT w (w1.setCell ⟨p, i, none⟩ u) := by
  refine ⟨Nat.le_trans h.1 (by simp [World.setCell]), fun k cs' t' r hk h5 h35 => ?_⟩
  rw [Below.heap_setCell w1 ⟨p, i, none⟩ u k (fun e => ?_)]
  · exact h.2 k cs' t' r hk h5 h35
  · rw [show k = p from e, hb] at hk
    injection hk with hk
    injection hk with _ hk
    rcases ht with rfl | rfl
    · exact h5 hk.symm
    · exact h35 hk.symm
/-- A block that is new since: it is none of the elder ones. -/
theorem keep_setn {w w1 : World} (h : KeepT w w1) {p i : Nat} (hp : w.heap.size ≤ p) (u : Value) : KeepT w (w1.setCell ⟨p, i, none⟩ u) := by
  refine ⟨Nat.le_trans h.1 (by simp [World.setCell]), fun k cs' t' r hk h5 h35 => ?_⟩
  rw [Below.heap_setCell w1 ⟨p, i, none⟩ u k (fun e => ?_)]
  · exact h.2 k cs' t' r hk h5 h35
  · have := blk_lt hk
    rw [show k = p from e] at this
    omega
set_option maxRecDepth 1000000 in
set_option maxHeartbeats 8000000 in
theorem bits_Put_new0 (base : Nat) (w : World) (p : Nat) (v : Value) (L : List Bool) (h : BitsAt base w p v L) (hb : base ≤ w.heap.size) (hl : L.length < 1000000000000) (hm : L.length % 8 = 0) :
    Calls Try.prog 19 #[.pointer (some ⟨p, 0, none⟩), .bool false] w (PutPost base w p (L ++ [false])) := by
  have hu := Try.underlying47
  obtain ⟨hBK, hp, hR⟩ := h
  have BK := Aside0.mk hBK
  have HK0 := Aside0.mk hBK
  have HO := Aside0.mk hR
  have HP := Aside0.mk hp
  have HBASE := Aside0.mk hb
  have HB := Aside0.mk (Below.refl base w)
  have hc0 : w.cell? ⟨p, 0, none⟩ = some v := (blk_cell hBK 0).trans rfl
  have hc1 : w.cell? ⟨p, 1, none⟩ = some (.int .i64 L.length) := (blk_cell hBK 1).trans rfl
  have hf0 := blk_frozen hBK 0
  have hmod : ((L.length : Int) % 8 == 0) = true := beq_iff_eq.mpr (by omega)
  have HL := Aside0.mk (show ((pack L).length + 1) * 1 ≤ 140737488355328 by rw [pack_len]; omega)
  have HW := Aside0.mk (show wrap64 ((L.length : Int) + 1) = ((L ++ [false]).length : Int) by rw [w64 (by omega) (by omega), List.length_append, List.length_singleton]; omega)
  have HPK := Aside0.mk (pack_new L hm).1
  clear hBK hp hR hb hl hm
  go_enter Try.func19, Try.ntmps19
  go_wp2_with (first
    | ((with_reducible refine gate_builtin (b := .append) (xs := #[.tmp 16, .tmp 17]) rfl ?_); at_builtin; refine Kd.R_append (Kd.int .u8) (w0 := w) base rfl (.tmp 16) (.tmp 17) 45 5 (.int .u8 0) 1 rfl Try.underlying45 (by kernel_rfl) rfl (by decide) (by omega) v (pack L) 0 [.int .u8 0] (fun k_ => k_ ≠ p) (fun _ => False) rfl rfl ?aP (fun _ hk => hk.elim) ?aF ?aO ?aB ?aS ?aL ?_; (case aP => exact rfl); (case aF => exact (fun k_ hk => by have := blk_lt BK.out; omega)); (case aO => exact HO.out); (case aB => exact HB.out); (case aS => exact HBASE.out); (case aL => exact HL.out); intro v1 w1 ho hb hg hat; obtain ⟨g1, cap1, rfl, _⟩ := Kd.R_form ho (by simp); have n0_ := Aside0.mk (blk_grown BK.out hg (fun e => HO.out.1 p e.symm rfl)); have n1_ := Aside0.mk ho; have n2_ := Aside0.mk hb; have HKT := Aside0.mk (keep_grown HO.out hg); clear BK HO HB hc0 hc1 hf0; have BK := n0_; have HO := n1_; have HB := n2_; clear n0_ n1_ n2_ ho hb hg hat; have hc0 : w1.cell? ⟨p, 0, none⟩ = some v := (blk_cell BK.out 0).trans rfl; have hc1 : w1.cell? ⟨p, 1, none⟩ = some (.int .i64 L.length) := (blk_cell BK.out 1).trans rfl; have hf0 := blk_frozen BK.out 0; have hf1 := blk_frozen BK.out 1))
  go_end0
  have hle : (pack L ++ [0]).length = (pack L).length + 1 := by simp
  rw [hle] at HO
  refine ⟨rfl, ⟨.slice (some ⟨g1, 0, none⟩) ((pack L).length + 1) cap1, ⟨?_, HP.out, ?_⟩⟩, (HB.out.setCell (p := ⟨p, 0, none⟩) HP.out _).setCell (p := ⟨p, 1, none⟩) HP.out _, keep_set (keep_set HKT.out HK0.out (.inr rfl) _) HK0.out (.inr rfl) _⟩
  · rw [HW.out]
    refine blk_put (cs := #[.slice (some ⟨g1, 0, none⟩) ((pack L).length + 1) cap1, .int .i64 L.length]) ?_ 1 _ rfl
    exact blk_put BK.out 0 _ rfl
  · rw [HPK.out]
    exact Kd.R_far (p := ⟨p, 1, none⟩) (Kd.R_far (p := ⟨p, 0, none⟩) HO.out (fun _ h => h) _) (fun _ h => h) _
set_option maxRecDepth 1000000 in
set_option maxHeartbeats 8000000 in
theorem bits_Put_old0 (base : Nat) (w : World) (p : Nat) (v : Value) (L : List Bool) (h : BitsAt base w p v L) (hl : L.length < 1000000000000) (hm : L.length % 8 ≠ 0) :
    Calls Try.prog 19 #[.pointer (some ⟨p, 0, none⟩), .bool false] w (PutPost base w p (L ++ [false])) := by
  have hu := Try.underlying47
  obtain ⟨hBK, hp, hR⟩ := h
  have BK := Aside0.mk hBK
  have HO := Aside0.mk hR
  have HP := Aside0.mk hp
  have HB := Aside0.mk (Below.refl base w)
  have hc1 : w.cell? ⟨p, 1, none⟩ = some (.int .i64 L.length) := (blk_cell hBK 1).trans rfl
  have hf1 := blk_frozen hBK 1
  have hmod : ((L.length : Int) % 8 == 0) = false := beq_eq_false_iff_ne.mpr (by omega)
  have HW := Aside0.mk (show wrap64 ((L.length : Int) + 1) = ((L ++ [false]).length : Int) by rw [w64 (by omega) (by omega), List.length_append, List.length_singleton]; omega)
  have HPK := Aside0.mk (pack_old0 L hm)
  clear hBK hp hR hl hm
  go_enter Try.func19, Try.ntmps19
  go_wp2
  go_end0
  refine ⟨rfl, ⟨v, ⟨?_, HP.out, ?_⟩⟩, HB.out.setCell (p := ⟨p, 1, none⟩) HP.out _, keep_set (KeepT.refl w) BK.out (.inr rfl) _⟩
  · rw [HW.out]
    exact blk_put BK.out 1 _ rfl
  · rw [HPK.out]
    exact Kd.R_far (p := ⟨p, 1, none⟩) HO.out (fun _ h => h) _
end Go.Proofs.Ytobdfehpbgcloaa.GL

/- bits.Put by hand: a bit that is set; all four ways together. -/
namespace Go.Proofs.Ytobdfehpbgcloaa.GL
open Go.RowKit Go.Proofs.YtobdfehpbgcloaaW.PrintWords Go.Proofs.YtobdfehpbgcloaaW.PrintLast Go.Proofs.YtobdfehpbgcloaaW.PrintMore Go.Proofs.Ytobdfehpbgcloaa.Q Go.Proofs.Ytobdfehpbgcloaa.XTri
set_option linter.unusedVariables false
set_option linter.unusedSimpArgs false
set_option maxRecDepth 1000000 in
set_option maxHeartbeats 8000000 in
theorem put_old1_core (w : World) (p g m cap n i r : Nat) (c : Int) (hi0 : (n : Int) / 8 = (i : Int)) (hmr : (n : Int) % 8 = (r : Int)) (hmod : ((r : Int) == 0) = false) (hpg : p ≠ g) (hgp : g ≠ p)
    (hc0 : w.cell? ⟨p, 0, none⟩ = some (.slice (some ⟨g, 0, none⟩) m cap)) (hc1 : w.cell? ⟨p, 1, none⟩ = some (.int .i64 n)) (hf1 : w.frozen? ⟨p, 1, none⟩ = false)
    (hx : w.cell? ⟨g, i, none⟩ = some (.int .u8 c)) (hf : w.frozen? ⟨g, i, none⟩ = false) (hq : (i : Int) < (m : Int)) (hq2 : i < m)
    (hwi : wrap64 (i : Int) = (i : Int)) (hwj : IntKind.i64.wrap (i : Int) = (i : Int)) (hsub : wrap64 (7 - (r : Int)) = ((7 - r : Nat) : Int)) (hsub2 : IntKind.i64.wrap (7 - (r : Int)) = ((7 - r : Nat) : Int)) :
    Calls Try.prog 19 #[.pointer (some ⟨p, 0, none⟩), .bool true] w fun e w' => e = .returned (.tuple #[]) ∧ w' = ((w.setCell ⟨g, i, none⟩ (.int .u8 (Go.bits .or .u8 c (2 ^ (7 - r) % 256)))).setCell ⟨p, 1, none⟩ (.int .i64 (wrap64 ((n : Int) + 1)))).drew := by
  have hu := Try.underlying47
  go_enter Try.func19, Try.ntmps19
  go_wp2
  go_region
  all_goals (go_wp2; go_end0; exact ⟨rfl, rfl⟩)
set_option maxRecDepth 1000000 in
set_option maxHeartbeats 8000000 in
theorem bits_Put_old1 (base : Nat) (w : World) (p : Nat) (v : Value) (L : List Bool) (h : BitsAt base w p v L) (hl : L.length < 1000000000000) (hm : L.length % 8 ≠ 0) :
    Calls Try.prog 19 #[.pointer (some ⟨p, 0, none⟩), .bool true] w (PutPost base w p (L ++ [true])) := by
  obtain ⟨hBK, hp, hR⟩ := h
  have hlt := pack_idx L hm
  obtain ⟨g, cap, rfl, hgb, hgl, cells, HG⟩ := Kd.R_form hR (Nat.lt_of_le_of_lt (Nat.zero_le _) hlt)
  obtain ⟨hx, hf⟩ := Kd.R_celln 0 hR ((L.length / 8 : Nat) : Int) (Int.natCast_nonneg _) (Int.ofNat_lt.2 hlt)
  have hgp : g ≠ p := hR.1 g rfl
  have hRS := (Kd.R_putg hR ((L.length / 8 : Nat) : Int) (Go.bits .or .u8 ((pack L).getD (L.length / 8) 0) (2 ^ (7 - L.length % 8) % 256))).1
  have hi8 : L.length / 8 < 1000000000000 := Nat.lt_of_le_of_lt (Nat.div_le_self _ _) hl
  have hr8 : L.length % 8 < 8 := Nat.mod_lt _ (by decide)
  have hW : wrap64 ((L.length : Int) + 1) = ((L ++ [true]).length : Int) := by rw [w64 (by omega) (by omega), List.length_append, List.length_singleton]; rfl
  refine (put_old1_core w p g (pack L).length cap L.length (L.length / 8) (L.length % 8) ((pack L).getD (L.length / 8) 0) rfl rfl (beq_eq_false_iff_ne.mpr (by omega)) (fun e => hgp e.symm) hgp
    ((blk_cell hBK 0).trans rfl) ((blk_cell hBK 1).trans rfl) (blk_frozen hBK 1) hx hf (Int.ofNat_lt.2 hlt) hlt (w64_nat hi8) ((i64_w _).trans (w64_nat hi8)) (w64_seven hr8) ((i64_w _).trans (w64_seven hr8))).mono ?_
  rintro e w' ⟨rfl, rfl⟩
  refine ⟨rfl, ⟨.slice (some ⟨g, 0, none⟩) (pack L).length cap, ⟨?_, hp, ?_⟩⟩, ((((Below.refl base w).setCell (p := ⟨g, L.length / 8, none⟩) hgb _).setCell (p := ⟨p, 1, none⟩) hp _)).drew, ?_⟩
  · rw [hW]
    exact blk_drew (blk_put (blk_far hBK (fun e => hgp e.symm) _) 1 _ rfl)
  · rw [pack_old1 L hm]
    exact Kd.R_drew (Kd.R_far (p := ⟨p, 1, none⟩) hRS (fun _ h => h) _)
  · exact keep_set (keep_set (KeepT.refl w) HG (.inl rfl) _) hBK (.inr rfl) _
theorem keep_row {w W : World} {base g n c i : Nat} {ok : Nat → Prop} {v u : Value} {xs : List Int} (h : Kd.R (Kd.int .u8) 5 w base ok v xs) (hat : (Value.slice (some ⟨g, 0, none⟩) n c).ownBlock = v.ownBlock ∨ ∃ b, (Value.slice (some ⟨g, 0, none⟩) n c).ownBlock = some b ∧ w.heap.size ≤ b) (hk : KeepT w W) : KeepT w (W.setCell ⟨g, i, none⟩ u) := by
  rcases hat with hat | ⟨b, hb, hle⟩
  · obtain ⟨inner, ho⟩ := Kd.R_own h
    obtain ⟨cells, hc⟩ := own_typed ho g (by rw [← hat]; rfl)
    exact keep_set hk hc (.inl rfl) u
  · have e : g = b := by injection hb
    exact keep_setn hk (by omega) u
theorem last_cell {w1 : World} {base g i cap : Nat} {ok : Nat → Prop} {P : List Int} (ho : Kd.R (Kd.int .u8) 5 w1 base ok (.slice (some ⟨g, 0, none⟩) (P.length + 1) cap) (P ++ [0])) (hi : i = P.length) : w1.cell? ⟨g, i, none⟩ = some (.int .u8 0) ∧ w1.frozen? ⟨g, i, none⟩ = false := by
  obtain ⟨hx, hf⟩ := Kd.R_celln 0 ho (i : Int) (Int.natCast_nonneg _) (by omega)
  refine ⟨?_, hf⟩
  have e : rdOf 0 (P ++ [0]) (i : Int) = 0 := by rw [hi]; simp [rdOf]
  rw [e] at hx
  exact hx
set_option maxRecDepth 1000000 in
set_option maxHeartbeats 8000000 in
theorem bits_Put_new1 (base : Nat) (w : World) (p : Nat) (v : Value) (L : List Bool) (h : BitsAt base w p v L) (hb : base ≤ w.heap.size) (hl : L.length < 1000000000000) (hm : L.length % 8 = 0) :
    Calls Try.prog 19 #[.pointer (some ⟨p, 0, none⟩), .bool true] w (PutPost base w p (L ++ [true])) := by
  have hu := Try.underlying47
  obtain ⟨hBK, hp, hR⟩ := h
  obtain ⟨n, hn⟩ : ∃ n, n = L.length := ⟨_, rfl⟩
  obtain ⟨i, hi⟩ : ∃ i, i = (pack L).length := ⟨_, rfl⟩
  have hni : n = 8 * i := by rw [hi, hn, pack_len]; omega
  have hmod : ((n : Int) % 8 == 0) = true := beq_iff_eq.mpr (by omega)
  have hmr : (n : Int) % 8 = 0 := by omega
  have hi0 : (n : Int) / 8 = (i : Int) := by omega
  have hi8 : i < 1000000000000 := by omega
  have hwi := w64_nat hi8
  have hwj := (i64_w _).trans hwi
  have hq : (i : Int) < ((pack L).length : Int) + 1 := by omega
  have hq2 : i < (pack L).length + 1 := by omega
  have BK := Aside0.mk hBK
  have HK0 := Aside0.mk hBK
  have HO := Aside0.mk hR
  have HP := Aside0.mk hp
  have HBASE := Aside0.mk hb
  have HB := Aside0.mk (Below.refl base w)
  have hc0 : w.cell? ⟨p, 0, none⟩ = some v := (blk_cell hBK 0).trans rfl
  have hc1 : w.cell? ⟨p, 1, none⟩ = some (.int .i64 n) := by rw [hn]; exact (blk_cell hBK 1).trans rfl
  have hf0 := blk_frozen hBK 0
  have HL := Aside0.mk (show ((pack L).length + 1) * 1 ≤ 140737488355328 by rw [← hi]; omega)
  have HW := Aside0.mk (show wrap64 ((n : Int) + 1) = ((L ++ [true]).length : Int) by rw [hn, w64 (by omega) (by omega), List.length_append, List.length_singleton]; rfl)
  have HPK := Aside0.mk (pack_new L hm).2
  have HI := Aside0.mk hi
  have HN := Aside0.mk hn
  have hlen : (pack L ++ [0]).length = (pack L).length + 1 := by rw [List.length_append, List.length_singleton]
  have HLEN := Aside0.mk hlen
  clear hBK hp hR hb hl hm hi hn hni hi8 hlen
  go_enter Try.func19, Try.ntmps19
  go_wp2_with (first
    | ((with_reducible refine gate_builtin (b := .append) (xs := #[.tmp 16, .tmp 17]) rfl ?_); at_builtin; refine Kd.R_append (Kd.int .u8) (w0 := w) base rfl (.tmp 16) (.tmp 17) 45 5 (.int .u8 0) 1 rfl Try.underlying45 (by kernel_rfl) rfl (by decide) (by omega) v (pack L) 0 [.int .u8 0] (fun k_ => k_ ≠ p) (fun _ => False) rfl rfl ?aP (fun _ hk => hk.elim) ?aF ?aO ?aB ?aS ?aL ?_; (case aP => exact rfl); (case aF => exact (fun k_ hk => by have := blk_lt BK.out; omega)); (case aO => exact HO.out); (case aB => exact HB.out); (case aS => exact HBASE.out); (case aL => exact HL.out); intro v1 w1 ho hb hg hat; obtain ⟨g1, cap1, rfl, hgb1, _, cells1, hg1⟩ := Kd.R_form ho (by simp); rw [HLEN.out] at ho; have hgp : g1 ≠ p := ho.1 g1 rfl; have hpg : p ≠ g1 := fun e => hgp e.symm; obtain ⟨hx, hf⟩ := last_cell ho HI.out; have HRS := Aside0.mk (Kd.R_putg ho (i : Int) 128).1; have n0_ := Aside0.mk (blk_grown BK.out hg (fun e => HO.out.1 p e.symm rfl)); have n1_ := Aside0.mk ho; have n2_ := Aside0.mk hb; have HKT := Aside0.mk (keep_grown HO.out hg); have HGB := Aside0.mk hgb1; have HKS := Aside0.mk (fun {W : World} (h_ : KeepT w W) => keep_row HO.out hat h_ (i := i) (u := .int .u8 128)); clear BK HO HB hc0 hc1 hf0; have BK := n0_; have HO := n1_; have HB := n2_; clear n0_ n1_ n2_ ho hb hg hat hgb1 hg1; have hc0 : w1.cell? ⟨p, 0, none⟩ = some v := (blk_cell BK.out 0).trans rfl; have hc1 : w1.cell? ⟨p, 1, none⟩ = some (.int .i64 n) := (by rw [HN.out]; exact (blk_cell BK.out 1).trans rfl); have hf0 := blk_frozen BK.out 0; have hf1 := blk_frozen BK.out 1))
  go_region
  all_goals
    go_wp2
    go_end0
    have hR1 := (Kd.R_putg (Kd.R_far (p := ⟨p, 0, none⟩) HO.out (fun _ h => h) (.slice (some ⟨g1, 0, none⟩) ((pack L).length + 1) cap1)) (i : Int) 128).1
    have hset : (pack L ++ [0]).set (i : Int).toNat 128 = pack L ++ [128] := by
      rw [Int.toNat_natCast, HI.out, List.set_append_right _ _ (Nat.le_refl _), Nat.sub_self]
      rfl
    rw [hset, ← HPK.out] at hR1
    rw [show Go.bits .or .u8 0 128 = 128 from rfl, HW.out]
    refine ⟨rfl, ⟨.slice (some ⟨g1, 0, none⟩) ((pack L).length + 1) cap1, ⟨?_, HP.out, ?_⟩⟩, (((HB.out.setCell (p := ⟨p, 0, none⟩) HP.out _).setCell (p := ⟨g1, i, none⟩) HGB.out _).setCell (p := ⟨p, 1, none⟩) HP.out _).drew, ?_⟩
    · exact blk_drew (blk_put (blk_far (blk_put BK.out 0 _ rfl) hpg _) 1 _ rfl)
    · exact Kd.R_drew (Kd.R_far (p := ⟨p, 1, none⟩) hR1 (fun _ h => h) _)
    · refine keep_set (w1 := (w1.setCell ⟨p, 0, none⟩ _).setCell ⟨g1, i, none⟩ _) ?_ HK0.out (.inr rfl) _
      have hq : KeepT w (w1.setCell ⟨p, 0, none⟩ (.slice (some ⟨g1, 0, none⟩) ((pack L).length + 1) cap1)) := keep_set HKT.out HK0.out (.inr rfl) _
      exact HKS.out hq
/-- One bit more. -/
theorem bits_Put {base : Nat} {w : World} {p : Nat} {L : List Bool} (x : Bool) (h : BO base w p L) (hb : base ≤ w.heap.size) (hl : L.length < 1000000000000) :
    Calls Try.prog 19 #[.pointer (some ⟨p, 0, none⟩), .bool x] w (PutPost base w p (L ++ [x])) := by
  obtain ⟨v, h⟩ := h
  by_cases hm : L.length % 8 = 0
  · cases x
    · exact bits_Put_new0 base w p v L h hb hl hm
    · exact bits_Put_new1 base w p v L h hb hl hm
  · cases x
    · exact bits_Put_old0 base w p v L h hl hm
    · exact bits_Put_old1 base w p v L h hl hm
end Go.Proofs.Ytobdfehpbgcloaa.GL

/- bits.At by hand. -/
namespace Go.Proofs.Ytobdfehpbgcloaa.GL
open Go.RowKit Go.Proofs.YtobdfehpbgcloaaW.PrintWords Go.Proofs.YtobdfehpbgcloaaW.PrintLast Go.Proofs.YtobdfehpbgcloaaW.PrintMore Go.Proofs.Ytobdfehpbgcloaa.Q Go.Proofs.Ytobdfehpbgcloaa.XTri
set_option linter.unusedVariables false
set_option linter.unusedSimpArgs false
/-- A bit of a byte. -/
theorem byteOf_bit : ∀ (l : List Bool) (k j : Nat), k + l.length ≤ 8 → k + j < 8 → byteOf l k / 2 ^ (7 - (k + j)) % 2 = if l.getD j false = true then 1 else 0 := by
  intro l
  induction l with
  | nil => intro k j _ _; simp [byteOf]
  | cons b r ih =>
    intro k j hk hj
    simp only [List.length_cons] at hk
    obtain ⟨h0, h1, _⟩ := byteOf_mod r (k + 1) (by omega)
    have e7 : 8 - (k + 1) = 7 - k := by omega
    rw [e7] at h1
    have q0 : (0 : Int) < 2 ^ (7 - k - r.length) := Int.pow_pos (by decide)
    have q : (0 : Int) < 2 ^ (7 - k) := Int.pow_pos (by decide)
    simp only [byteOf]
    cases j with
    | zero =>
      simp only [Nat.add_zero, List.getD_cons_zero]
      have hy : byteOf r (k + 1) / 2 ^ (7 - k) = 0 := Int.ediv_eq_zero_of_lt h0 (by omega)
      cases b
      · simp [hy]
      · simp only [if_true]
        rw [Int.add_ediv_of_dvd_left (Int.dvd_refl _), hy, Int.ediv_self (by omega)]
        rfl
    | succ j =>
      simp only [List.getD_cons_succ]
      have := ih (k + 1) j (by omega) (by omega)
      rw [show k + 1 + j = k + (j + 1) by omega] at this
      rw [← this]
      cases b
      · simp
      · simp only [if_true]
        have e : (2 : Int) ^ (7 - k) = 2 ^ (7 - (k + (j + 1))) * (2 * 2 ^ j) := by
          rw [← Int.pow_succ', ← Int.pow_add]
          congr 1
          omega
        have q2 : (2 : Int) ^ (7 - (k + (j + 1))) ≠ 0 := Int.ne_of_gt (Int.pow_pos (by decide))
        rw [Int.add_ediv_of_dvd_left (by rw [e]; exact Int.dvd_mul_right _ _), e, Int.mul_ediv_cancel_left _ q2]
        omega
/-- A bit of bits, by the byte that holds it. -/
theorem pack_bit (L : List Bool) (n : Nat) (h : n < L.length) : (pack L).getD (n / 8) 0 / 2 ^ (7 - n % 8) % 2 = if L.getD n false = true then 1 else 0 := by
  have hlt : n / 8 < (L.length + 7) / 8 := by omega
  rw [List.getD_eq_getElem?_getD, pack_get, if_pos hlt, Option.getD_some]
  have hb := byteOf_bit ((L.drop (8 * (n / 8))).take 8) 0 (n % 8) (by rw [List.length_take]; omega) (by omega)
  rw [Nat.zero_add] at hb
  rw [hb]
  have e : ((L.drop (8 * (n / 8))).take 8).getD (n % 8) false = L.getD n false := by
    rw [List.getD_eq_getElem?_getD, List.getD_eq_getElem?_getD, List.getElem?_take, if_pos (by omega), List.getElem?_drop]
    congr 2
    omega
  rw [e]
theorem byteOf_byt : ∀ (l : List Bool) (k : Nat), k + l.length ≤ 8 → 0 ≤ byteOf l k ∧ byteOf l k < 256 := by
  intro l k h
  have := byteOf_mod l k h
  have q0 : (0 : Int) < 2 ^ (8 - k - l.length) := Int.pow_pos (by decide)
  have q1 : (2 : Int) ^ (8 - k) ≤ 2 ^ 8 := by have := Nat.pow_le_pow_right (n := 2) (by decide) (show 8 - k ≤ 8 by omega); exact_mod_cast this
  have e : (2 : Int) ^ 8 = 256 := rfl
  omega
theorem pack_byt (L : List Bool) : Byt (pack L) := by
  intro x hx
  obtain ⟨j, hj⟩ := List.mem_iff_getElem?.1 hx
  rw [pack_get] at hj
  split at hj
  · injection hj with hj
    rw [← hj]
    exact byteOf_byt _ 0 (by rw [List.length_take]; omega)
  · cases hj
theorem byt_getD {l : List Int} (h : Byt l) (n : Nat) : 0 ≤ l.getD n 0 ∧ l.getD n 0 < 256 := by
  rw [List.getD_eq_getElem?_getD]
  cases e : l[n]? with
  | none => simp
  | some x => exact h x (List.mem_of_getElem? e)
theorem and1_u8 {c : Int} {n : Nat} (h0 : 0 ≤ c) (h1 : c < 256) : Go.bits .and .u8 (c / 2 ^ n) 1 = c / 2 ^ n % 2 := by
  have q : (0 : Int) < 2 ^ n := Int.pow_pos (by decide)
  have h2 : 0 ≤ c / 2 ^ n := Int.ediv_nonneg h0 (by omega)
  have h3 : c / 2 ^ n ≤ c := Int.ediv_le_self _ h0
  exact bits_mask .u8 8 (by decide) wraps_u8 1 (by decide) (c / 2 ^ n) h2 (by omega)
/-- bits.At. -/
def atB (L : List Bool) (i : Int) : Bool := decide (0 ≤ i) && L.getD i.toNat false
set_option maxRecDepth 1000000 in
set_option maxHeartbeats 4000000 in
theorem bits_At_in {w : World} {P : Option Addr} {L : List Bool} (n : Nat) (h : BitsP w P L) (hn : n < L.length) (hl : L.length < 1000000000000) :
    Calls Try.prog 28 #[.pointer P, .int .i64 n] w fun e w' => e = .returned (.bool (L.getD n false)) ∧ w = w' := by
  have hu := Try.underlying47
  rcases h with ⟨rfl, rfl⟩ | ⟨p, rfl, A, c, hBK, hlc, hC⟩
  · cases hn
  · have hq : n / 8 < (pack L).length := by rw [pack_len]; omega
    obtain ⟨ad, rfl, hx⟩ := Kd.at_int hC ((n / 8 : Nat) : Int) (Int.natCast_nonneg _) (Int.ofNat_lt.2 hq)
    have HL := Aside0.mk (show BitsP w (some ⟨p, 0, none⟩) L from .inr ⟨p, rfl, _, c, hBK, hlc, hC⟩)
    have hc0 : w.cell? ⟨p, 0, none⟩ = some (.slice (some ad) (pack L).length c) := (blk_cell hBK 0).trans rfl
    have hx2 : w.cell? (ad.add (n / 8)) = some (.int .u8 ((pack L).getD (n / 8) 0)) := hx
    obtain ⟨b, hb⟩ : ∃ b, b = (pack L).getD (n / 8) 0 := ⟨_, rfl⟩
    obtain ⟨q, hq0⟩ : ∃ q, q = n / 8 := ⟨_, rfl⟩
    obtain ⟨r, hr0⟩ : ∃ r, r = n % 8 := ⟨_, rfl⟩
    have h1 : (n : Int) / 8 = (q : Int) := by omega
    have h2 : (n : Int) % 8 = (r : Int) := by omega
    have h5 : (q : Int) < ((pack L).length : Int) := by omega
    have h8 : q < 1000000000000 := by omega
    have h9 : r < 8 := by omega
    have h6 : decide (n < L.length) = true := decide_eq_true hn
    have h3 := w64_seven h9
    have h4 := w64_nat h8
    rw [← hb, ← hq0] at hx2
    have HB := Aside0.mk hb
    have HQ := Aside0.mk hq0
    have HR := Aside0.mk hr0
    have HN := Aside0.mk hn
    clear hBK hlc hC hx hb hq0 hr0 hq hn hl h8 h9
    go_enter Try.func28, Try.ntmps28
    go_wp2_with (first | (go_at_call 15; refine (bits_Len HL.out).mono ?_; rintro e w' ⟨rfl, rfl⟩))
    go_ret
    refine ⟨?_, rfl⟩
    have hbit := pack_bit L n HN.out
    rw [← HQ.out, ← HR.out] at hbit
    have hbb := byt_getD (pack_byt L) q
    rw [HQ.out, ← HB.out] at hbb
    rw [HQ.out, ← HB.out] at hbit
    show Ending.returned (.bool (Go.bits .and .u8 (b / 2 ^ (7 - r)) 1 == 1)) = _
    rw [and1_u8 hbb.1 hbb.2, hbit]
    cases L.getD n false <;> rfl
set_option maxRecDepth 1000000 in
set_option maxHeartbeats 4000000 in
theorem bits_At_out {w : World} {P : Option Addr} {L : List Bool} (i : Int) (h : BitsP w P L) (hi : i < 0 ∨ (L.length : Int) ≤ i) :
    Calls Try.prog 28 #[.pointer P, .int .i64 i] w fun e w' => e = .returned (.bool false) ∧ w = w' := by
  have HL := Aside0.mk h
  by_cases h0 : i < 0
  · have h7 : ¬ (0 : Int) ≤ i := by omega
    have h8 := decide_eq_false h7
    clear h hi
    go_enter Try.func28, Try.ntmps28
    go_wp2
    go_ret
    exact ⟨rfl, rfl⟩
  · have h7 : 0 ≤ i := by omega
    have h8 : decide (i < (L.length : Int)) = false := decide_eq_false (by omega)
    clear h hi h0
    go_enter Try.func28, Try.ntmps28
    go_wp2_with (first | (go_at_call 15; refine (bits_Len HL.out).mono ?_; rintro e w' ⟨rfl, rfl⟩))
    go_ret
    exact ⟨rfl, rfl⟩
theorem bits_At {w : World} {P : Option Addr} {L : List Bool} (i : Int) (h : BitsP w P L) (hl : L.length < 1000000000000) :
    Calls Try.prog 28 #[.pointer P, .int .i64 i] w fun e w' => e = .returned (.bool (atB L i)) ∧ w = w' := by
  by_cases hi : i < 0 ∨ (L.length : Int) ≤ i
  · have e : atB L i = false := by
      unfold atB
      rcases hi with hi | hi
      · rw [decide_eq_false (by omega), Bool.false_and]
      · rw [List.getD_eq_getElem?_getD, List.getElem?_eq_none (by omega)]
        simp
    rw [e]
    exact bits_At_out i h hi
  · obtain ⟨n, rfl⟩ := Int.eq_ofNat_of_zero_le (show 0 ≤ i by omega)
    have e : atB L (n : Int) = L.getD n false := by
      unfold atB
      rw [decide_eq_true (by omega), Bool.true_and]
      rfl
    rw [e]
    exact bits_At_in n h (by omega) hl
end Go.Proofs.Ytobdfehpbgcloaa.GL

/- bits.PutNum and bits.Num by hand. -/
namespace Go.Proofs.Ytobdfehpbgcloaa.GL
open Go.RowKit Go.Proofs.YtobdfehpbgcloaaW.PrintWords Go.Proofs.YtobdfehpbgcloaaW.PrintLast Go.Proofs.YtobdfehpbgcloaaW.PrintMore Go.Proofs.Ytobdfehpbgcloaa.Q Go.Proofs.Ytobdfehpbgcloaa.XTri
set_option linter.unusedVariables false
set_option linter.unusedSimpArgs false
/-- A number's lowest bits, the highest one first. -/
def numBits (x : Int) : Nat → List Bool
  | 0 => []
  | n + 1 => (x / 2 ^ n % 2 == 1) :: numBits x n
theorem numBits_len (x : Int) : ∀ n, (numBits x n).length = n
  | 0 => rfl
  | n + 1 => by rw [numBits, List.length_cons, numBits_len x n]
theorem and1_u64 {c : Int} (h0 : 0 ≤ c) (h1 : c < 18446744073709551616) : Go.bits .and .u64 c 1 = c % 2 := bits_mask .u64 64 (by decide) wraps_u64 1 (by decide) c h0 (by omega)
theorem and1_shr {x : Int} (n : Nat) (h0 : 0 ≤ x) (h1 : x < 18446744073709551616) : Go.bits .and .u64 (x / 2 ^ n) 1 = x / 2 ^ n % 2 := by
  have h2 : 0 ≤ x / 2 ^ n := Int.ediv_nonneg h0 (Int.le_of_lt (Int.pow_pos (by decide)))
  have h3 : x / 2 ^ n ≤ x := Int.ediv_le_self _ h0
  exact and1_u64 h2 (by omega)
def NumPost (base : Nat) (w : World) (p : Nat) (M : List Bool) (e : Ending) (w' : World) : Prop := e = .returned (.tuple #[]) ∧ BO base w' p M ∧ Below base w w' ∧ KeepT w w'
set_option maxRecDepth 1000000 in
set_option maxHeartbeats 8000000 in
theorem bits_PutNum_in {base : Nat} {w : World} {p : Nat} {L : List Bool} (x : Int) (n : Nat) (h : BO base w p L) (hb : base ≤ w.heap.size) (hl : L.length < 100000000000) (hn : n ≤ 64) (hx0 : 0 ≤ x) (hx1 : x < 18446744073709551616) :
    Calls Try.prog 37 #[.pointer (some ⟨p, 0, none⟩), .int .u64 x, .int .i64 n] w (NumPost base w p (L ++ numBits x n)) := by
  have HO := Aside0.mk h
  have HBASE := Aside0.mk hb
  have HL := Aside0.mk hl
  have HB := Aside0.mk (Below.refl base w)
  have HK := Aside0.mk (KeepT.refl w)
  clear h hb hl
  have hn1 : decide ((n : Int) < 0) = false := decide_eq_false (by omega)
  have hn2 : decide ((64 : Int) < (n : Int)) = false := decide_eq_false (by omega)
  go_enter Try.func37, Try.ntmps37
  go_wp2
  go_loopw [6] (fun v6 wr => ∃ (k : Nat) (D : List Bool), v6 = .int .i64 ((k : Int) - 1) ∧ k ≤ n ∧ Aside0 (numBits x n = D ++ numBits x k) ∧ Aside0 (BO base wr p (L ++ D)) ∧ Aside0 (Below base w wr) ∧ Aside0 (KeepT w wr)) (fun v _ => (intOf v + 1).toNat)
  case atStart => exact ⟨n, [], by first | rfl | go_num, Nat.le_refl _, ⟨rfl⟩, ⟨by rw [List.append_nil]; exact HO.out⟩, HB, HK⟩
  case round =>
    clear HO HB HK
    obtain ⟨k, D, rfl, hk, HD, HO, HB, HK⟩ := hrel
    cases k with
    | zero =>
      have h1 : decide ((0 : Int) ≤ ((0 : Nat) : Int) - 1) = false := rfl
      go_wp2
      go_end0
      refine ⟨rfl, ?_, HB.out, HK.out⟩
      rw [HD.out, numBits, List.append_nil]
      exact HO.out
    | succ k =>
      have h0 : ((k + 1 : Nat) : Int) - 1 = (k : Int) := by omega
      rw [h0]
      clear h0
      have hlen := Aside0.mk (show (L ++ D).length < 1000000000000 by
        have h1 := HL.out
        have h2 := congrArg List.length HD.out
        rw [numBits_len, List.length_append, numBits_len] at h2
        rw [List.length_append]
        omega)
      have hand := and1_shr k hx0 hx1
      go_wp2_with (first | (go_at_call 19; refine (bits_Put _ HO.out (Nat.le_trans HBASE.out HB.out.size) hlen.out).mono ?_; rintro e w2 ⟨rfl, hO, hb, hkk⟩))
      refine ⟨⟨k, D ++ [x / 2 ^ k % 2 == 1], rfl, Nat.le_of_succ_le hk, ⟨by rw [HD.out, numBits, List.append_assoc]; rfl⟩, ⟨by rw [← List.append_assoc]; exact hO⟩, ⟨HB.out.trans hb⟩, ⟨HK.out.trans hkk⟩⟩, ?_⟩
      simp [intOf]
/-- Numbers of no length, or of too great a one, put nothing. -/
theorem bits_PutNum_no {w : World} {P : Option Addr} (x n : Int) (hn : n < 0 ∨ 64 < n) :
    Calls Try.prog 37 #[.pointer P, .int .u64 x, .int .i64 n] w fun e w' => e = .returned (.tuple #[]) ∧ w = w' := by
  by_cases h0 : n < 0
  · have h1 := decide_eq_true h0
    clear hn
    go_enter Try.func37, Try.ntmps37
    go_wp2
    refine bodyPost_ret (results_none rfl _ _ _) rfl ?_
    exact ⟨rfl, rfl⟩
  · have h1 := decide_eq_false h0
    have h2 : decide (64 < n) = true := decide_eq_true (by omega)
    clear hn
    go_enter Try.func37, Try.ntmps37
    go_wp2
    refine bodyPost_ret (results_none rfl _ _ _) rfl ?_
    exact ⟨rfl, rfl⟩
set_option maxRecDepth 1000000 in
set_option maxHeartbeats 8000000 in
theorem bits_PutNum_nil {w : World} (x : Int) (n : Nat) (hn : n ≤ 64) (hx0 : 0 ≤ x) (hx1 : x < 18446744073709551616) :
    Calls Try.prog 37 #[.pointer none, .int .u64 x, .int .i64 n] w fun e w' => e = .returned (.tuple #[]) ∧ w = w' := by
  have hn1 : decide ((n : Int) < 0) = false := decide_eq_false (by omega)
  have hn2 : decide ((64 : Int) < (n : Int)) = false := decide_eq_false (by omega)
  go_enter Try.func37, Try.ntmps37
  go_wp2
  go_loopw [6] (fun v6 wr => ∃ (k : Nat), v6 = .int .i64 ((k : Int) - 1) ∧ k ≤ n ∧ w = wr) (fun v _ => (intOf v + 1).toNat)
  case atStart => exact ⟨n, by first | rfl | go_num, Nat.le_refl _, rfl⟩
  case round =>
    obtain ⟨k, rfl, hk, rfl⟩ := hrel
    cases k with
    | zero =>
      have h1 : decide ((0 : Int) ≤ ((0 : Nat) : Int) - 1) = false := rfl
      go_wp2
      go_end0
      exact ⟨rfl, rfl⟩
    | succ k =>
      have h0 : ((k + 1 : Nat) : Int) - 1 = (k : Int) := by omega
      rw [h0]
      clear h0
      have hand := and1_shr k hx0 hx1
      go_wp2_with (first | (go_at_call 19; refine (bits_Put_nil _ _).mono ?_; rintro e w2 ⟨rfl, rfl⟩))
      refine ⟨⟨k, rfl, Nat.le_of_succ_le hk, trivial⟩, ?_⟩
      simp [intOf]
/-- Bits as a number. -/
def numOf (L : List Bool) : Int := L.foldl (fun a b => 2 * a + if b = true then 1 else 0) 0
theorem numOf_snoc (L : List Bool) (b : Bool) : numOf (L ++ [b]) = 2 * numOf L + if b = true then 1 else 0 := by simp [numOf]
theorem numOf_bd : ∀ (n : Nat) (L : List Bool), L.length = n → 0 ≤ numOf L ∧ numOf L < 2 ^ n := by
  intro n
  induction n with
  | zero => intro L h; rw [List.length_eq_zero_iff.1 h]; simp [numOf]
  | succ n ih =>
    intro L h
    have hne : L ≠ [] := by intro e; rw [e] at h; cases h
    rw [← List.dropLast_concat_getLast hne, numOf_snoc]
    obtain ⟨h0, h1⟩ := ih L.dropLast (by rw [List.length_dropLast]; omega)
    rw [Int.pow_succ]
    split <;> omega
/-- bits.Num. -/
def numAt (L : List Bool) (at_ n : Int) : Option Int := if 0 ≤ n ∧ n ≤ 64 ∧ 0 ≤ at_ ∧ at_ + n ≤ L.length then some (numOf ((L.drop at_.toNat).take n.toNat)) else none
theorem or1_u64 {c : Int} (h0 : 0 ≤ c) (h1 : c < 18446744073709551616) (h2 : c % 2 = 0) : Go.bits .or .u64 c 1 = c + 1 :=
  bits_join .u64 64 (by decide) wraps_u64 1 c 1 h0 h2 h1 (by decide) (by decide) (by decide)
set_option maxRecDepth 1000000 in
set_option maxHeartbeats 8000000 in
theorem bits_Num_in {w : World} {P : Option Addr} {L : List Bool} (i n : Nat) (h : BitsP w P L) (hl : L.length < 100000000000) (hn : n ≤ 64) (hi : i + n ≤ L.length) :
    Calls Try.prog 35 #[.pointer P, .int .i64 i, .int .i64 n] w fun e w' => e = .returned (.tuple #[.int .u64 (numOf ((L.drop i).take n)), .bool true]) ∧ w = w' := by
  have HL := Aside0.mk h
  have HLL := Aside0.mk (show L.length < 1000000000000 by omega)
  have HI := Aside0.mk hi
  have hn1 : decide ((n : Int) < 0) = false := decide_eq_false (by omega)
  have hn2 : decide ((64 : Int) < (n : Int)) = false := decide_eq_false (by omega)
  have hi1 : decide ((i : Int) < 0) = false := decide_eq_false (by omega)
  have hi2 : decide ((L.length : Int) - (n : Int) < (i : Int)) = false := decide_eq_false (by omega)
  have hil : (i : Int) < 100000000000 := by omega
  have hll : (L.length : Int) < 100000000000 := by omega
  clear h hl hi
  go_enter Try.func35, Try.ntmps35
  go_wp2_with (first | (go_at_call 15; refine (bits_Len HL.out).mono ?_; rintro e w' ⟨rfl, rfl⟩))
  go_loop [8, 29] (fun v8 v29 => ∃ (k : Nat), v29 = .int .i64 k ∧ v8 = .int .u64 (numOf ((L.drop i).take k)) ∧ k ≤ n) (fun _ v => n - (intOf v).toNat)
  case atStart => exact ⟨0, by first | rfl | go_num, by first | rfl | simp [numOf], Nat.zero_le _⟩
  case round =>
    obtain ⟨k, rfl, rfl, hk⟩ := hrel
    obtain ⟨x, hx⟩ : ∃ x, x = numOf ((L.drop i).take k) := ⟨_, rfl⟩
    rw [← hx]
    by_cases hlt : k < n
    · have hbd := numOf_bd k ((L.drop i).take k) (by rw [List.length_take, List.length_drop]; have := HI.out; omega)
      rw [← hx] at hbd
      have h2p : (2 : Int) ^ k ≤ 2 ^ 63 := by have := Nat.pow_le_pow_right (n := 2) (by decide) (show k ≤ 63 by omega); exact_mod_cast this
      have e63 : (2 : Int) ^ 63 = 9223372036854775808 := rfl
      have hx0 : 0 ≤ x := hbd.1
      have hx1 : x * 2 < 18446744073709551616 := by omega
      have hat : atB L ((i : Int) + (k : Int)) = L.getD (i + k) false := by
        unfold atB
        rw [decide_eq_true (by omega), Bool.true_and]
        congr 1
      have HS := Aside0.mk (show numOf ((L.drop i).take (k + 1)) = 2 * x + if L.getD (i + k) false = true then 1 else 0 by
        have hkl : k < (L.drop i).length := by rw [List.length_drop]; have := HI.out; omega
        rw [List.take_succ_eq_append_getElem hkl, numOf_snoc, ← hx]
        congr 2
        rw [List.getElem_drop, List.getD_eq_getElem?_getD, List.getElem?_eq_getElem (by have := HI.out; omega)]
        rfl)
      clear hbd h2p e63
      have HX := Aside0.mk hx
      clear hx
      by_cases hb : L.getD (i + k) false = true
      · rw [hb] at hat HS
        clear hb
        go_wp2_with (first | (go_at_call 28; refine (bits_At _ HL.out HLL.out).mono ?_; rw [hat]; rintro e w' ⟨rfl, rfl⟩))
        go_round
        case rel =>
          refine ⟨k + 1, by go_num, ?_, by omega⟩
          rw [HS.out, or1_u64 (by omega) hx1 (by omega)]
          simp only [if_true]
          rw [Int.mul_comm]
        case measure => simp [intOf]; omega
      · have hb := Bool.eq_false_iff.2 hb
        rw [hb] at hat HS
        clear hb
        go_wp2_with (first | (go_at_call 28; refine (bits_At _ HL.out HLL.out).mono ?_; rw [hat]; rintro e w' ⟨rfl, rfl⟩))
        go_round
        case rel =>
          refine ⟨k + 1, by go_num, ?_, by omega⟩
          rw [HS.out]
          simp only [Bool.false_eq_true, if_false, Int.add_zero]
          rw [Int.mul_comm]
        case measure => simp [intOf]; omega
    · obtain rfl : k = n := by omega
      go_wp2
      go_ret2
      exact ⟨rfl, rfl⟩
set_option maxRecDepth 1000000 in
set_option maxHeartbeats 8000000 in
theorem bits_Num_out {w : World} {P : Option Addr} {L : List Bool} (i n : Int) (h : BitsP w P L) (hl : L.length < 100000000000) (hbad : ¬ (0 ≤ n ∧ n ≤ 64 ∧ 0 ≤ i ∧ i + n ≤ L.length)) :
    Calls Try.prog 35 #[.pointer P, .int .i64 i, .int .i64 n] w fun e w' => e = .returned (.tuple #[.int .u64 0, .bool false]) ∧ w = w' := by
  have HL := Aside0.mk h
  by_cases h0 : n < 0
  · have h1 := decide_eq_true h0
    clear hbad h hl
    go_enter Try.func35, Try.ntmps35
    go_wp2
    go_ret2
    exact ⟨rfl, rfl⟩
  · have h1 := decide_eq_false h0
    by_cases h2 : 64 < n
    · have h3 := decide_eq_true h2
      clear hbad h hl
      go_enter Try.func35, Try.ntmps35
      go_wp2
      go_ret2
      exact ⟨rfl, rfl⟩
    · have h3 := decide_eq_false h2
      by_cases h4 : i < 0
      · have h5 := decide_eq_true h4
        clear hbad h hl
        go_enter Try.func35, Try.ntmps35
        go_wp2
        go_ret2
        exact ⟨rfl, rfl⟩
      · have h5 := decide_eq_false h4
        have h6 : decide ((L.length : Int) - n < i) = true := decide_eq_true (by omega)
        have hll : (L.length : Int) < 100000000000 := by omega
        have hn0 : 0 ≤ n := by omega
        have hn6 : n ≤ 64 := by omega
        clear hbad h hl h0 h2 h4
        go_enter Try.func35, Try.ntmps35
        go_wp2_with (first | (go_at_call 15; refine (bits_Len HL.out).mono ?_; rintro e w' ⟨rfl, rfl⟩))
        go_ret2
        exact ⟨rfl, rfl⟩
def numR (o : Option Int) : Value := .tuple #[.int .u64 (o.getD 0), .bool o.isSome]
theorem bits_Num {w : World} {P : Option Addr} {L : List Bool} (i n : Int) (h : BitsP w P L) (hl : L.length < 100000000000) :
    Calls Try.prog 35 #[.pointer P, .int .i64 i, .int .i64 n] w fun e w' => e = .returned (numR (numAt L i n)) ∧ w = w' := by
  by_cases hg : 0 ≤ n ∧ n ≤ 64 ∧ 0 ≤ i ∧ i + n ≤ L.length
  · have e : numAt L i n = some (numOf ((L.drop i.toNat).take n.toNat)) := if_pos hg
    rw [e]
    obtain ⟨i, rfl⟩ := Int.eq_ofNat_of_zero_le hg.2.2.1
    obtain ⟨n, rfl⟩ := Int.eq_ofNat_of_zero_le hg.1
    exact bits_Num_in i n h hl (by omega) (by omega)
  · have e : numAt L i n = none := if_neg hg
    rw [e]
    exact bits_Num_out i n h hl hg
end Go.Proofs.Ytobdfehpbgcloaa.GL

/- bytes.Clone, bits.Bytes, bits.Of, loesslaw6.Of by hand. -/

namespace Go.Proofs.Ytobdfehpbgcloaa.GL
open Go.RowKit Go.Proofs.YtobdfehpbgcloaaW.PrintWords Go.Proofs.YtobdfehpbgcloaaW.PrintLast Go.Proofs.YtobdfehpbgcloaaW.PrintMore Go.Proofs.Ytobdfehpbgcloaa.Q Go.Proofs.Ytobdfehpbgcloaa.XTri
set_option linter.unusedVariables false
set_option linter.unusedSimpArgs false
def ClonePost (w : World) (l : List Int) (e : Ending) (w' : World) : Prop := ∃ v, e = .returned v ∧ Kd.R (Kd.int .u8) 5 w' w.heap.size (fun _ => True) v l ∧ Below w.heap.size w w'
set_option maxRecDepth 1000000 in
set_option maxHeartbeats 4000000 in
theorem bytes_Clone {w : World} {A : Option Addr} {c : Nat} {l : List Int} (hC : Kd.C (Kd.int .u8) w A l.length l) (hl : l.length ≤ 1000000000000) :
    Calls Try.prog 34 #[.slice A l.length c] w (ClonePost w l) := by
  have hnil := fun (W : World) (a : Option Addr) (n c' : Nat) => Lib.run_eql_slice_nil W 45 5 a n c' 0 0 Try.underlying45
  cases A with
  | none =>
    have he : l = [] := by
      cases l with
      | nil => rfl
      | cons x r => obtain ⟨ad, e, _⟩ := Kd.at_int hC 0 (by omega) (by simp only [List.length_cons]; omega); cases e
    subst he
    clear hC hl
    go_enter Try.func34, Try.ntmps34
    go_wp2
    go_ret
    exact ⟨_, rfl, Kd.R_nil _ _ _ _ _, Below.refl _ _⟩
  | some ad =>
    have HC := Aside0.mk hC
    have HL := Aside0.mk hl
    have HB := Aside0.mk (Below.refl w.heap.size w)
    clear hC hl
    go_enter Try.func34, Try.ntmps34
    go_wp2_with (first
      | ((with_reducible refine gate_dst (N := 5) rfl ?_); refine Kd.R_lit (Kd.int .u8) (w0 := w) w.heap.size 5 rfl (N := 5) rfl (xs := ([] : List Int)) (inner := []) (ok := fun _ => True) (okp := fun _ => True) ?aR ⟨by simp, fun j p hj => by simp at hj⟩ (fun _ h => h) trivial HB.out (below_size HB.out) (by decide) ?_; (case aR => first | (go_simp; done) | (go_simp; rfl)); intro v5 w5 ho hb hg hat; have n0_ := Aside0.mk ho; have n1_ := Aside0.mk hb; have n2_ := Aside0.mk (Kd.C_below HC.out hb); clear HB HC ho hb hg hat; have HO := n0_; have HB := n1_; have HC := n2_; clear n0_ n1_ n2_)
      | ((with_reducible refine gate_builtin (b := .append) (xs := #[.tmp 5, .tmp 6]) rfl ?_); at_builtin; refine Kd.R_append_rows (Kd.int .u8) (w0 := w) w.heap.size rfl (.tmp 5) (.tmp 6) 45 5 (.int .u8 0) 1 rfl Try.underlying45 (by kernel_rfl) rfl (by decide) (by omega) _ ([] : List Int) l _ _ _ (fun _ => True) (fun _ => False) rfl rfl ?aO ?aR (fun _ _ h => h) (fun _ h => h.elim) ?aF ?aB ?aS ?aL ?_; (case aR => exact HC.out); (case aB => exact HB.out); (case aF => exact (fun _ _ => trivial)); (case aO => exact HO.out); (case aS => exact below_size HB.out); (case aL => have := HL.out; simp only [List.length_nil]; omega); intro v7 w7 ho hb hg hat; rw [List.nil_append] at ho; have n0_ := Aside0.mk ho; have n1_ := Aside0.mk hb; clear HO HB ho hb hg hat; have HO := n0_; have HB := n1_; clear n0_ n1_))
    go_ret
    exact ⟨_, rfl, HO.out, HB.out⟩
set_option maxRecDepth 1000000 in
set_option maxHeartbeats 4000000 in
theorem bits_Bytes {w : World} {P : Option Addr} {L : List Bool} (h : BitsP w P L) (hl : L.length < 100000000000) :
    Calls Try.prog 26 #[.pointer P] w (ClonePost w (pack L)) := by
  have hu := Try.underlying47
  rcases h with ⟨rfl, rfl⟩ | ⟨p, rfl, A, c, hBK, hlc, hC⟩
  · go_enter Try.func26, Try.ntmps26
    go_wp2
    go_ret
    exact ⟨_, rfl, Kd.R_nil _ _ _ _ _, Below.refl _ _⟩
  · have hc0 : w.cell? ⟨p, 0, none⟩ = some (.slice A (pack L).length c) := (blk_cell hBK 0).trans rfl
    have HC := Aside0.mk hC
    have HL := Aside0.mk (show (pack L).length ≤ 1000000000000 by rw [pack_len]; omega)
    clear hBK hlc hC hl
    go_enter Try.func26, Try.ntmps26
    go_wp2_with (first | (go_at_call 34; refine (bytes_Clone HC.out HL.out).mono ?_; rintro e w' ⟨v, rfl, hR, hb⟩))
    go_ret
    exact ⟨v, rfl, hR, hb⟩
/-- A new object. -/
theorem BO.new {base : Nat} {w : World} {p : Nat} (h : w.heap[p]? = some (.cells #[.slice none 0 0, .int .i64 0] 47 (0, 0))) (hp : base ≤ p) : BO base w p [] := ⟨_, h, hp, Kd.R_nil _ _ _ _ _⟩
/-- A pointer to new bits. -/
def NewPost (w : World) (L : List Bool) (e : Ending) (w' : World) : Prop := ∃ p, e = .returned (.pointer (some ⟨p, 0, none⟩)) ∧ BO w.heap.size w' p L ∧ Below w.heap.size w w'
set_option maxRecDepth 1000000 in
set_option maxHeartbeats 8000000 in
theorem law_Of {w : World} {A : Option Addr} {c : Nat} {L : List Bool} (hC : Kd.C Kd.bool w A L.length L) (hl : L.length < 100000000000) :
    Calls Try.prog 9 #[.slice A L.length c] w (NewPost w L) := by
  have hu := Try.underlying47
  have HC := Aside0.mk hC
  have HL := Aside0.mk hl
  have HB := Aside0.mk (Below.refl w.heap.size w)
  clear hC hl
  go_enter Try.func9, Try.ntmps9
  go_wp2_with (first
    | ((with_reducible refine gate_dst (N := 5) rfl ?_); refine box_event ?hg (N := 5) ?hd (cs := #[.slice none 0 0, .int .i64 0]) (t := 47) ?hr ?_; (case hd => rfl); (case hg => rfl); (case hr => first | (go_simp; done) | (go_simp; rfl)); intro g5 hg w5 hbox hb; have n0_ := Aside0.mk (BO.new (base := w.heap.size) hbox (by rw [hg]; exact Nat.le_refl _)); have n1_ := Aside0.mk hb; clear HB; have HO := n0_; have HB := n1_; clear n0_ n1_; clear hb hbox hg))
  go_loopw [4] (fun v4 wr => ∃ (k : Nat), v4 = .int .i64 k ∧ k ≤ L.length ∧ Aside0 (BO w.heap.size wr g5 (L.take k)) ∧ Aside0 (Below w.heap.size w wr)) (fun v _ => L.length - (intOf v).toNat)
  case atStart => exact ⟨0, by first | rfl | go_num, Nat.zero_le _, HO, HB⟩
  case round =>
    clear HO HB
    obtain ⟨k, rfl, hk, HO, HB⟩ := hrel
    by_cases hlt : k < L.length
    · obtain ⟨ad, e, hx⟩ := Kd.at_bool (Kd.C_below HC.out HB.out) (k : Int) (Int.natCast_nonneg _) (Int.ofNat_lt.2 hlt)
      cases e
      replace hx : wr.cell? (ad.add k) = some (.bool (L.getD k false)) := hx
      have HS := Aside0.mk (List.take_succ_eq_append_getElem hlt)
      have HLN := Aside0.mk (show (L.take k).length < 1000000000000 by rw [List.length_take]; have := HL.out; omega)
      have hll : L.length < 100000000000 := HL.out
      go_wp2_with (first | (go_at_call 19; refine (bits_Put _ HO.out HB.out.size HLN.out).mono ?_; rintro e w2 ⟨rfl, hO, hb, hkk⟩))
      refine ⟨⟨k + 1, by first | rfl | go_num, hlt, ⟨by rw [HS.out]; exact hO⟩, ⟨HB.out.trans hb⟩⟩, ?_⟩
      simp [intOf]
      omega
    · go_wp2
      go_ret
      have e : L.take k = L := List.take_of_length_le (by omega)
      rw [e] at HO
      exact ⟨g5, rfl, HO.out, HB.out⟩
/-- Bytes as so many bits. -/
def bitAt (p : List Int) (i : Nat) : Bool := p.getD (i / 8) 0 / 2 ^ (7 - i % 8) % 2 == 1
def unpack (p : List Int) (n : Nat) : List Bool := (List.range n).map (bitAt p)
theorem unpack_len (p : List Int) (n : Nat) : (unpack p n).length = n := by simp [unpack]
theorem unpack_succ (p : List Int) (n : Nat) : unpack p (n + 1) = unpack p n ++ [bitAt p n] := by unfold unpack; rw [List.range_succ, List.map_append]; rfl
/-- bits.Of. -/
def ofBits (p : List Int) (n : Int) : Option (List Bool) := if 0 ≤ n ∧ n ≤ 8 * p.length ∧ pack (unpack p n.toNat) = p then some (unpack p n.toNat) else none
def OfPost (w : World) (o : Option (List Bool)) (e : Ending) (w' : World) : Prop :=
  Below w.heap.size w w' ∧ match o with
  | some L => ∃ p, e = .returned (.tuple #[.pointer (some ⟨p, 0, none⟩), .bool true]) ∧ BO w.heap.size w' p L
  | none => e = .returned (.tuple #[.pointer none, .bool false])
end Go.Proofs.Ytobdfehpbgcloaa.GL

/- gamma.Get, All, Put by hand. -/
namespace Go.Proofs.Ytobdfehpbgcloaa.GL
open Go.RowKit Go.Proofs.YtobdfehpbgcloaaW.PrintWords Go.Proofs.YtobdfehpbgcloaaW.PrintLast Go.Proofs.YtobdfehpbgcloaaW.PrintMore Go.Proofs.Ytobdfehpbgcloaa.Q Go.Proofs.Ytobdfehpbgcloaa.XTri Go.Proofs.Ytobdfehpbgcloaa.G
set_option linter.unusedVariables false
set_option linter.unusedSimpArgs false
/-- How many bits that aren't set stand ahead, so many at most. -/
def zeros : List Bool → Nat → Nat
  | _, 0 => 0
  | [], _ => 0
  | b :: r, m + 1 => if b = true then 0 else zeros r m + 1
theorem zeros_spec : ∀ (l : List Bool) (m : Nat), zeros l m ≤ m ∧ zeros l m ≤ l.length ∧ (∀ k, k < zeros l m → l.getD k false = false) ∧ (zeros l m < m → zeros l m < l.length → l.getD (zeros l m) false = true) := by
  intro l
  induction l with
  | nil => intro m; cases m <;> simp [zeros]
  | cons b r ih =>
    intro m
    cases m with
    | zero => simp [zeros]
    | succ m =>
      obtain ⟨h1, h2, h3, h4⟩ := ih m
      cases b
      · simp only [zeros, Bool.false_eq_true, if_false, List.length_cons]
        refine ⟨by omega, by omega, fun k hk => ?_, fun ha hb => ?_⟩
        · cases k with
          | zero => rfl
          | succ k => rw [List.getD_cons_succ]; exact h3 k (by omega)
        · rw [List.getD_cons_succ]
          exact h4 (by omega) (by omega)
      · simp [zeros]
/-- gamma.Get. -/
def getG (L : List Bool) (at_ : Int) : Option (Int × Int) :=
  if at_ < 0 then none else
  if zeros (L.drop at_.toNat) 64 = 64 then none else
  (numAt L (at_ + zeros (L.drop at_.toNat) 64) (zeros (L.drop at_.toNat) 64 + 1)).map fun x => (x, at_ + 2 * zeros (L.drop at_.toNat) 64 + 1)
def getR (at_ : Int) : Option (Int × Int) → Value
  | some (x, e) => .tuple #[.int .u64 x, .int .i64 e, .bool true]
  | none => .tuple #[.int .u64 0, .int .i64 at_, .bool false]
set_option maxRecDepth 1000000 in
set_option maxHeartbeats 8000000 in
theorem gamma_Get_in {w : World} {P : Option Addr} {L : List Bool} (i : Nat) (h : BitsP w P L) (hl : L.length < 100000000000) (hi : i < L.length) :
    Calls Try.prog 29 #[.pointer P, .int .i64 i] w fun e w' => e = .returned (getR i (getG L i)) ∧ w = w' := by
  have HL := Aside0.mk h
  have HLL := Aside0.mk hl
  have HI := Aside0.mk hi
  obtain ⟨z, hz⟩ : ∃ z, z = zeros (L.drop i) 64 := ⟨_, rfl⟩
  have hsp := zeros_spec (L.drop i) 64
  rw [← hz] at hsp
  have HSP := Aside0.mk hsp
  have hz64 : z ≤ 64 := hsp.1
  have HG := Aside0.mk (show getG L i = if z = 64 then none else (numAt L ((i : Int) + (z : Int)) ((z : Int) + 1)).map fun x => (x, (i : Int) + 2 * (z : Int) + 1) by
    unfold getG
    rw [if_neg (by omega), Int.toNat_natCast, ← hz])
  have hi1 : decide ((i : Int) < 0) = false := decide_eq_false (by omega)
  have hi2 : decide (L.length ≤ i) = false := decide_eq_false (by omega)
  have hil : (i : Int) < 100000000000 := by omega
  have HLLL := Aside0.mk (show L.length < 1000000000000 by omega)
  have hll : (L.length : Int) < 100000000000 := by omega
  clear h hl hi hsp hz
  go_enter Try.func29, Try.ntmps29
  go_wp2_with (first | (go_at_call 15; refine (bits_Len HL.out).mono ?_; rintro e w' ⟨rfl, rfl⟩))
  go_loop [7] (fun v7 => ∃ (k : Nat), v7 = .int .i64 k ∧ k ≤ z) (fun v => z - (intOf v).toNat)
  case atStart => exact ⟨0, by first | rfl | go_num, Nat.zero_le _⟩
  case round =>
    obtain ⟨k, rfl, hk⟩ := hrel
    have hdl : (L.drop i).length = L.length - i := List.length_drop
    by_cases hlt : k < z
    · have h1 : decide ((k : Int) < 64) = true := decide_eq_true (by omega)
      have h2 : decide ((i : Int) + (k : Int) < (L.length : Int)) = true := decide_eq_true (by have := HSP.out.2.1; omega)
      have hk64 : (k : Int) < 64 := by omega
      have HLT := Aside0.mk hlt
      have hat : atB L ((i : Int) + (k : Int)) = false := by
        have := HSP.out.2.2.1 k hlt
        rw [List.getD_eq_getElem?_getD, List.getElem?_drop, ← List.getD_eq_getElem?_getD] at this
        unfold atB
        rw [decide_eq_true (by omega), Bool.true_and]
        exact this
      clear hdl hlt
      go_wp2_with (first | (go_at_call 15; refine (bits_Len HL.out).mono ?_; rintro e w' ⟨rfl, rfl⟩) | (go_at_call 28; refine (bits_At _ HL.out HLLL.out).mono ?_; rw [hat]; rintro e w' ⟨rfl, rfl⟩))
      go_round
      case rel => exact ⟨k + 1, by go_num, HLT.out⟩
      case measure => have := HLT.out; simp [intOf]; omega
    · obtain rfl : k = z := by omega
      have hk64 : (k : Int) ≤ 64 := by omega
      clear hk hlt
      by_cases h64 : k = 64
      · have HE := Aside0.mk (show getG L i = none by rw [HG.out, if_pos h64])
        subst h64
        clear hdl
        go_wp2
        go_ret3
        rw [HE.out]
        exact ⟨rfl, rfl⟩
      · have h1 : decide ((k : Int) < 64) = true := decide_eq_true (by omega)
        have h3 : ((k : Int) == 64) = false := beq_eq_false_iff_ne.mpr (by omega)
        have HE := Aside0.mk (show getG L i = (numAt L ((i : Int) + (k : Int)) ((k : Int) + 1)).map fun x => (x, (i : Int) + 2 * (k : Int) + 1) by rw [HG.out, if_neg h64])
        obtain ⟨o, ho⟩ : ∃ o, o = numAt L ((i : Int) + (k : Int)) ((k : Int) + 1) := ⟨_, rfl⟩
        rw [← ho] at HE
        have HOO := Aside0.mk ho
        clear ho
        by_cases hend : L.length ≤ i + k
        · have h2 : decide ((i : Int) + (k : Int) < (L.length : Int)) = false := decide_eq_false (by omega)
          clear hdl h64 hend
          cases o
          · go_wp2_with (first | (go_at_call 15; refine (bits_Len HL.out).mono ?_; rintro e w' ⟨rfl, rfl⟩) | (go_at_call 35; refine (bits_Num _ _ HL.out HLL.out).mono ?_; rw [← HOO.out]; rintro e w' ⟨rfl, rfl⟩; simp only [numR, Option.getD_none, Option.isSome_none]))
            go_ret3
            rw [HE.out]
            exact ⟨rfl, rfl⟩
          · go_wp2_with (first | (go_at_call 15; refine (bits_Len HL.out).mono ?_; rintro e w' ⟨rfl, rfl⟩) | (go_at_call 35; refine (bits_Num _ _ HL.out HLL.out).mono ?_; rw [← HOO.out]; rintro e w' ⟨rfl, rfl⟩; simp only [numR, Option.getD_some, Option.isSome_some]))
            go_ret3
            rw [HE.out]
            exact ⟨rfl, rfl⟩
        · have h2 : decide ((i : Int) + (k : Int) < (L.length : Int)) = true := decide_eq_true (by omega)
          have hat : atB L ((i : Int) + (k : Int)) = true := by
            have := HSP.out.2.2.2 (by omega) (by omega)
            rw [List.getD_eq_getElem?_getD, List.getElem?_drop, ← List.getD_eq_getElem?_getD] at this
            unfold atB
            rw [decide_eq_true (by omega), Bool.true_and]
            exact this
          clear hdl h64 hend
          cases o
          · go_wp2_with (first | (go_at_call 15; refine (bits_Len HL.out).mono ?_; rintro e w' ⟨rfl, rfl⟩) | (go_at_call 28; refine (bits_At _ HL.out HLLL.out).mono ?_; rw [hat]; rintro e w' ⟨rfl, rfl⟩) | (go_at_call 35; refine (bits_Num _ _ HL.out HLL.out).mono ?_; rw [← HOO.out]; rintro e w' ⟨rfl, rfl⟩; simp only [numR, Option.getD_none, Option.isSome_none]))
            go_ret3
            rw [HE.out]
            exact ⟨rfl, rfl⟩
          · go_wp2_with (first | (go_at_call 15; refine (bits_Len HL.out).mono ?_; rintro e w' ⟨rfl, rfl⟩) | (go_at_call 28; refine (bits_At _ HL.out HLLL.out).mono ?_; rw [hat]; rintro e w' ⟨rfl, rfl⟩) | (go_at_call 35; refine (bits_Num _ _ HL.out HLL.out).mono ?_; rw [← HOO.out]; rintro e w' ⟨rfl, rfl⟩; simp only [numR, Option.getD_some, Option.isSome_some]))
            go_ret3
            rw [HE.out]
            exact ⟨rfl, rfl⟩
theorem numAt_none {L : List Bool} {i : Int} {n : Int} (h : (L.length : Int) < i + n) : numAt L i n = none := if_neg (fun hc => by omega)
set_option maxRecDepth 1000000 in
set_option maxHeartbeats 8000000 in
theorem gamma_Get {w : World} {P : Option Addr} {L : List Bool} (i : Int) (h : BitsP w P L) (hl : L.length < 100000000000) :
    Calls Try.prog 29 #[.pointer P, .int .i64 i] w fun e w' => e = .returned (getR i (getG L i)) ∧ w = w' := by
  by_cases h0 : i < 0
  · have h1 := decide_eq_true h0
    have HE := Aside0.mk (show getG L i = none from if_pos h0)
    clear h hl
    go_enter Try.func29, Try.ntmps29
    go_wp2
    go_ret3
    rw [HE.out]
    exact ⟨rfl, rfl⟩
  · by_cases hi : i < (L.length : Int)
    · obtain ⟨i, rfl⟩ := Int.eq_ofNat_of_zero_le (show 0 ≤ i by omega)
      exact gamma_Get_in i h hl (by omega)
    · have h1 := decide_eq_false h0
      have h2 : decide ((L.length : Int) ≤ i) = true := decide_eq_true (by omega)
      have HL := Aside0.mk h
      have HE := Aside0.mk (show getG L i = none by
        unfold getG
        rw [if_neg h0, List.drop_of_length_le (by omega)]
        have e : zeros ([] : List Bool) 64 = 0 := rfl
        rw [e, if_neg (by decide), numAt_none (by omega)]
        rfl)
      clear h hl
      go_enter Try.func29, Try.ntmps29
      go_wp2_with (first | (go_at_call 15; refine (bits_Len HL.out).mono ?_; rintro e w' ⟨rfl, rfl⟩))
      go_ret3
      rw [HE.out]
      exact ⟨rfl, rfl⟩
/-- gamma.All. -/
def allG (L : List Bool) : Int → Nat → Option (List Int × Int)
  | at_, 0 => some ([], at_)
  | at_, n + 1 => match getG L at_ with
    | none => none
    | some (x, e) => (allG L e n).map fun q => (x :: q.1, q.2)
def allI (L : List Bool) (at_ n : Int) : Option (List Int × Int) := if n < 0 then none else allG L at_ n.toNat
def AllPost (w : World) (at_ : Int) (o : Option (List Int × Int)) (e : Ending) (w' : World) : Prop :=
  Below w.heap.size w w' ∧ match o with
  | some (l, t) => ∃ v, e = .returned (.tuple #[v, .int .i64 t, .bool true]) ∧ Kd.R (Kd.int .u64) 23 w' w.heap.size (fun _ => True) v l
  | none => e = .returned (.tuple #[.slice none 0 0, .int .i64 at_, .bool false])
/-- gamma.Put's bits. -/
def gammaBits (x : Int) : List Bool := if x = 0 then [] else numBits 0 (Lib.bitLen x.toNat - 1) ++ numBits x (Lib.bitLen x.toNat)
theorem bitLen_pos {n : Nat} (h : n ≠ 0) : 0 < Lib.bitLen n := by
  rw [Lib.bitLen, show (64 : Nat) = 63 + 1 from rfl, Lib.bitLenAux, if_neg h]
  omega
def GPutPost (base : Nat) (w : World) (p : Nat) (M : List Bool) (e : Ending) (w' : World) : Prop := e = .returned (.bool true) ∧ BO base w' p M ∧ Below base w w' ∧ KeepT w w'
set_option maxRecDepth 1000000 in
set_option maxHeartbeats 8000000 in
theorem gamma_Put_in {base : Nat} {w : World} {p : Nat} {L : List Bool} (x : Int) (h : BO base w p L) (hb : base ≤ w.heap.size) (hl : L.length < 10000000000) (hx0 : 0 < x) (hx1 : x < 18446744073709551616) (h64 : Lib.bitLen x.toNat ≤ 64) :
    Calls Try.prog 31 #[.pointer (some ⟨p, 0, none⟩), .int .u64 x] w (GPutPost base w p (L ++ gammaBits x)) := by
  obtain ⟨k, hk⟩ : ∃ k, k = Lib.bitLen x.toNat := ⟨_, rfl⟩
  have hkp : 0 < k := by rw [hk]; exact bitLen_pos (by omega)
  rw [← hk] at h64
  have hx : ¬ x = 0 := by omega
  have hxb : (x == 0) = false := beq_eq_false_iff_ne.mpr hx
  have HE := Aside0.mk (show L ++ gammaBits x = (L ++ numBits 0 (k - 1)) ++ numBits x k by rw [gammaBits, if_neg hx, ← hk, List.append_assoc])
  have HLN := Aside0.mk (show bits_Len64.f x = some (k : Int) by rw [bits_Len64.f, if_pos ⟨by omega, by omega⟩, ← hk])
  have HO := Aside0.mk h
  have HBASE := Aside0.mk hb
  have HL := Aside0.mk hl
  have HB := Aside0.mk (Below.refl base w)
  have HK := Aside0.mk (KeepT.refl w)
  have hk1 : (k : Int) - 1 = ((k - 1 : Nat) : Int) := by omega
  have hk64 : (k : Int) ≤ 64 := by omega
  have HP0 := Aside0.mk (fun (W : World) (h : BO base W p L) (hb : base ≤ W.heap.size) => bits_PutNum_in (w := W) 0 (k - 1) h hb (by omega) (by omega) (by decide) (by decide))
  have HP1 := Aside0.mk (fun (W : World) (h : BO base W p (L ++ numBits 0 (k - 1))) (hb : base ≤ W.heap.size) => bits_PutNum_in (w := W) x k h hb (by rw [List.length_append, numBits_len]; omega) h64 (by omega) hx1)
  clear h hb hl hk h64 hx hx0 hx1
  go_enter Try.func31, Try.ntmps31
  go_wp2_with (first
    | (go_at_call 36; refine (bits_Len64.calls _ _ _ HLN.out).mono ?_; rintro e w' ⟨rfl, ⟨nd, rfl⟩⟩; have n0_ := Aside0.mk (HO.out.below (pw_below_drewN (Below.refl _ _) nd)); have n1_ := Aside0.mk (pw_below_drewN HB.out nd); have n2_ := Aside0.mk (HK.out.trans (KeepT.below (pw_below_drewN (Below.refl _ _) nd))); clear HO HB HK; have HO := n0_; have HB := n1_; have HK := n2_; clear n0_ n1_ n2_)
    | (go_at_call 37; (first
        | (refine (HP0.out _ HO.out (Nat.le_trans HBASE.out HB.out.size)).mono ?_; clear HP0; rintro e w2 ⟨rfl, hO, hb, hkk⟩)
        | (refine (HP1.out _ HO.out (Nat.le_trans HBASE.out HB.out.size)).mono ?_; rintro e w2 ⟨rfl, hO, hb, hkk⟩)); have n0_ := Aside0.mk hO; have n1_ := Aside0.mk (HB.out.trans hb); have n2_ := Aside0.mk (HK.out.trans hkk); clear HO HB HK; have HO := n0_; have HB := n1_; have HK := n2_; clear n0_ n1_ n2_ hO hb hkk))
  go_ret
  refine ⟨rfl, ?_, HB.out, HK.out⟩
  rw [HE.out]
  exact HO.out
theorem gamma_Put {base : Nat} {w : World} {p : Nat} {L : List Bool} (x : Int) (h : BO base w p L) (hb : base ≤ w.heap.size) (hl : L.length < 10000000000) (hx0 : 0 < x) (hx1 : x < 18446744073709551616) :
    Calls Try.prog 31 #[.pointer (some ⟨p, 0, none⟩), .int .u64 x] w (GPutPost base w p (L ++ gammaBits x)) :=
  gamma_Put_in x h hb hl hx0 hx1 (Lib.bitLen_le x.toNat 64 (Nat.le_refl _) (by omega))
theorem gamma_Put_zero (P : Option Addr) (w : World) : Calls Try.prog 31 #[.pointer P, .int .u64 0] w fun e w' => e = .returned (.bool false) ∧ w = w' := by
  go_enter Try.func31, Try.ntmps31
  go_wp2
  go_ret
  exact ⟨rfl, rfl⟩
theorem gamma_Put_nil (x : Int) (w : World) : Calls Try.prog 31 #[.pointer none, .int .u64 x] w fun e w' => e = .returned (.bool false) ∧ w = w' := by
  by_cases hx : x = 0
  · subst hx
    exact gamma_Put_zero none w
  · have hxb : (x == 0) = false := beq_eq_false_iff_ne.mpr hx
    clear hx
    go_enter Try.func31, Try.ntmps31
    go_wp2
    go_ret
    exact ⟨rfl, rfl⟩
end Go.Proofs.Ytobdfehpbgcloaa.GL

/- loesslaw6.begun by hand. -/
namespace Go.Proofs.Ytobdfehpbgcloaa.GL
open Go.RowKit Go.Proofs.YtobdfehpbgcloaaW.PrintWords Go.Proofs.YtobdfehpbgcloaaW.PrintLast Go.Proofs.YtobdfehpbgcloaaW.PrintMore Go.Proofs.Ytobdfehpbgcloaa.Q Go.Proofs.Ytobdfehpbgcloaa.XTri
set_option linter.unusedVariables false
set_option linter.unusedSimpArgs false
theorem bits_PutNum_at {base : Nat} {w : World} {p : Nat} {L : List Bool} (x n : Int) (k : Nat) (hn : n = (k : Int)) (h : BO base w p L) (hb : base ≤ w.heap.size) (hl : L.length < 100000000000) (hk : k ≤ 64) (hx0 : 0 ≤ x) (hx1 : x < 18446744073709551616) :
    Calls Try.prog 37 #[.pointer (some ⟨p, 0, none⟩), .int .u64 x, .int .i64 n] w (NumPost base w p (L ++ numBits x k)) := by
  subst hn
  exact bits_PutNum_in x k h hb hl hk hx0 hx1
theorem below_of_grown_none {w w1 : World} (h : w.grownBy w1 none) : Below w.heap.size w w1 := (Below.refl w.heap.size w).grown h (Nat.le_refl _) (fun k hk => by cases hk)
end Go.Proofs.Ytobdfehpbgcloaa.GL

/- loesslaw7.begun by hand. -/

namespace Go.Proofs.Ytobdfehpbgcloaa.GL
open Go.RowKit Go.Proofs.YtobdfehpbgcloaaW.PrintWords Go.Proofs.YtobdfehpbgcloaaW.PrintLast Go.Proofs.YtobdfehpbgcloaaW.PrintMore Go.Proofs.Ytobdfehpbgcloaa.Q Go.Proofs.Ytobdfehpbgcloaa.XTri Go.Proofs.Ytobdfehpbgcloaa.G
set_option linter.unusedVariables false
set_option linter.unusedSimpArgs false
/-- gamma.Len. -/
def lenG (x : Int) : Int := if x = 0 then 0 else 2 * (Lib.bitLen x.toNat : Int) - 1
end Go.Proofs.Ytobdfehpbgcloaa.GL

-- Written by wip/xprint.py, this session's wrapper round the kit's print program. Not trusted: Lean checks it.
namespace Go.Proofs.Ytobdfehpbgcloaa.XTri
open Go.RowKit Go.Proofs.Ytobdfehpbgcloaa.G Go.Proofs.YtobdfehpbgcloaaW.PrintWords Go.Proofs.YtobdfehpbgcloaaW.PrintLast Go.Proofs.YtobdfehpbgcloaaW.PrintMore
attribute [local go_sem] max2_int min2_int max_two min_two max_three min_three max_four min_four   -- for this text's walks alone
set_option linter.unusedVariables false
set_option linter.unusedSimpArgs false

/-! ### loessref6_Bits_Num: function 30 -/
mutual
def loessref6_Bits_Num.j0 : Nat → List Bool → Int → Int → Bool → Option (Int × Bool)
  | 0, _, _, _, _ => none
  | k + 1, x0, x1, x2, x33 => if x33 = true then (some (0, false)) else (loessref6_Bits_Num.l0 k x0 x1 x2 0 0)
def loessref6_Bits_Num.l0 : Nat → List Bool → Int → Int → Int → Int → Option (Int × Bool)
  | 0, _, _, _, _, _ => none
  | k + 1, x0, x1, x2, x8, x9 => if x9 < x2 then (if 0 ≤ (wrap64 (x1 + x9)) then (if (wrap64 (x1 + x9)) < (x0.length : Int) then (if rdOf false x0 (wrap64 (x1 + x9)) = true then (loessref6_Bits_Num.l0 k x0 x1 x2 (IntKind.u64.wrap ((IntKind.u64.wrap (x8 * 2)) + 1)) (wrap64 (x9 + 1))) else (loessref6_Bits_Num.l0 k x0 x1 x2 (IntKind.u64.wrap (x8 * 2)) (wrap64 (x9 + 1)))) else (none)) else (none)) else (some (x8, true))
end
def loessref6_Bits_Num.f (k : Nat) (l0 : List Bool) (a1 : Int) (a2 : Int) : Option (Int × Bool) := if a1 < 0 then (loessref6_Bits_Num.j0 k l0 a1 a2 true) else (if a2 < 0 then (loessref6_Bits_Num.j0 k l0 a1 a2 true) else (if a2 > 64 then (loessref6_Bits_Num.j0 k l0 a1 a2 true) else (if a1 > (l0.length : Int) then (loessref6_Bits_Num.j0 k l0 a1 a2 true) else (loessref6_Bits_Num.j0 k l0 a1 a2 (decide (a2 > (wrap64 ((l0.length : Int) - a1))))))))
theorem loessref6_Bits_Num.mono_l : ∀ k, (∀ y0 y1 y2 y3, LeO (loessref6_Bits_Num.j0 k y0 y1 y2 y3) (loessref6_Bits_Num.j0 (k + 1) y0 y1 y2 y3)) ∧ (∀ y0 y1 y2 y3 y4, LeO (loessref6_Bits_Num.l0 k y0 y1 y2 y3 y4) (loessref6_Bits_Num.l0 (k + 1) y0 y1 y2 y3 y4))
  | 0 => ⟨fun _ _ _ _ r h => by simp [loessref6_Bits_Num.j0] at h, fun _ _ _ _ _ r h => by simp [loessref6_Bits_Num.l0] at h⟩
  | k + 1 => by
    obtain ⟨ih0, ih1⟩ := loessref6_Bits_Num.mono_l k
    refine ⟨?_, ?_⟩
    · intro y0 y1 y2 y3
      unfold loessref6_Bits_Num.j0
      repeat' first
      | (with_reducible exact ih0 _ _ _ _)
      | (with_reducible exact ih1 _ _ _ _ _)
      | (with_reducible exact LeO.refl _)
      | (with_reducible exact LeO.none _)
      | (with_reducible refine LeO.ite ?_ ?_)
      | (with_reducible refine LeO.bind ?_ (fun _ => ?_))
      | exact ih0 _ _ _ _
      | exact ih1 _ _ _ _ _
      | exact LeO.none _
      | refine LeO.ite ?_ ?_
      | refine LeO.bind ?_ (fun _ => ?_)
    · intro y0 y1 y2 y3 y4
      unfold loessref6_Bits_Num.l0
      repeat' first
      | (with_reducible exact ih0 _ _ _ _)
      | (with_reducible exact ih1 _ _ _ _ _)
      | (with_reducible exact LeO.refl _)
      | (with_reducible exact LeO.none _)
      | (with_reducible refine LeO.ite ?_ ?_)
      | (with_reducible refine LeO.bind ?_ (fun _ => ?_))
      | exact ih0 _ _ _ _
      | exact ih1 _ _ _ _ _
      | exact LeO.none _
      | refine LeO.ite ?_ ?_
      | refine LeO.bind ?_ (fun _ => ?_)
theorem loessref6_Bits_Num.mono : ∀ a0 a1 a2 k, LeO (loessref6_Bits_Num.f k a0 a1 a2) (loessref6_Bits_Num.f (k + 1) a0 a1 a2) := by
  intro a0 a1 a2 k
  obtain ⟨ih0, ih1⟩ := loessref6_Bits_Num.mono_l k
  unfold loessref6_Bits_Num.f
  repeat' first
      | (with_reducible exact ih0 _ _ _ _)
      | (with_reducible exact ih1 _ _ _ _ _)
      | (with_reducible exact LeO.refl _)
      | (with_reducible exact LeO.none _)
      | (with_reducible refine LeO.ite ?_ ?_)
      | (with_reducible refine LeO.bind ?_ (fun _ => ?_))
      | exact ih0 _ _ _ _
      | exact ih1 _ _ _ _ _
      | exact LeO.none _
      | refine LeO.ite ?_ ?_
      | refine LeO.bind ?_ (fun _ => ?_)
set_option maxHeartbeats 8000000 in
set_option maxRecDepth 100000 in
theorem loessref6_Bits_Num.calls (k : Nat) (A0 : Option Addr) (c0 : Nat) (l0 : List Bool) (a1 : Int) (a2 : Int) (r1 : Int) (r2 : Bool) (w : World) (hr0 : Kd.C Kd.bool w A0 l0.length l0) (hc0 : l0.length ≤ c0) (h : loessref6_Bits_Num.f k l0 a1 a2 = some (r1, r2)) :
    Calls Try.prog 30 #[.slice A0 l0.length c0, .int .i64 a1, .int .i64 a2] w fun e w' => e = .returned (.tuple #[.int .u64 r1, .bool r2]) ∧ Drawn0 w w' := by
  have HR0 := Aside0.mk hr0
  have HC0 := Aside0.mk hc0
  clear hr0 hc0
  have H : (if a1 < 0 then (loessref6_Bits_Num.j0 k l0 a1 a2 true) else (if a2 < 0 then (loessref6_Bits_Num.j0 k l0 a1 a2 true) else (if a2 > 64 then (loessref6_Bits_Num.j0 k l0 a1 a2 true) else (if a1 > (l0.length : Int) then (loessref6_Bits_Num.j0 k l0 a1 a2 true) else (loessref6_Bits_Num.j0 k l0 a1 a2 (decide (a2 > (wrap64 ((l0.length : Int) - a1))))))))) = some (r1, r2) := h
  clear h
  have HC4 := Aside0.mk H
  clear H
  go_enter Try.func30, Try.ntmps30
  go_upto_region 1 with (fail)
  go_cut [33] (fun v33 wc => ∃ (kq : Nat) (x33_3 : Bool), v33 = .bool x33_3 ∧ Aside0 (loessref6_Bits_Num.j0 kq l0 a1 a2 x33_3 = some (r1, r2)) ∧ Aside0 (kq ≤ k) ∧ Drawn0 w wc)
  case first =>
    have H := HC4.out
    clear HC4
    by_cases c5 : a1 < 0
    · rw [if_pos c5] at H
      have c5b0 : decide (a1 < 0) = true := decide_eq_true c5
      clear c5
      (first | rw [c5b0] | (simp only [i64_w, i32_w]; rw [c5b0]) | skip)
      have H' := Aside0.mk H
      clear H
      go_wp2
      go_meet
      case rel => exact ⟨_, (true), (by first | rfl | (simp; done) | (simp [*]; done)), H', ⟨by first | omega | exact Nat.le_refl _⟩, by repeat (first | exact Drawn0.refl _ | apply Drawn0.step)⟩
    · rw [if_neg c5] at H
      have c5b0 : decide (a1 < 0) = false := decide_eq_false c5
      clear c5
      (first | rw [c5b0] | (simp only [i64_w, i32_w]; rw [c5b0]) | skip)
      by_cases c6 : a2 < 0
      · rw [if_pos c6] at H
        have c6b0 : decide (a2 < 0) = true := decide_eq_true c6
        clear c6
        have H' := Aside0.mk H
        clear H
        go_wp2
        go_meet
        case rel => exact ⟨_, (true), (by first | rfl | (simp; done) | (simp [*]; done)), H', ⟨by first | omega | exact Nat.le_refl _⟩, by repeat (first | exact Drawn0.refl _ | apply Drawn0.step)⟩
      · rw [if_neg c6] at H
        have c6b0 : decide (a2 < 0) = false := decide_eq_false c6
        clear c6
        by_cases c7 : a2 > 64
        · rw [if_pos c7] at H
          have c7b0 : decide (64 < a2) = true := decide_eq_true c7
          clear c7
          have H' := Aside0.mk H
          clear H
          go_wp2
          go_meet
          case rel => exact ⟨_, (true), (by first | rfl | (simp; done) | (simp [*]; done)), H', ⟨by first | omega | exact Nat.le_refl _⟩, by repeat (first | exact Drawn0.refl _ | apply Drawn0.step)⟩
        · rw [if_neg c7] at H
          have c7b0 : decide (64 < a2) = false := decide_eq_false c7
          clear c7
          by_cases c8 : a1 > (l0.length : Int)
          · rw [if_pos c8] at H
            have c8b0 : decide ((l0.length : Int) < a1) = true := decide_eq_true c8
            clear c8
            have H' := Aside0.mk H
            clear H
            go_wp2
            go_meet
            case rel => exact ⟨_, (true), (by first | rfl | (simp; done) | (simp [*]; done)), H', ⟨by first | omega | exact Nat.le_refl _⟩, by repeat (first | exact Drawn0.refl _ | apply Drawn0.step)⟩
          · rw [if_neg c8] at H
            have c8b0 : decide ((l0.length : Int) < a1) = false := decide_eq_false c8
            clear c8
            have H' := Aside0.mk H
            clear H
            go_wp2
            go_meet
            case rel => exact ⟨_, (decide (a2 > (wrap64 ((l0.length : Int) - a1)))), (by first | rfl | (simp; done) | (simp [*]; done)), H', ⟨by first | omega | exact Nat.le_refl _⟩, by repeat (first | exact Drawn0.refl _ | apply Drawn0.step)⟩
  case rest =>
    clear HC4
    try clear p2
    try clear c3
    try clear c5
    try clear c5b0
    try clear c6
    try clear c6b0
    try clear p6
    try clear c7
    try clear c7b0
    try clear c8
    try clear c8b0
    obtain ⟨kq, x33_3, rfl, HA, HJ3, ⟨mc3, rfl⟩⟩ := hcut
    cases kq with
    | zero => exact absurd HA.out (by simp [loessref6_Bits_Num.j0])
    | succ kj3 =>
      have H := HA.out
      clear HA
      simp only [loessref6_Bits_Num.j0] at H
      by_cases c9 : x33_3 = true
      · subst c9
        have H1 : (some (0, false)) = some (r1, r2) := by rw [if_pos rfl] at H; exact H
        clear H
        have H := H1
        clear H1
        simp only [Option.some.injEq, Prod.mk.injEq] at H
        obtain ⟨rfl, rfl⟩ := H
        go_wp2
        go_ret2
        exact ⟨by first | rfl | (simp; done) | (simp [*]; done), by repeat (first | exact Drawn0.refl _ | apply Drawn0.step)⟩
      · replace c9 := Bool.eq_false_iff.mpr c9
        subst c9
        have H1 : (loessref6_Bits_Num.l0 kj3 l0 a1 a2 0 0) = some (r1, r2) := by rw [if_neg (show ¬ (false = true) by decide)] at H; exact H
        clear H
        have H := H1
        clear H1
        have H' := Aside0.mk H
        clear H
        go_wp2
        go_loopg [8, 9] kj3 (fun kq v8 v9 w' => ∃ (x8_2 : Int) (x9_2 : Int), v8 = .int .u64 x8_2 ∧ v9 = .int .i64 x9_2 ∧ Aside0 (loessref6_Bits_Num.l0 kq l0 a1 a2 x8_2 x9_2 = some (r1, r2)) ∧ Aside0 (kq ≤ kj3) ∧ Drawn0 w w')
        case atStart => exact ⟨(0), (0), (by first | rfl | (simp; done) | (simp [*]; done)), (by first | rfl | (simp; done) | (simp [*]; done)), H', ⟨Nat.le_refl _⟩, by repeat (first | exact Drawn0.refl _ | apply Drawn0.step)⟩
        case round =>
          clear H'
          try clear p2
          try clear c3
          try clear c5
          try clear c5b0
          try clear c6
          try clear c6b0
          try clear p6
          try clear c7
          try clear c7b0
          try clear c8
          try clear c8b0
          try clear c9
          try clear p2
          try clear p6
          obtain ⟨x8_2, x9_2, rfl, rfl, HA, HK2, ⟨m2, rfl⟩⟩ := hrel
          cases gk with
          | zero => exact absurd HA.out (by simp [loessref6_Bits_Num.l0])
          | succ k2 =>
            have H := HA.out
            clear HA
            simp only [loessref6_Bits_Num.l0] at H
            by_cases c10 : x9_2 < a2
            · rw [if_pos c10] at H
              have c10b0 : decide (x9_2 < a2) = true := decide_eq_true c10
              clear c10
              obtain ⟨ji11, hji11⟩ : ∃ j_ : Int, (wrap64 (a1 + x9_2)) = j_ := ⟨_, rfl⟩
              replace H : (if 0 ≤ (ji11) then (if (ji11) < (l0.length : Int) then (if rdOf false l0 (ji11) = true then (loessref6_Bits_Num.l0 k2 l0 a1 a2 (IntKind.u64.wrap ((IntKind.u64.wrap (x8_2 * 2)) + 1)) (wrap64 (x9_2 + 1))) else (loessref6_Bits_Num.l0 k2 l0 a1 a2 (IntKind.u64.wrap (x8_2 * 2)) (wrap64 (x9_2 + 1)))) else (none)) else (none)) = some (r1, r2) := by first | (rw [hji11] at H; exact H) | (simp only [hji11] at H ⊢; exact H)
              have hji11w : (IntKind.i64.wrap (a1 + x9_2)) = ji11 := (i64_w _).trans hji11
              by_cases c12 : 0 ≤ (ji11)
              · rw [if_pos c12] at H
                have c12b0 : decide (0 ≤ (ji11)) = true := decide_eq_true c12
                clear c12
                by_cases c13 : (ji11) < (l0.length : Int)
                · rw [if_pos c13] at H
                  have c13b0 : decide ((ji11) < (l0.length : Int)) = true := decide_eq_true c13
                  clear c13
                  obtain ⟨bq14, hbq14⟩ : ∃ b_ : Bool, b_ = (rdOf false l0 (ji11)) := ⟨_, rfl⟩
                  replace H : (if bq14 = true then (loessref6_Bits_Num.l0 k2 l0 a1 a2 (IntKind.u64.wrap ((IntKind.u64.wrap (x8_2 * 2)) + 1)) (wrap64 (x9_2 + 1))) else (loessref6_Bits_Num.l0 k2 l0 a1 a2 (IntKind.u64.wrap (x8_2 * 2)) (wrap64 (x9_2 + 1)))) = some (r1, r2) := by rw [← hbq14] at H; exact H
                  have Nbq14 := Aside0.mk hbq14
                  clear hbq14
                  by_cases c15 : bq14 = true
                  · subst c15
                    have H1 : (loessref6_Bits_Num.l0 k2 l0 a1 a2 (IntKind.u64.wrap ((IntKind.u64.wrap (x8_2 * 2)) + 1)) (wrap64 (x9_2 + 1))) = some (r1, r2) := by rw [if_pos rfl] at H; exact H
                    clear H
                    have H := H1
                    clear H1
                    have H' := Aside0.mk H
                    clear H
                    have p108 : 0 ≤ ((ji11) : Int) := of_decide_eq_true (by first | (with_reducible assumption) | assumption)
                    have q108 : (ji11) < (l0.length : Int) := of_decide_eq_true (by first | (with_reducible assumption) | assumption)
                    obtain ⟨ad108, e108, hx108_0⟩ := Kd.at_bool HR0.out (ji11) p108 q108
                    (try rw [← Nbq14.out] at hx108_0)
                    cases e108
                    replace p108 := eq_true p108
                    replace q108 := eq_true q108
                    go_wp2
                    go_roundg k2
                    case measure => have := HJ3.out; have := HK2.out; omega
                    case rel => exact ⟨(IntKind.u64.wrap ((IntKind.u64.wrap (x8_2 * 2)) + 1)), (wrap64 (x9_2 + 1)), (by first | rfl | (simp; done) | (simp [*]; done)), (by first | rfl | (simp; done) | (simp [*]; done)), H', ⟨by have := HJ3.out; have := HK2.out; omega⟩, by repeat (first | exact Drawn0.refl _ | apply Drawn0.step)⟩
                  · replace c15 := Bool.eq_false_iff.mpr c15
                    subst c15
                    have H1 : (loessref6_Bits_Num.l0 k2 l0 a1 a2 (IntKind.u64.wrap (x8_2 * 2)) (wrap64 (x9_2 + 1))) = some (r1, r2) := by rw [if_neg (show ¬ (false = true) by decide)] at H; exact H
                    clear H
                    have H := H1
                    clear H1
                    have H' := Aside0.mk H
                    clear H
                    have p108 : 0 ≤ ((ji11) : Int) := of_decide_eq_true (by first | (with_reducible assumption) | assumption)
                    have q108 : (ji11) < (l0.length : Int) := of_decide_eq_true (by first | (with_reducible assumption) | assumption)
                    obtain ⟨ad108, e108, hx108_0⟩ := Kd.at_bool HR0.out (ji11) p108 q108
                    (try rw [← Nbq14.out] at hx108_0)
                    cases e108
                    replace p108 := eq_true p108
                    replace q108 := eq_true q108
                    go_wp2
                    go_roundg k2
                    case measure => have := HJ3.out; have := HK2.out; omega
                    case rel => exact ⟨(IntKind.u64.wrap (x8_2 * 2)), (wrap64 (x9_2 + 1)), (by first | rfl | (simp; done) | (simp [*]; done)), (by first | rfl | (simp; done) | (simp [*]; done)), H', ⟨by have := HJ3.out; have := HK2.out; omega⟩, by repeat (first | exact Drawn0.refl _ | apply Drawn0.step)⟩
                · rw [if_neg c13] at H
                  exact absurd H (by simp)
              · rw [if_neg c12] at H
                exact absurd H (by simp)
            · rw [if_neg c10] at H
              have c10b0 : decide (x9_2 < a2) = false := decide_eq_false c10
              clear c10
              simp only [Option.some.injEq, Prod.mk.injEq] at H
              obtain ⟨rfl, rfl⟩ := H
              go_wp2
              go_ret2
              exact ⟨by first | rfl | (simp; done) | (simp [*]; done), by repeat (first | exact Drawn0.refl _ | apply Drawn0.step)⟩

end Go.Proofs.Ytobdfehpbgcloaa.XTri

-- Written by wip/xprint.py, this session's wrapper round the kit's print program. Not trusted: Lean checks it.
namespace Go.Proofs.Ytobdfehpbgcloaa.XTri
open Go.RowKit Go.Proofs.Ytobdfehpbgcloaa.G Go.Proofs.YtobdfehpbgcloaaW.PrintWords Go.Proofs.YtobdfehpbgcloaaW.PrintLast Go.Proofs.YtobdfehpbgcloaaW.PrintMore
attribute [local go_sem] max2_int min2_int max_two min_two max_three min_three max_four min_four   -- for this text's walks alone
set_option linter.unusedVariables false
set_option linter.unusedSimpArgs false

/-! ### loessref6_GetGamma: function 23 -/
mutual
def loessref6_GetGamma.j1 : Nat → List Bool → Int → Int → Option (Int × Int × Bool)
  | 0, _, _, _ => none
  | k + 1, x0, x1, x7 => if x7 = 64 then (some (0, x1, false)) else ((loessref6_Bits_Num.f k x0 (wrap64 (x1 + x7)) (wrap64 (x7 + 1))).bind fun bt110 => (if bt110.2 = true then (if bt110.1 = 0 then (some (0, x1, false)) else (some (bt110.1, wrap64 ((wrap64 (x1 + (wrap64 (2 * x7)))) + 1), true))) else (some (0, x1, false))))
def loessref6_GetGamma.l0 : Nat → List Bool → Int → Int → Option (Int × Int × Bool)
  | 0, _, _, _ => none
  | k + 1, x0, x1, x7 => if x7 < 64 then (if (wrap64 (x1 + x7)) < (x0.length : Int) then (if 0 ≤ (wrap64 (x1 + x7)) then (if (rdOf false x0 (wrap64 (x1 + x7)) = true) then (loessref6_GetGamma.j1 k x0 x1 x7) else (loessref6_GetGamma.l0 k x0 x1 (wrap64 (x7 + 1)))) else (none)) else (loessref6_GetGamma.j1 k x0 x1 x7)) else (loessref6_GetGamma.j1 k x0 x1 x7)
end
def loessref6_GetGamma.f (k : Nat) (l0 : List Bool) (a1 : Int) : Option (Int × Int × Bool) := if a1 < 0 then (some (0, a1, false)) else (loessref6_GetGamma.l0 k l0 a1 0)
theorem loessref6_GetGamma.mono_l : ∀ k, (∀ y0 y1 y2, LeO (loessref6_GetGamma.j1 k y0 y1 y2) (loessref6_GetGamma.j1 (k + 1) y0 y1 y2)) ∧ (∀ y0 y1 y2, LeO (loessref6_GetGamma.l0 k y0 y1 y2) (loessref6_GetGamma.l0 (k + 1) y0 y1 y2))
  | 0 => ⟨fun _ _ _ r h => by simp [loessref6_GetGamma.j1] at h, fun _ _ _ r h => by simp [loessref6_GetGamma.l0] at h⟩
  | k + 1 => by
    obtain ⟨ih0, ih1⟩ := loessref6_GetGamma.mono_l k
    refine ⟨?_, ?_⟩
    · intro y0 y1 y2
      unfold loessref6_GetGamma.j1
      repeat' first
      | (with_reducible exact ih0 _ _ _)
      | (with_reducible exact ih1 _ _ _)
      | (with_reducible exact loessref6_Bits_Num.mono _ _ _ _)
      | (with_reducible exact LeO.refl _)
      | (with_reducible exact LeO.none _)
      | (with_reducible refine LeO.ite ?_ ?_)
      | (with_reducible refine LeO.bind ?_ (fun _ => ?_))
      | exact ih0 _ _ _
      | exact ih1 _ _ _
      | exact loessref6_Bits_Num.mono _ _ _ _
      | exact LeO.none _
      | refine LeO.ite ?_ ?_
      | refine LeO.bind ?_ (fun _ => ?_)
    · intro y0 y1 y2
      unfold loessref6_GetGamma.l0
      repeat' first
      | (with_reducible exact ih0 _ _ _)
      | (with_reducible exact ih1 _ _ _)
      | (with_reducible exact loessref6_Bits_Num.mono _ _ _ _)
      | (with_reducible exact LeO.refl _)
      | (with_reducible exact LeO.none _)
      | (with_reducible refine LeO.ite ?_ ?_)
      | (with_reducible refine LeO.bind ?_ (fun _ => ?_))
      | exact ih0 _ _ _
      | exact ih1 _ _ _
      | exact loessref6_Bits_Num.mono _ _ _ _
      | exact LeO.none _
      | refine LeO.ite ?_ ?_
      | refine LeO.bind ?_ (fun _ => ?_)
theorem loessref6_GetGamma.mono : ∀ a0 a1 k, LeO (loessref6_GetGamma.f k a0 a1) (loessref6_GetGamma.f (k + 1) a0 a1) := by
  intro a0 a1 k
  obtain ⟨ih0, ih1⟩ := loessref6_GetGamma.mono_l k
  unfold loessref6_GetGamma.f
  repeat' first
      | (with_reducible exact ih0 _ _ _)
      | (with_reducible exact ih1 _ _ _)
      | (with_reducible exact loessref6_Bits_Num.mono _ _ _ _)
      | (with_reducible exact LeO.refl _)
      | (with_reducible exact LeO.none _)
      | (with_reducible refine LeO.ite ?_ ?_)
      | (with_reducible refine LeO.bind ?_ (fun _ => ?_))
      | exact ih0 _ _ _
      | exact ih1 _ _ _
      | exact loessref6_Bits_Num.mono _ _ _ _
      | exact LeO.none _
      | refine LeO.ite ?_ ?_
      | refine LeO.bind ?_ (fun _ => ?_)
set_option maxHeartbeats 8000000 in
set_option maxRecDepth 100000 in
theorem loessref6_GetGamma.calls (k : Nat) (A0 : Option Addr) (c0 : Nat) (l0 : List Bool) (a1 : Int) (r1 : Int) (r2 : Int) (r3 : Bool) (w : World) (hr0 : Kd.C Kd.bool w A0 l0.length l0) (hc0 : l0.length ≤ c0) (h : loessref6_GetGamma.f k l0 a1 = some (r1, r2, r3)) :
    Calls Try.prog 23 #[.slice A0 l0.length c0, .int .i64 a1] w fun e w' => e = .returned (.tuple #[.int .u64 r1, .int .i64 r2, .bool r3]) ∧ Drawn0 w w' := by
  have HR0 := Aside0.mk hr0
  have HC0 := Aside0.mk hc0
  clear hr0 hc0
  have H : (if a1 < 0 then (some (0, a1, false)) else (loessref6_GetGamma.l0 k l0 a1 0)) = some (r1, r2, r3) := h
  clear h
  by_cases c3 : a1 < 0
  · rw [if_pos c3] at H
    have c3b0 : decide (a1 < 0) = true := decide_eq_true c3
    clear c3
    simp only [Option.some.injEq, Prod.mk.injEq] at H
    obtain ⟨rfl, rfl, rfl⟩ := H
    go_enter Try.func23, Try.ntmps23
    go_wp2
    go_ret3
    exact ⟨by first | rfl | (simp; done) | (simp [*]; done), by repeat (first | exact Drawn0.refl _ | apply Drawn0.step)⟩
  · rw [if_neg c3] at H
    have c3b0 : decide (a1 < 0) = false := decide_eq_false c3
    clear c3
    have HC4 := Aside0.mk H
    clear H
    go_enter Try.func23, Try.ntmps23
    go_upto_block 0 with (fail)
    go_cut [7] (fun v7 wc => ∃ (kq : Nat) (x7_3 : Int), v7 = .int .i64 x7_3 ∧ Aside0 (loessref6_GetGamma.j1 kq l0 a1 x7_3 = some (r1, r2, r3)) ∧ Aside0 (kq ≤ k) ∧ Drawn0 w wc)
    case first =>
      have H := HC4.out
      clear HC4
      have H' := Aside0.mk H
      clear H
      go_wp2
      go_loopg [7] k (fun kq v7 w' => ∃ (x7_1 : Int), v7 = .int .i64 x7_1 ∧ Aside0 (loessref6_GetGamma.l0 kq l0 a1 x7_1 = some (r1, r2, r3)) ∧ Aside0 (kq ≤ k) ∧ Drawn0 w w')
      case atStart => exact ⟨(0), (by first | rfl | (simp; done) | (simp [*]; done)), H', ⟨Nat.le_refl _⟩, by repeat (first | exact Drawn0.refl _ | apply Drawn0.step)⟩
      case round =>
        clear H'
        try clear c2
        try clear p2
        try clear c3
        try clear c3b0
        obtain ⟨x7_1, rfl, HA, HK1, ⟨m1, rfl⟩⟩ := hrel
        cases gk with
        | zero => exact absurd HA.out (by simp [loessref6_GetGamma.l0])
        | succ k1 =>
          have H := HA.out
          clear HA
          simp only [loessref6_GetGamma.l0] at H
          by_cases c5 : x7_1 < 64
          · rw [if_pos c5] at H
            have c5b0 : decide (x7_1 < 64) = true := decide_eq_true c5
            clear c5
            (first | rw [c5b0] | (simp only [i64_w, i32_w]; rw [c5b0]) | skip)
            by_cases c6 : (wrap64 (a1 + x7_1)) < (l0.length : Int)
            · rw [if_pos c6] at H
              have c6b0 : decide ((wrap64 (a1 + x7_1)) < (l0.length : Int)) = true := decide_eq_true c6
              clear c6
              obtain ⟨ji7, hji7⟩ : ∃ j_ : Int, (wrap64 (a1 + x7_1)) = j_ := ⟨_, rfl⟩
              replace H : (if 0 ≤ (ji7) then (if (rdOf false l0 (ji7) = true) then (loessref6_GetGamma.j1 k1 l0 a1 x7_1) else (loessref6_GetGamma.l0 k1 l0 a1 (wrap64 (x7_1 + 1)))) else (none)) = some (r1, r2, r3) := by first | (rw [hji7] at H; exact H) | (simp only [hji7] at H ⊢; exact H)
              (try rw [hji7] at c6b0)
              have hji7w : (IntKind.i64.wrap (a1 + x7_1)) = ji7 := (i64_w _).trans hji7
              by_cases c8 : 0 ≤ (ji7)
              · rw [if_pos c8] at H
                have c8b0 : decide (0 ≤ (ji7)) = true := decide_eq_true c8
                clear c8
                obtain ⟨bq9, hbq9⟩ : ∃ b_ : Bool, b_ = (rdOf false l0 (ji7)) := ⟨_, rfl⟩
                replace H : (if (bq9 = true) then (loessref6_GetGamma.j1 k1 l0 a1 x7_1) else (loessref6_GetGamma.l0 k1 l0 a1 (wrap64 (x7_1 + 1)))) = some (r1, r2, r3) := by rw [← hbq9] at H; exact H
                have Nbq9 := Aside0.mk hbq9
                clear hbq9
                by_cases c10 : (bq9 = true)
                · subst c10
                  have H1 : (loessref6_GetGamma.j1 k1 l0 a1 x7_1) = some (r1, r2, r3) := by rw [if_pos rfl] at H; exact H
                  clear H
                  have H := H1
                  clear H1
                  have H' := Aside0.mk H
                  clear H
                  have p109 : 0 ≤ ((ji7) : Int) := of_decide_eq_true (by first | (with_reducible assumption) | assumption)
                  have q109 : (ji7) < (l0.length : Int) := of_decide_eq_true (by first | (with_reducible assumption) | assumption)
                  obtain ⟨ad109, e109, hx109_0⟩ := Kd.at_bool HR0.out (ji7) p109 q109
                  (try rw [← Nbq9.out] at hx109_0)
                  cases e109
                  replace p109 := eq_true p109
                  replace q109 := eq_true q109
                  go_wp2
                  go_meet
                  case rel => exact ⟨_, (x7_1), (by first | rfl | (simp; done) | (simp [*]; done)), H', ⟨by have := HK1.out; first | omega | exact Nat.le_refl _⟩, by repeat (first | exact Drawn0.refl _ | apply Drawn0.step)⟩
                · replace c10 := Bool.eq_false_iff.mpr c10
                  subst c10
                  have H1 : (loessref6_GetGamma.l0 k1 l0 a1 (wrap64 (x7_1 + 1))) = some (r1, r2, r3) := by rw [if_neg (show ¬ (false = true) by decide)] at H; exact H
                  clear H
                  have H := H1
                  clear H1
                  have H' := Aside0.mk H
                  clear H
                  have p109 : 0 ≤ ((ji7) : Int) := of_decide_eq_true (by first | (with_reducible assumption) | assumption)
                  have q109 : (ji7) < (l0.length : Int) := of_decide_eq_true (by first | (with_reducible assumption) | assumption)
                  obtain ⟨ad109, e109, hx109_0⟩ := Kd.at_bool HR0.out (ji7) p109 q109
                  (try rw [← Nbq9.out] at hx109_0)
                  cases e109
                  replace p109 := eq_true p109
                  replace q109 := eq_true q109
                  go_wp2
                  go_roundg k1
                  case measure => have := HK1.out; omega
                  case rel => exact ⟨(wrap64 (x7_1 + 1)), (by first | rfl | (simp; done) | (simp [*]; done)), H', ⟨by have := HK1.out; omega⟩, by repeat (first | exact Drawn0.refl _ | apply Drawn0.step)⟩
              · rw [if_neg c8] at H
                exact absurd H (by simp)
            · rw [if_neg c6] at H
              have c6b0 : decide ((wrap64 (a1 + x7_1)) < (l0.length : Int)) = false := decide_eq_false c6
              clear c6
              have H' := Aside0.mk H
              clear H
              go_wp2
              go_meet
              case rel => exact ⟨_, (x7_1), (by first | rfl | (simp; done) | (simp [*]; done)), H', ⟨by have := HK1.out; first | omega | exact Nat.le_refl _⟩, by repeat (first | exact Drawn0.refl _ | apply Drawn0.step)⟩
          · rw [if_neg c5] at H
            have c5b0 : decide (x7_1 < 64) = false := decide_eq_false c5
            clear c5
            (first | rw [c5b0] | (simp only [i64_w, i32_w]; rw [c5b0]) | skip)
            have H' := Aside0.mk H
            clear H
            go_wp2
            go_meet
            case rel => exact ⟨_, (x7_1), (by first | rfl | (simp; done) | (simp [*]; done)), H', ⟨by have := HK1.out; first | omega | exact Nat.le_refl _⟩, by repeat (first | exact Drawn0.refl _ | apply Drawn0.step)⟩
    case rest =>
      clear HC4
      try clear c1
      try clear p1
      try clear q1
      try clear hx1
      try clear c2
      try clear p2
      try clear c3
      try clear c3b0
      try clear c5
      try clear c5b0
      try clear c6
      try clear c6b0
      try clear p6
      try clear c8
      try clear c8b0
      try clear q9
      try clear c10
      try clear p10
      try clear q10
      try clear hx10
      try clear hx109_0
      try clear p109
      try clear p2
      try clear q109
      obtain ⟨kq, x7_3, rfl, HA, HJ3, ⟨mc3, rfl⟩⟩ := hcut
      cases kq with
      | zero => exact absurd HA.out (by simp [loessref6_GetGamma.j1])
      | succ kj3 =>
        have H := HA.out
        clear HA
        simp only [loessref6_GetGamma.j1] at H
        by_cases c11 : x7_3 = 64
        · rw [if_pos c11] at H
          have c11b0 : (x7_3 == 64) = true := beq_iff_eq.mpr c11
          have c11b1 : (x7_3 != 64) = false := bne_eq_false_iff_eq.mpr c11
          clear c11
          simp only [Option.some.injEq, Prod.mk.injEq] at H
          obtain ⟨rfl, rfl, rfl⟩ := H
          go_wp2
          go_ret3
          exact ⟨by first | rfl | (simp; done) | (simp [*]; done), by repeat (first | exact Drawn0.refl _ | apply Drawn0.step)⟩
        · rw [if_neg c11] at H
          have c11b0 : (x7_3 == 64) = false := beq_eq_false_iff_ne.mpr c11
          have c11b1 : (x7_3 != 64) = true := bne_iff_ne.mpr c11
          replace H := Option.bind_eq_some_iff.mp H
          obtain ⟨⟨t110, t111⟩, A120, H⟩ := H
          replace H : (if t111 = true then (if t110 = 0 then (some (0, a1, false)) else (some (t110, wrap64 ((wrap64 (a1 + (wrap64 (2 * x7_3)))) + 1), true))) else (some (0, a1, false))) = some (r1, r2, r3) := H
          have A12 := Aside0.mk A120
          clear A120
          by_cases c13 : t111 = true
          · subst c13
            have H1 : (if t110 = 0 then (some (0, a1, false)) else (some (t110, wrap64 ((wrap64 (a1 + (wrap64 (2 * x7_3)))) + 1), true))) = some (r1, r2, r3) := by rw [if_pos rfl] at H; exact H
            clear H
            have H := H1
            clear H1
            by_cases c14 : t110 = 0
            · rw [if_pos c14] at H
              have c14b0 : (t110 == 0) = true := beq_iff_eq.mpr c14
              have c14b1 : (t110 != 0) = false := bne_eq_false_iff_eq.mpr c14
              clear c14
              simp only [Option.some.injEq, Prod.mk.injEq] at H
              obtain ⟨rfl, rfl, rfl⟩ := H
              go_wp2_with (first | ((with_reducible refine gate_callee (f := 30) rfl ?_); refine goesL_ (some 44) rfl rfl Try.func30 (by kernel_rfl) rfl #[.slice A0 l0.length c0, .int .i64 (wrap64 (a1 + x7_3)), .int .i64 (wrap64 (x7_3 + 1))] rfl (by (try simp only [List.map_toArray, List.map_cons, List.map_nil]); first | done | rfl | (simp only [List.length_drop, List.length_take]; rfl)) ?_; (with_reducible refine (loessref6_Bits_Num.calls kj3 _ _ l0 (wrap64 (a1 + x7_3)) (wrap64 (x7_3 + 1)) t110 true _ ?side1 ?side2 A12.out).mono ?_); (case side1 => repeat (first | exact HR0.out | (with_reducible refine Kd.C_alloc ?_ _) | (with_reducible refine Kd.C_drewN ?_ _) | (with_reducible refine Kd.C_drew ?_))); (case side2 => exact HC0.out); rintro e w' ⟨rfl, ⟨nd, rfl⟩⟩; refine ⟨_, rfl, ?_⟩))
              go_ret3
              exact ⟨by first | rfl | (simp; done) | (simp [*]; done), by repeat (first | exact Drawn0.refl _ | apply Drawn0.step)⟩
            · rw [if_neg c14] at H
              have c14b0 : (t110 == 0) = false := beq_eq_false_iff_ne.mpr c14
              have c14b1 : (t110 != 0) = true := bne_iff_ne.mpr c14
              simp only [Option.some.injEq, Prod.mk.injEq] at H
              obtain ⟨rfl, rfl, rfl⟩ := H
              go_wp2_with (first | ((with_reducible refine gate_callee (f := 30) rfl ?_); refine goesL_ (some 44) rfl rfl Try.func30 (by kernel_rfl) rfl #[.slice A0 l0.length c0, .int .i64 (wrap64 (a1 + x7_3)), .int .i64 (wrap64 (x7_3 + 1))] rfl (by (try simp only [List.map_toArray, List.map_cons, List.map_nil]); first | done | rfl | (simp only [List.length_drop, List.length_take]; rfl)) ?_; (with_reducible refine (loessref6_Bits_Num.calls kj3 _ _ l0 (wrap64 (a1 + x7_3)) (wrap64 (x7_3 + 1)) t110 true _ ?side1 ?side2 A12.out).mono ?_); (case side1 => repeat (first | exact HR0.out | (with_reducible refine Kd.C_alloc ?_ _) | (with_reducible refine Kd.C_drewN ?_ _) | (with_reducible refine Kd.C_drew ?_))); (case side2 => exact HC0.out); rintro e w' ⟨rfl, ⟨nd, rfl⟩⟩; refine ⟨_, rfl, ?_⟩))
              go_ret3
              exact ⟨by first | rfl | (simp; done) | (simp [*]; done), by repeat (first | exact Drawn0.refl _ | apply Drawn0.step)⟩
          · replace c13 := Bool.eq_false_iff.mpr c13
            subst c13
            have H1 : (some (0, a1, false)) = some (r1, r2, r3) := by rw [if_neg (show ¬ (false = true) by decide)] at H; exact H
            clear H
            have H := H1
            clear H1
            simp only [Option.some.injEq, Prod.mk.injEq] at H
            obtain ⟨rfl, rfl, rfl⟩ := H
            go_wp2_with (first | ((with_reducible refine gate_callee (f := 30) rfl ?_); refine goesL_ (some 44) rfl rfl Try.func30 (by kernel_rfl) rfl #[.slice A0 l0.length c0, .int .i64 (wrap64 (a1 + x7_3)), .int .i64 (wrap64 (x7_3 + 1))] rfl (by (try simp only [List.map_toArray, List.map_cons, List.map_nil]); first | done | rfl | (simp only [List.length_drop, List.length_take]; rfl)) ?_; (with_reducible refine (loessref6_Bits_Num.calls kj3 _ _ l0 (wrap64 (a1 + x7_3)) (wrap64 (x7_3 + 1)) t110 false _ ?side1 ?side2 A12.out).mono ?_); (case side1 => repeat (first | exact HR0.out | (with_reducible refine Kd.C_alloc ?_ _) | (with_reducible refine Kd.C_drewN ?_ _) | (with_reducible refine Kd.C_drew ?_))); (case side2 => exact HC0.out); rintro e w' ⟨rfl, ⟨nd, rfl⟩⟩; refine ⟨_, rfl, ?_⟩))
            go_ret3
            exact ⟨by first | rfl | (simp; done) | (simp [*]; done), by repeat (first | exact Drawn0.refl _ | apply Drawn0.step)⟩

end Go.Proofs.Ytobdfehpbgcloaa.XTri

/- The document's bits and small numbers in plain Lean: Bits.Num, GetGamma of the references answer as numAt, getG. -/
set_option linter.unusedVariables false
set_option linter.unusedSimpArgs false
namespace Go.Proofs.Ytobdfehpbgcloaa.GL
open Go.RowKit Go.Proofs.YtobdfehpbgcloaaW.PrintWords Go.Proofs.YtobdfehpbgcloaaW.PrintMore Go.Proofs.Ytobdfehpbgcloaa.Q Go.Proofs.Ytobdfehpbgcloaa.XTri
def numP (o : Option Int) : Int × Bool := (o.getD 0, o.isSome)
theorem num_l0 (L : List Bool) (i n : Nat) (hl : L.length < 100000000000) (hn : n ≤ 64) (hi : i + n ≤ L.length) :
    ∀ d k, n = k + d → Ev (fun r => loessref6_Bits_Num.l0 r L (i : Int) (n : Int) (numOf ((L.drop i).take k)) (k : Int)) (numOf ((L.drop i).take n), true) := by
  intro d
  induction d with
  | zero =>
    intro k hk
    obtain rfl : n = k := hk
    refine Ev.step (f := fun _ => some (numOf ((L.drop i).take n), true)) (fun r => ?_) (Ev.now _)
    simp only [loessref6_Bits_Num.l0]
    rw [if_neg (by omega)]
  | succ d ih =>
    intro k hk
    have hkl : k < (L.drop i).length := by rw [List.length_drop]; omega
    have hbd := numOf_bd k ((L.drop i).take k) (by rw [List.length_take]; omega)
    have h2p : (2 : Int) ^ k ≤ 2 ^ 63 := by have := Nat.pow_le_pow_right (n := 2) (by decide) (show k ≤ 63 by omega); exact_mod_cast this
    have e63 : (2 : Int) ^ 63 = 9223372036854775808 := rfl
    have hw : wrap64 ((i : Int) + (k : Int)) = ((i + k : Nat) : Int) := by rw [w64 (by omega) (by omega)]; rfl
    have hw1 : wrap64 ((k : Int) + 1) = ((k + 1 : Nat) : Int) := by rw [w64 (by omega) (by omega)]; rfl
    have hsh : IntKind.u64.wrap (numOf ((L.drop i).take k) * 2) = numOf ((L.drop i).take k) * 2 := u64 (by omega) (by omega)
    have hsh1 : IntKind.u64.wrap (numOf ((L.drop i).take k) * 2 + 1) = numOf ((L.drop i).take k) * 2 + 1 := u64 (by omega) (by omega)
    have hrd : rdOf false L ((i + k : Nat) : Int) = (L.drop i)[k] := by
      unfold rdOf
      rw [Int.toNat_natCast, List.getElem_drop, List.getD_eq_getElem?_getD, List.getElem?_eq_getElem (by omega)]
      rfl
    have hs : numOf ((L.drop i).take (k + 1)) = 2 * numOf ((L.drop i).take k) + if (L.drop i)[k] = true then 1 else 0 := by
      rw [List.take_succ_eq_append_getElem hkl, numOf_snoc]
    refine Ev.step (f := fun r => loessref6_Bits_Num.l0 r L (i : Int) (n : Int) (numOf ((L.drop i).take (k + 1))) ((k + 1 : Nat) : Int)) (fun r => ?_) (ih (k + 1) (by omega))
    simp only [loessref6_Bits_Num.l0]
    rw [if_pos (by omega), hw, if_pos (by omega), if_pos (by omega), hrd, hw1, hsh, hsh1, hs]
    cases (L.drop i)[k]
    · rw [if_neg (by simp)]
      simp only [Bool.false_eq_true, if_false, Int.add_zero]
      rw [Int.mul_comm]
    · rw [if_pos rfl]
      simp only [if_true]
      rw [Int.mul_comm]
theorem num_ev (L : List Bool) (i n : Int) (hl : L.length < 100000000000) : Ev (fun r => loessref6_Bits_Num.f r L i n) (numP (numAt L i n)) := by
  unfold loessref6_Bits_Num.f
  have hbad : ∀ {i n : Int}, numAt L i n = none → Ev (fun r => loessref6_Bits_Num.j0 r L i n true) (numP (numAt L i n)) := by
    intro i n h
    rw [h]
    refine Ev.step (f := fun _ => some (0, false)) (fun r => ?_) (Ev.now _)
    simp only [loessref6_Bits_Num.j0]
    exact if_pos trivial
  by_cases h1 : i < 0
  · simp only [if_pos h1]
    exact hbad (if_neg (by omega))
  · simp only [if_neg h1]
    by_cases h2 : n < 0
    · simp only [if_pos h2]
      exact hbad (if_neg (by omega))
    · simp only [if_neg h2]
      by_cases h3 : n > 64
      · simp only [if_pos h3]
        exact hbad (if_neg (by omega))
      · simp only [if_neg h3]
        by_cases h4 : i > (L.length : Int)
        · simp only [if_pos h4]
          exact hbad (if_neg (by omega))
        · simp only [if_neg h4]
          have hw : wrap64 ((L.length : Int) - i) = (L.length : Int) - i := w64 (by omega) (by omega)
          rw [hw]
          by_cases h5 : n > (L.length : Int) - i
          · rw [decide_eq_true h5]
            exact hbad (if_neg (by omega))
          · rw [decide_eq_false h5]
            obtain ⟨i, rfl⟩ := Int.eq_ofNat_of_zero_le (show 0 ≤ i by omega)
            obtain ⟨n, rfl⟩ := Int.eq_ofNat_of_zero_le (show 0 ≤ n by omega)
            have e : numAt L (i : Int) (n : Int) = some (numOf ((L.drop i).take n)) := if_pos ⟨by omega, by omega, by omega, by omega⟩
            rw [e]
            refine Ev.step (f := fun r => loessref6_Bits_Num.l0 r L (i : Int) (n : Int) 0 0) (fun r => ?_) ?_
            · simp only [loessref6_Bits_Num.j0]
              rw [if_neg (by simp)]
            · have := num_l0 L i n hl (by omega) (by omega) n 0 (by omega)
              exact this
def getP (at_ : Int) : Option (Int × Int) → Int × Int × Bool
  | some (x, e) => (x, e, true)
  | none => (0, at_, false)
theorem numOf_pos (L : List Bool) (i n : Nat) (hn : 0 < n) (hb : L.getD i false = true) (hi : i < L.length) : 0 < numOf ((L.drop i).take n) := by
  obtain ⟨m, rfl⟩ : ∃ m, n = m + 1 := ⟨n - 1, by omega⟩
  clear hn
  induction m with
  | zero =>
    rw [List.drop_eq_getElem_cons hi]
    rw [List.getD_eq_getElem?_getD, List.getElem?_eq_getElem hi] at hb
    simp at hb
    simp [numOf, hb]
  | succ m ih =>
    by_cases h : m + 1 < (L.drop i).length
    · rw [List.take_succ_eq_append_getElem h, numOf_snoc]
      split <;> omega
    · rw [List.take_of_length_le (by omega)]
      rw [List.take_of_length_le (by omega)] at ih
      exact ih
theorem get_j1 (L : List Bool) (i z : Nat) (hl : L.length < 100000000000) (hi : i < L.length) (hz : z = zeros (L.drop i) 64) :
    Ev (fun r => loessref6_GetGamma.j1 r L (i : Int) (z : Int)) (getP i (getG L i)) := by
  have hsp := zeros_spec (L.drop i) 64
  rw [← hz] at hsp
  have hg : getG L i = if z = 64 then none else (numAt L ((i : Int) + (z : Int)) ((z : Int) + 1)).map fun x => (x, (i : Int) + 2 * (z : Int) + 1) := by
    unfold getG
    rw [if_neg (by omega), Int.toNat_natCast, ← hz]
  have hzl : z ≤ L.length - i := by rw [← List.length_drop]; exact hsp.2.1
  by_cases h64 : z = 64
  · rw [hg, if_pos h64]
    refine Ev.step (f := fun _ => some (0, (i : Int), false)) (fun r => ?_) (Ev.now _)
    simp only [loessref6_GetGamma.j1]
    rw [if_pos (by omega)]
  · have hw : Aside0 (wrap64 ((i : Int) + (z : Int)) = (i : Int) + (z : Int)) := ⟨w64 (by omega) (by omega)⟩
    have hw1 : Aside0 (wrap64 ((z : Int) + 1) = (z : Int) + 1) := ⟨w64 (by omega) (by omega)⟩
    have hw2 : Aside0 (wrap64 (2 * (z : Int)) = 2 * (z : Int)) := ⟨w64 (by omega) (by omega)⟩
    have hw3 : Aside0 (wrap64 ((i : Int) + 2 * (z : Int)) = (i : Int) + 2 * (z : Int)) := ⟨w64 (by omega) (by omega)⟩
    have hw4 : Aside0 (wrap64 ((i : Int) + 2 * (z : Int) + 1) = (i : Int) + 2 * (z : Int) + 1) := ⟨w64 (by omega) (by omega)⟩
    refine Ev.step (f := fun r => (loessref6_Bits_Num.f r L ((i : Int) + (z : Int)) ((z : Int) + 1)).bind fun bt => if bt.2 = true then (if bt.1 = 0 then some (0, (i : Int), false) else some (bt.1, (i : Int) + 2 * (z : Int) + 1, true)) else some (0, (i : Int), false)) (fun r => ?_) ?_
    · simp only [loessref6_GetGamma.j1]
      rw [if_neg (by omega), hw.out, hw1.out, hw2.out, hw3.out, hw4.out]
    · refine Ev.bind (num_ev L _ _ hl) ?_
      rw [hg, if_neg h64]
      cases hn : numAt L ((i : Int) + (z : Int)) ((z : Int) + 1) with
      | none => exact Ev.now _
      | some x =>
        have hx : 0 < x := by
          unfold numAt at hn
          split at hn
          · rename_i hc
            injection hn with hn
            rw [← hn]
            have e1 : ((i : Int) + (z : Int)).toNat = i + z := by omega
            have e2 : ((z : Int) + 1).toNat = z + 1 := by omega
            rw [e1, e2]
            refine numOf_pos L (i + z) (z + 1) (by omega) ?_ (by omega)
            have := hsp.2.2.2 (by omega) (by rw [List.length_drop]; omega)
            rw [List.getD_eq_getElem?_getD, List.getElem?_drop, ← List.getD_eq_getElem?_getD] at this
            exact this
          · cases hn
        refine Ev.congr (f := fun _ => some (getP i (Option.map (fun x => (x, (i : Int) + 2 * (z : Int) + 1)) (some x)))) (fun r => ?_) (Ev.now _)
        have h0 : ¬ (numP (some x)).1 = 0 := by show ¬ x = 0; omega
        have h1 : (numP (some x)).2 = true := rfl
        rw [if_pos h1, if_neg h0]
        rfl
theorem get_l0 (L : List Bool) (i z : Nat) (hl : L.length < 100000000000) (hi : i < L.length) (hz : z = zeros (L.drop i) 64) :
    ∀ d k, z = k + d → Ev (fun r => loessref6_GetGamma.l0 r L (i : Int) (k : Int)) (getP i (getG L i)) := by
  have hsp := zeros_spec (L.drop i) 64
  rw [← hz] at hsp
  have hzl : z ≤ L.length - i := by rw [← List.length_drop]; exact hsp.2.1
  intro d
  induction d with
  | zero =>
    intro k hk
    obtain rfl : z = k := hk
    have hw : Aside0 (wrap64 ((i : Int) + (z : Int)) = ((i + z : Nat) : Int)) := ⟨by rw [w64 (by omega) (by omega)]; rfl⟩
    refine Ev.step (f := fun r => loessref6_GetGamma.j1 r L (i : Int) (z : Int)) (fun r => ?_) (get_j1 L i z hl hi hz)
    simp only [loessref6_GetGamma.l0]
    by_cases h64 : (z : Int) < 64
    · rw [if_pos h64, hw.out]
      by_cases hend : ((i + z : Nat) : Int) < (L.length : Int)
      · rw [if_pos hend, if_pos (by omega)]
        have := hsp.2.2.2 (by omega) (by rw [List.length_drop]; omega)
        rw [List.getD_eq_getElem?_getD, List.getElem?_drop, ← List.getD_eq_getElem?_getD] at this
        rw [if_pos (show rdOf false L ((i + z : Nat) : Int) = true from this)]
      · rw [if_neg hend]
    · rw [if_neg h64]
  | succ d ih =>
    intro k hk
    have hw : Aside0 (wrap64 ((i : Int) + (k : Int)) = ((i + k : Nat) : Int)) := ⟨by rw [w64 (by omega) (by omega)]; rfl⟩
    have hw1 : Aside0 (wrap64 ((k : Int) + 1) = ((k + 1 : Nat) : Int)) := ⟨by rw [w64 (by omega) (by omega)]; rfl⟩
    refine Ev.step (f := fun r => loessref6_GetGamma.l0 r L (i : Int) ((k + 1 : Nat) : Int)) (fun r => ?_) (ih (k + 1) (by omega))
    simp only [loessref6_GetGamma.l0]
    have := hsp.2.2.1 k (by omega)
    rw [List.getD_eq_getElem?_getD, List.getElem?_drop, ← List.getD_eq_getElem?_getD] at this
    have hrd : rdOf false L ((i + k : Nat) : Int) = false := this
    rw [if_pos (by omega), hw.out, if_pos (by omega), if_pos (by omega), hrd, if_neg (by simp), hw1.out]
theorem getGamma_ev (L : List Bool) (at_ : Int) (hl : L.length < 100000000000) (h1 : at_ < 9223372036854775808) : Ev (fun r => loessref6_GetGamma.f r L at_) (getP at_ (getG L at_)) := by
  unfold loessref6_GetGamma.f
  by_cases h0 : at_ < 0
  · simp only [if_pos h0]
    have e : getG L at_ = none := if_pos h0
    rw [e]
    exact Ev.now _
  · simp only [if_neg h0]
    by_cases hi : at_ < (L.length : Int)
    · obtain ⟨i, rfl⟩ := Int.eq_ofNat_of_zero_le (show 0 ≤ at_ by omega)
      exact get_l0 L i _ hl (by omega) rfl (zeros (L.drop i) 64) 0 (by omega)
    · have e : getG L at_ = none := by
        unfold getG
        rw [if_neg h0, List.drop_of_length_le (by omega)]
        have e : zeros ([] : List Bool) 64 = 0 := rfl
        rw [e, if_neg (by decide), numAt_none (by omega)]
        rfl
      rw [e]
      have hw : Aside0 (wrap64 (at_ + 0) = at_) := ⟨by rw [w64 (by omega) (by omega)]; omega⟩
      have hw1 : Aside0 (wrap64 (0 + 1) = 1) := ⟨w64 (by decide) (by decide)⟩
      refine Ev.step (f := fun r => loessref6_GetGamma.j1 r L at_ 0) (fun r => ?_) ?_
      · simp only [loessref6_GetGamma.l0]
        rw [if_pos (by decide), hw.out, if_neg hi]
      · refine Ev.step (f := fun r => (loessref6_Bits_Num.f r L at_ 1).bind fun bt => if bt.2 = true then (if bt.1 = 0 then some (0, at_, false) else some (bt.1, wrap64 (wrap64 (at_ + wrap64 (2 * 0)) + 1), true)) else some (0, at_, false)) (fun r => ?_) ?_
        · simp only [loessref6_GetGamma.j1]
          rw [if_neg (by decide), hw.out, hw1.out]
        · refine Ev.bind (num_ev L _ _ hl) ?_
          rw [numAt_none (by omega)]
          exact Ev.now _
end Go.Proofs.Ytobdfehpbgcloaa.GL

/- trie.bit, read, skip, Rank, Check by hand. -/
namespace Go.Proofs.Ytobdfehpbgcloaa.GL
open Go.RowKit Go.Proofs.YtobdfehpbgcloaaW.PrintWords Go.Proofs.YtobdfehpbgcloaaW.PrintLast Go.Proofs.YtobdfehpbgcloaaW.PrintMore Go.Proofs.Ytobdfehpbgcloaa.Q Go.Proofs.Ytobdfehpbgcloaa.XTri Go.Proofs.Ytobdfehpbgcloaa.G
set_option linter.unusedVariables false
set_option linter.unusedSimpArgs false
/-- A number's bit. -/
def bitT (h : Int) (k : Nat) : Bool := h / 2 ^ k % 2 == 1
set_option maxRecDepth 1000000 in
set_option maxHeartbeats 8000000 in
theorem trie_bit {w : World} {h : Int} (k : Nat) (hk : k ≤ 63) (h0 : 0 ≤ h) (h1 : h < 18446744073709551616) :
    Calls Try.prog 21 #[.int .u64 h, .int .i64 (63 - (k : Int))] w fun e w' => e = .returned (.bool (bitT h k)) ∧ w = w' := by
  have hand := and1_shr k h0 h1
  obtain ⟨b, hb⟩ : ∃ b, b = bitT h k := ⟨_, rfl⟩
  have HBB := Aside0.mk hb
  have he : (h / 2 ^ k % 2 == 1) = b := hb.symm
  rw [← hb]
  have hsub : (63 : Int) - (63 - (k : Int)) = (k : Int) := by omega
  clear hb
  go_enter Try.func21, Try.ntmps21
  go_wp2
  go_ret
  exact ⟨rfl, rfl⟩
theorem getG_spec {L : List Bool} {at_ x e : Int} (h : getG L at_ = some (x, e)) : 0 < x ∧ x < 18446744073709551616 ∧ e ≤ L.length ∧ 0 ≤ at_ ∧ at_ < e := by
  unfold getG at h
  split at h
  · cases h
  · rename_i h0
    split at h
    · cases h
    · rename_i h64
      have hsp := zeros_spec (L.drop at_.toNat) 64
      obtain ⟨z, hz⟩ : ∃ z, z = zeros (L.drop at_.toNat) 64 := ⟨_, rfl⟩
      rw [← hz] at h hsp h64
      unfold numAt at h
      split at h
      · rename_i hc
        simp only [Option.map_some, Option.some.injEq, Prod.mk.injEq] at h
        obtain ⟨hx, he⟩ := h
        have ha : (at_ + (z : Int)).toNat = at_.toNat + z := by omega
        have hn : ((z : Int) + 1).toNat = z + 1 := by omega
        rw [ha, hn] at hx
        have hbit := hsp.2.2.2 (by omega) (by rw [List.length_drop]; omega)
        rw [List.getD_eq_getElem?_getD, List.getElem?_drop, ← List.getD_eq_getElem?_getD] at hbit
        have hpos : 0 < numOf ((L.drop (at_.toNat + z)).take (z + 1)) := numOf_pos L (at_.toNat + z) (z + 1) (by omega) hbit (by omega)
        have hbd := numOf_bd (z + 1) ((L.drop (at_.toNat + z)).take (z + 1)) (by rw [List.length_take, List.length_drop]; omega)
        have h2p : (2 : Int) ^ (z + 1) ≤ 2 ^ 64 := by have := Nat.pow_le_pow_right (n := 2) (by decide) (show z + 1 ≤ 64 by omega); exact_mod_cast this
        have e64 : (2 : Int) ^ 64 = 18446744073709551616 := rfl
        refine ⟨?_, ?_, ?_, ?_, ?_⟩
        · omega
        · omega
        · omega
        · omega
        · omega
      · cases h
/-- trie.read. -/
def readT (L : List Bool) (at_ n : Int) : Option (Int × Int) := match getG L at_ with
  | none => none
  | some (x, e) => if n < x - 1 then none else some (x - 1, e)
theorem readT_spec {L : List Bool} {at_ n l e : Int} (h : readT L at_ n = some (l, e)) : 0 ≤ l ∧ l ≤ n ∧ e ≤ L.length ∧ 0 ≤ at_ ∧ at_ < e := by
  unfold readT at h
  split at h
  · cases h
  · rename_i x e' hg
    have := getG_spec hg
    split at h
    · cases h
    · simp only [Option.some.injEq, Prod.mk.injEq] at h
      omega
def readR : Option (Int × Int) → Value
  | some (x, e) => .tuple #[.int .i64 x, .int .i64 e, .bool true]
  | none => .tuple #[.int .i64 0, .int .i64 0, .bool false]
set_option maxRecDepth 1000000 in
set_option maxHeartbeats 8000000 in
theorem trie_read {w : World} {P : Option Addr} {L : List Bool} (at_ n d : Int) (h : BitsP w P L) (hl : L.length < 100000000000) (hn0 : 0 ≤ n) (hn : n ≤ 4096) (hd : d < 64) :
    Calls Try.prog 20 #[.pointer P, .int .i64 at_, .int .i64 n, .int .i64 d] w fun e w' => e = .returned (readR (readT L at_ n)) ∧ w = w' := by
  have HL := Aside0.mk h
  have HLL := Aside0.mk hl
  obtain ⟨g, hg⟩ : ∃ g, g = getG L at_ := ⟨_, rfl⟩
  have HG := Aside0.mk hg
  have hdd : decide (64 ≤ d) = false := decide_eq_false (by omega)
  cases g with
  | none =>
    have HE := Aside0.mk (show readT L at_ n = none by unfold readT; rw [← hg])
    clear h hl hg
    go_enter Try.func20, Try.ntmps20
    go_wp2_with (first | (go_at_call 29; refine (gamma_Get _ HL.out HLL.out).mono ?_; rw [← HG.out]; rintro e w' ⟨rfl, rfl⟩; simp only [getR]))
    go_ret3
    rw [HE.out]
    exact ⟨rfl, rfl⟩
  | some xe =>
    obtain ⟨x, e⟩ := xe
    have hsp := getG_spec hg.symm
    have hx0 : 0 < x := hsp.1
    have hx1 : x < 18446744073709551616 := hsp.2.1
    clear h hl hsp
    by_cases hlt : n < x - 1
    · have HE := Aside0.mk (show readT L at_ n = none by unfold readT; rw [← hg]; exact if_pos hlt)
      have h1 := decide_eq_true hlt
      clear hg
      go_enter Try.func20, Try.ntmps20
      go_wp2_with (first | (go_at_call 29; refine (gamma_Get _ HL.out HLL.out).mono ?_; rw [← HG.out]; rintro e w' ⟨rfl, rfl⟩; simp only [getR]))
      go_ret3
      rw [HE.out]
      exact ⟨rfl, rfl⟩
    · have HE := Aside0.mk (show readT L at_ n = some (x - 1, e) by unfold readT; rw [← hg]; exact if_neg hlt)
      have h1 := decide_eq_false hlt
      clear hg
      go_enter Try.func20, Try.ntmps20
      go_wp2_with (first | (go_at_call 29; refine (gamma_Get _ HL.out HLL.out).mono ?_; rw [← HG.out]; rintro e w' ⟨rfl, rfl⟩; simp only [getR]))
      go_ret3
      rw [HE.out]
      exact ⟨rfl, rfl⟩
set_option maxRecDepth 1000000 in
set_option maxHeartbeats 8000000 in
theorem trie_read_deep {w : World} {P : Option Addr} {L : List Bool} (at_ n : Int) (h : BitsP w P L) (hl : L.length < 100000000000) (hn0 : 0 ≤ n) (hn : n ≤ 4096) :
    Calls Try.prog 20 #[.pointer P, .int .i64 at_, .int .i64 n, .int .i64 64] w fun e w' => e = .returned (readR none) ∧ w = w' := by
  have HL := Aside0.mk h
  have HLL := Aside0.mk hl
  obtain ⟨g, hg⟩ : ∃ g, g = getG L at_ := ⟨_, rfl⟩
  have HG := Aside0.mk hg
  clear h hl
  cases g with
  | none =>
    clear hg
    go_enter Try.func20, Try.ntmps20
    go_wp2_with (first | (go_at_call 29; refine (gamma_Get _ HL.out HLL.out).mono ?_; rw [← HG.out]; rintro e w' ⟨rfl, rfl⟩; simp only [getR]))
    go_ret3
    exact ⟨rfl, rfl⟩
  | some xe =>
    obtain ⟨x, e⟩ := xe
    clear hg
    go_enter Try.func20, Try.ntmps20
    go_wp2_with (first | (go_at_call 29; refine (gamma_Get _ HL.out HLL.out).mono ?_; rw [← HG.out]; rintro e w' ⟨rfl, rfl⟩; simp only [getR]))
    go_ret3
    exact ⟨rfl, rfl⟩
/-- trie.skip. -/
def skipT (L : List Bool) : Nat → Int → Int → Option Int
  | 0, at_, n => if n < 2 then some at_ else none
  | k + 1, at_, n => if n < 2 then some at_ else match readT L at_ n with
    | none => none
    | some (l, e) => match skipT L k e l with
      | none => none
      | some t => skipT L k t (n - l)
def skipR : Option Int → Value
  | some t => .tuple #[.int .i64 t, .bool true]
  | none => .tuple #[.int .i64 0, .bool false]
set_option maxRecDepth 1000000 in
set_option maxHeartbeats 8000000 in
theorem trie_skip {w : World} {P : Option Addr} {L : List Bool} (h : BitsP w P L) (hl : L.length < 100000000000) : ∀ (k : Nat) (at_ n d : Int), k ≤ 64 → d = 64 - (k : Int) → 0 ≤ n → n ≤ 4096 →
    Calls Try.prog 22 #[.pointer P, .int .i64 at_, .int .i64 n, .int .i64 d] w fun e w' => e = .returned (skipR (skipT L k at_ n)) ∧ w = w' := by
  have HL := Aside0.mk h
  have HLL := Aside0.mk hl
  clear h hl
  intro k
  induction k with
  | zero =>
    intro at_ n d _ hd hn0 hn
    obtain rfl : d = 64 := by omega
    clear hd
    by_cases h2 : n < 2
    · have HE := Aside0.mk (show skipT L 0 at_ n = some at_ from if_pos h2)
      have h1 := decide_eq_true h2
      clear h2
      go_enter Try.func22, Try.ntmps22
      go_wp2
      go_ret2
      rw [HE.out]
      exact ⟨rfl, rfl⟩
    · have HE := Aside0.mk (show skipT L 0 at_ n = none from if_neg h2)
      have h1 := decide_eq_false h2
      have HN0 := Aside0.mk hn0
      have HN := Aside0.mk hn
      clear h2 hn0 hn
      go_enter Try.func22, Try.ntmps22
      go_wp2_with (first | (go_at_call 20; refine (trie_read_deep _ _ HL.out HLL.out HN0.out HN.out).mono ?_; rintro e w' ⟨rfl, rfl⟩; simp only [readR]))
      go_ret2
      rw [HE.out]
      exact ⟨rfl, rfl⟩
  | succ k ih =>
    intro at_ n d hk hd hn0 hn
    by_cases h2 : n < 2
    · have HE := Aside0.mk (show skipT L (k + 1) at_ n = some at_ from if_pos h2)
      have h1 := decide_eq_true h2
      clear h2 ih hd hk
      go_enter Try.func22, Try.ntmps22
      go_wp2
      go_ret2
      rw [HE.out]
      exact ⟨rfl, rfl⟩
    · have h1 := decide_eq_false h2
      have HE := Aside0.mk (show skipT L (k + 1) at_ n = match readT L at_ n with
        | none => none
        | some (l, e) => match skipT L k e l with
          | none => none
          | some t => skipT L k t (n - l) from if_neg h2)
      obtain ⟨r, hr⟩ : ∃ r, r = readT L at_ n := ⟨_, rfl⟩
      rw [← hr] at HE
      have HR := Aside0.mk hr
      have HN0 := Aside0.mk hn0
      have HN := Aside0.mk hn
      have HD := Aside0.mk (show d < 64 by omega)
      have hd1 : d + 1 = 64 - (k : Int) := by omega
      have hdl : d < 64 := HD.out
      have hdg : 0 ≤ d := by omega
      have HI := Aside0.mk (fun (at_ n : Int) (h0 : 0 ≤ n) (h1 : n ≤ 4096) => ih at_ n (64 - (k : Int)) (by omega) rfl h0 h1)
      clear ih h2 hd hk
      cases r with
      | none =>
        have HE := Aside0.mk (show skipT L (k + 1) at_ n = none from HE.out)
        clear hr hn0 hn
        go_enter Try.func22, Try.ntmps22
        go_wp2_with (first | (go_at_call 20; refine (trie_read _ _ _ HL.out HLL.out HN0.out HN.out HD.out).mono ?_; rw [← HR.out]; rintro e w' ⟨rfl, rfl⟩; simp only [readR]))
        go_ret2
        rw [HE.out]
        exact ⟨rfl, rfl⟩
      | some le =>
        obtain ⟨l, e⟩ := le
        have hsp := readT_spec hr.symm
        have hl0 : 0 ≤ l := hsp.1
        have hln : l ≤ n := hsp.2.1
        have HL0 := Aside0.mk hl0
        have HL1 := Aside0.mk (show l ≤ 4096 by omega)
        have HM0 := Aside0.mk (show 0 ≤ n - l by omega)
        have HM1 := Aside0.mk (show n - l ≤ 4096 by omega)
        obtain ⟨s, hs⟩ : ∃ s, s = skipT L k e l := ⟨_, rfl⟩
        replace HE : Aside0 (skipT L (k + 1) at_ n = match skipT L k e l with
          | none => none
          | some t => skipT L k t (n - l)) := ⟨HE.out⟩
        rw [← hs] at HE
        have HS := Aside0.mk hs
        clear hr hsp hs
        cases s with
        | none =>
          replace HE : Aside0 (skipT L (k + 1) at_ n = none) := ⟨HE.out⟩
          go_enter Try.func22, Try.ntmps22
          go_wp2_with (first
            | (go_at_call 20; refine (trie_read _ _ _ HL.out HLL.out HN0.out HN.out HD.out).mono ?_; rw [← HR.out]; rintro e w' ⟨rfl, rfl⟩; simp only [readR])
            | (go_at_call 22; (try rw [hd1]); refine (HI.out _ _ HL0.out HL1.out).mono ?_; rw [← HS.out]; rintro e w' ⟨rfl, rfl⟩; simp only [skipR]))
          go_ret2
          rw [HE.out]
          exact ⟨rfl, rfl⟩
        | some t =>
          replace HE : Aside0 (skipT L (k + 1) at_ n = skipT L k t (n - l)) := ⟨HE.out⟩
          obtain ⟨q, hq⟩ : ∃ q, q = skipT L k t (n - l) := ⟨_, rfl⟩
          rw [← hq] at HE
          have HQ := Aside0.mk hq
          clear hq
          cases q with
          | none =>
            go_enter Try.func22, Try.ntmps22
            go_wp2_with (first
              | (go_at_call 20; refine (trie_read _ _ _ HL.out HLL.out HN0.out HN.out HD.out).mono ?_; rw [← HR.out]; rintro e w' ⟨rfl, rfl⟩; simp only [readR])
              | (go_at_call 22; (try rw [hd1]); (first | ((with_reducible refine (HI.out e l HL0.out HL1.out).mono ?_); rw [← HS.out]) | ((with_reducible refine (HI.out t (n - l) HM0.out HM1.out).mono ?_); rw [← HQ.out])); rintro e w' ⟨rfl, rfl⟩; simp only [skipR]))
            go_ret2
            rw [HE.out]
            exact ⟨rfl, rfl⟩
          | some y =>
            go_enter Try.func22, Try.ntmps22
            go_wp2_with (first
              | (go_at_call 20; refine (trie_read _ _ _ HL.out HLL.out HN0.out HN.out HD.out).mono ?_; rw [← HR.out]; rintro e w' ⟨rfl, rfl⟩; simp only [readR])
              | (go_at_call 22; (try rw [hd1]); (first | ((with_reducible refine (HI.out e l HL0.out HL1.out).mono ?_); rw [← HS.out]) | ((with_reducible refine (HI.out t (n - l) HM0.out HM1.out).mono ?_); rw [← HQ.out])); rintro e w' ⟨rfl, rfl⟩; simp only [skipR]))
            go_ret2
            rw [HE.out]
            exact ⟨rfl, rfl⟩
end Go.Proofs.Ytobdfehpbgcloaa.GL

/- trie.Rank, Check by hand. -/
namespace Go.Proofs.Ytobdfehpbgcloaa.GL
open Go.RowKit Go.Proofs.YtobdfehpbgcloaaW.PrintWords Go.Proofs.YtobdfehpbgcloaaW.PrintLast Go.Proofs.YtobdfehpbgcloaaW.PrintMore Go.Proofs.Ytobdfehpbgcloaa.Q Go.Proofs.Ytobdfehpbgcloaa.XTri Go.Proofs.Ytobdfehpbgcloaa.G
set_option linter.unusedVariables false
set_option linter.unusedSimpArgs false
/-- trie.Rank. -/
def rankT (L : List Bool) (h : Int) : Nat → Int → Int → Int → Option Int
  | 0, at_, n, a => if n = 0 then none else if n < 2 then some a else none
  | k + 1, at_, n, a => if n = 0 then none else if n < 2 then some a else match readT L at_ n with
    | none => none
    | some (l, e) => if bitT h k = true then (match skipT L k e l with
      | none => none
      | some t => rankT L h k t (n - l) (a + l)) else rankT L h k e l a
theorem rankT_0 (L : List Bool) (h : Int) (k : Nat) (at_ a : Int) : rankT L h k at_ 0 a = none := by cases k <;> rfl
theorem rankT_1 (L : List Bool) (h : Int) (k : Nat) (at_ a : Int) : rankT L h k at_ 1 a = some a := by cases k <;> rfl
theorem rankT_s {L : List Bool} {h : Int} {k : Nat} {at_ n a : Int} (hn : 2 ≤ n) : rankT L h (k + 1) at_ n a = match readT L at_ n with
    | none => none
    | some (l, e) => if bitT h k = true then (match skipT L k e l with
      | none => none
      | some t => rankT L h k t (n - l) (a + l)) else rankT L h k e l a := by
  rw [rankT, if_neg (by omega), if_neg (by omega)]
theorem rankT_e {L : List Bool} {h : Int} {at_ n a : Int} (hn : 2 ≤ n) : rankT L h 0 at_ n a = none := by
  rw [rankT, if_neg (by omega), if_neg (by omega)]
set_option maxRecDepth 1000000 in
set_option maxHeartbeats 8000000 in
theorem trie_Rank_in {w : World} {P : Option Addr} {L : List Bool} {h : Int} (n : Int) (hL : BitsP w P L) (hl : L.length < 100000000000) (hn0 : 0 ≤ n) (hn : n ≤ 4096) (h0 : 0 ≤ h) (h1 : h < 18446744073709551616) :
    Calls Try.prog 10 #[.pointer P, .int .i64 n, .int .u64 h] w fun e w' => e = .returned (skipR (rankT L h 64 0 n 0)) ∧ w = w' := by
  have HL := Aside0.mk hL
  have HLL := Aside0.mk hl
  have HH0 := Aside0.mk h0
  have HH1 := Aside0.mk h1
  obtain ⟨R, hR⟩ : ∃ R, R = rankT L h 64 0 n 0 := ⟨_, rfl⟩
  rw [← hR]
  have HRR := Aside0.mk hR
  have hc0 : decide (n < 0) = false := decide_eq_false (by omega)
  have hc1 : decide (4096 < n) = false := decide_eq_false (by omega)
  have HA := Aside0.mk (And.intro hn0 hn)
  clear hL hl h0 h1 hR hn0 hn
  go_enter Try.func10, Try.ntmps10
  go_wp2
  go_loop [1, 8, 9, 10] (fun v1 v8 v9 v10 => ∃ (k : Nat) (at_ n a : Int), v10 = .int .i64 (64 - (k : Int)) ∧ v1 = .int .i64 n ∧ v8 = .int .i64 at_ ∧ v9 = .int .i64 a ∧ k ≤ 64 ∧ 0 ≤ n ∧ n ≤ 4096 ∧ 0 ≤ a ∧ a + n ≤ 4096 ∧ Aside0 (R = rankT L h k at_ n a)) (fun _ _ _ v => (64 - intOf v).toNat)
  case atStart => exact ⟨64, 0, n, 0, by first | rfl | go_num, rfl, rfl, rfl, Nat.le_refl _, HA.out.1, HA.out.2, by decide, by have := HA.out.2; omega, HRR⟩
  case round =>
    clear HRR hc0 hc1 HA
    obtain ⟨k, at_, n, a, rfl, rfl, rfl, rfl, hk, hn0, hn1, ha0, ha1, HE⟩ := hrel
    by_cases hlt : 2 ≤ n
    · have hd := decide_eq_true (show 1 < n by omega)
      have HN0 := Aside0.mk hn0
      have HN1 := Aside0.mk hn1
      cases k with
      | zero =>
        rw [rankT_e hlt] at HE
        clear hlt
        have h64 : (64 : Int) - ((0 : Nat) : Int) = 64 := rfl
        rw [h64]
        clear h64
        go_wp2_with (first | (go_at_call 20; refine (trie_read_deep _ _ HL.out HLL.out HN0.out HN1.out).mono ?_; rintro e w' ⟨rfl, rfl⟩; simp only [readR]))
        go_ret2
        rw [HE.out]
        exact ⟨rfl, rfl⟩
      | succ k =>
        rw [rankT_s hlt] at HE
        have HLT := Aside0.mk hlt
        obtain ⟨r, hr⟩ : ∃ r, r = readT L at_ n := ⟨_, rfl⟩
        rw [← hr] at HE
        have HR := Aside0.mk hr
        have hd3 : (64 : Int) - ((k + 1 : Nat) : Int) = 63 - (k : Int) := by omega
        have hd1 : (63 : Int) - (k : Int) + 1 = 64 - (k : Int) := by omega
        have hk63 : (k : Int) ≤ 63 := by omega
        have HD := Aside0.mk (show (64 : Int) - ((k + 1 : Nat) : Int) < 64 by omega)
        have HD' := Aside0.mk (show (63 : Int) - (k : Int) < 64 by omega)
        have HK := Aside0.mk (show k ≤ 63 by omega)
        have HK64 := Aside0.mk (show k ≤ 64 by omega)
        clear hlt hk
        rw [hd3] at HD ⊢
        cases r with
        | none =>
          replace HE : Aside0 (R = none) := ⟨HE.out⟩
          clear hr
          go_wp2_with (first | (go_at_call 20; refine (trie_read _ _ _ HL.out HLL.out HN0.out HN1.out HD.out).mono ?_; rw [← HR.out]; rintro e w' ⟨rfl, rfl⟩; simp only [readR]))
          go_ret2
          rw [HE.out]
          exact ⟨rfl, rfl⟩
        | some le =>
          obtain ⟨l, e⟩ := le
          have hsp := readT_spec hr.symm
          have hl0 : 0 ≤ l := hsp.1
          have hln : l ≤ n := hsp.2.1
          have HL0 := Aside0.mk hl0
          have HL1 := Aside0.mk (show l ≤ 4096 by omega)
          replace HE : Aside0 (R = if bitT h k = true then (match skipT L k e l with
            | none => none
            | some t => rankT L h k t (n - l) (a + l)) else rankT L h k e l a) := ⟨HE.out⟩
          clear hr hsp
          cases hb : bitT h k with
          | false =>
            have HBT := Aside0.mk hb
            rw [if_neg (by rw [hb]; decide)] at HE
            clear hb
            go_wp2_with (first | (go_at_call 20; refine (trie_read _ _ _ HL.out HLL.out HN0.out HN1.out HD.out).mono ?_; rw [← HR.out]; rintro e w' ⟨rfl, rfl⟩; simp only [readR]) | (go_at_call 21; (try rw [hd3]); refine (trie_bit _ HK.out HH0.out HH1.out).mono ?_; rw [HBT.out]; rintro e w' ⟨rfl, rfl⟩))
            go_round
            case rel => exact ⟨k, e, l, a, by first | rfl | go_num, rfl, rfl, rfl, by omega, hl0, by omega, ha0, by omega, HE⟩
            case measure => have := HK.out; simp [intOf]; omega
          | true =>
            have HBT := Aside0.mk hb
            rw [if_pos hb] at HE
            obtain ⟨s, hs⟩ : ∃ s, s = skipT L k e l := ⟨_, rfl⟩
            rw [← hs] at HE
            have HS := Aside0.mk hs
            clear hb hs
            cases s with
            | none =>
              replace HE : Aside0 (R = none) := ⟨HE.out⟩
              go_wp2_with (first | (go_at_call 20; refine (trie_read _ _ _ HL.out HLL.out HN0.out HN1.out HD.out).mono ?_; rw [← HR.out]; rintro e w' ⟨rfl, rfl⟩; simp only [readR]) | (go_at_call 21; (try rw [hd3]); refine (trie_bit _ HK.out HH0.out HH1.out).mono ?_; rw [HBT.out]; rintro e w' ⟨rfl, rfl⟩) | (go_at_call 22; (try rw [hd1]); refine (trie_skip HL.out HLL.out _ _ _ _ HK64.out rfl HL0.out HL1.out).mono ?_; rw [← HS.out]; rintro e w' ⟨rfl, rfl⟩; simp only [skipR]))
              go_ret2
              rw [HE.out]
              exact ⟨rfl, rfl⟩
            | some t =>
              replace HE : Aside0 (R = rankT L h k t (n - l) (a + l)) := ⟨HE.out⟩
              go_wp2_with (first | (go_at_call 20; refine (trie_read _ _ _ HL.out HLL.out HN0.out HN1.out HD.out).mono ?_; rw [← HR.out]; rintro e w' ⟨rfl, rfl⟩; simp only [readR]) | (go_at_call 21; (try rw [hd3]); refine (trie_bit _ HK.out HH0.out HH1.out).mono ?_; rw [HBT.out]; rintro e w' ⟨rfl, rfl⟩) | (go_at_call 22; (try rw [hd1]); refine (trie_skip HL.out HLL.out _ _ _ _ HK64.out rfl HL0.out HL1.out).mono ?_; rw [← HS.out]; rintro e w' ⟨rfl, rfl⟩; simp only [skipR]))
              go_round
              case rel => exact ⟨k, t, n - l, a + l, by first | rfl | go_num, by first | rfl | go_num, rfl, by first | rfl | go_num, by omega, by omega, by omega, by omega, by omega, HE⟩
              case measure => have := HK.out; simp [intOf]; omega
    · have hd := decide_eq_false (show ¬ 1 < n by omega)
      by_cases hz : n = 0
      · subst hz
        rw [rankT_0] at HE
        clear hlt
        go_wp2
        go_ret2
        rw [HE.out]
        exact ⟨rfl, rfl⟩
      · obtain rfl : n = 1 := by omega
        rw [rankT_1] at HE
        clear hlt hz
        go_wp2
        go_ret2
        rw [HE.out]
        exact ⟨rfl, rfl⟩
def rankI (L : List Bool) (h n : Int) : Option Int := if n < 0 ∨ 4096 < n then none else rankT L h 64 0 n 0
set_option maxRecDepth 1000000 in
set_option maxHeartbeats 8000000 in
theorem trie_Rank {w : World} {P : Option Addr} {L : List Bool} {h : Int} (n : Int) (hL : BitsP w P L) (hl : L.length < 100000000000) (h0 : 0 ≤ h) (h1 : h < 18446744073709551616) :
    Calls Try.prog 10 #[.pointer P, .int .i64 n, .int .u64 h] w fun e w' => e = .returned (skipR (rankI L h n)) ∧ w = w' := by
  by_cases hn : n < 0 ∨ 4096 < n
  · have e : rankI L h n = none := if_pos hn
    rw [e]
    have hc : decide (n < 0) = true ∨ (decide (n < 0) = false ∧ decide (4096 < n) = true) := by
      by_cases h : n < 0
      · exact .inl (decide_eq_true h)
      · exact .inr ⟨decide_eq_false h, decide_eq_true (by omega)⟩
    clear hL hl hn e
    rcases hc with h | ⟨h, h'⟩
    all_goals
      go_enter Try.func10, Try.ntmps10
      go_wp2
      go_ret2
      exact ⟨rfl, rfl⟩
  · have e : rankI L h n = rankT L h 64 0 n 0 := if_neg hn
    rw [e]
    exact trie_Rank_in n hL hl (by omega) (by omega) h0 h1
/-- trie.Check. -/
def checkT (L : List Bool) (n : Int) : Bool := if n < 0 ∨ 4096 < n then false else skipT L 64 0 n == some (L.length : Int)
set_option maxRecDepth 1000000 in
set_option maxHeartbeats 8000000 in
theorem trie_Check {w : World} {P : Option Addr} {L : List Bool} (n : Int) (hL : BitsP w P L) (hl : L.length < 100000000000) :
    Calls Try.prog 13 #[.pointer P, .int .i64 n] w fun e w' => e = .returned (.bool (checkT L n)) ∧ w = w' := by
  have HL := Aside0.mk hL
  have HLL := Aside0.mk hl
  by_cases hn : n < 0 ∨ 4096 < n
  · have e : checkT L n = false := if_pos hn
    rw [e]
    have hc : decide (n < 0) = true ∨ (decide (n < 0) = false ∧ decide (4096 < n) = true) := by
      by_cases h : n < 0
      · exact .inl (decide_eq_true h)
      · exact .inr ⟨decide_eq_false h, decide_eq_true (by omega)⟩
    clear hL hl hn e
    rcases hc with h | ⟨h, h'⟩
    all_goals
      go_enter Try.func13, Try.ntmps13
      go_wp2
      go_ret
      exact ⟨rfl, rfl⟩
  · have e : checkT L n = (skipT L 64 0 n == some (L.length : Int)) := if_neg hn
    rw [e]
    have h0 := decide_eq_false (show ¬ n < 0 by omega)
    have h1 := decide_eq_false (show ¬ 4096 < n by omega)
    have HS0 := Aside0.mk (trie_skip hL hl 64 0 n 0 (by omega) rfl (by omega) (by omega))
    obtain ⟨s, hs⟩ : ∃ s, s = skipT L 64 0 n := ⟨_, rfl⟩
    rw [← hs] at HS0 ⊢
    clear hL hl hn e hs
    cases s with
    | none =>
      go_enter Try.func13, Try.ntmps13
      go_wp2_with (first | (go_at_call 22; refine HS0.out.mono ?_; rintro e w' ⟨rfl, rfl⟩; simp only [skipR]))
      go_ret
      exact ⟨rfl, rfl⟩
    | some t =>
      have hb : (some t == some (L.length : Int)) = (t == (L.length : Int)) := rfl
      rw [hb]
      obtain ⟨b, hbb⟩ : ∃ b, b = (t == (L.length : Int)) := ⟨_, rfl⟩
      rw [← hbb]
      have hbc : (t == (L.length : Int)) = b := hbb.symm
      clear hb hbb
      go_enter Try.func13, Try.ntmps13
      go_wp2_with (first | (go_at_call 22; refine HS0.out.mono ?_; rintro e w' ⟨rfl, rfl⟩; simp only [skipR]) | (go_at_call 15; refine (bits_Len HL.out).mono ?_; rintro e w' ⟨rfl, rfl⟩))
      go_ret
      exact ⟨rfl, rfl⟩
end Go.Proofs.Ytobdfehpbgcloaa.GL

/- trie.build, Build by hand. -/
namespace Go.Proofs.Ytobdfehpbgcloaa.GL
open Go.RowKit Go.Proofs.YtobdfehpbgcloaaW.PrintWords Go.Proofs.YtobdfehpbgcloaaW.PrintLast Go.Proofs.YtobdfehpbgcloaaW.PrintMore Go.Proofs.Ytobdfehpbgcloaa.Q Go.Proofs.Ytobdfehpbgcloaa.XTri Go.Proofs.Ytobdfehpbgcloaa.G
set_option linter.unusedVariables false
set_option linter.unusedSimpArgs false
/-- How many stand ahead whose bit is not set. -/
def lead (k : Nat) : List Int → Nat
  | [] => 0
  | x :: r => if bitT x k = true then 0 else lead k r + 1
theorem lead_spec (k : Nat) : ∀ ls : List Int, lead k ls ≤ ls.length ∧ (∀ j, j < lead k ls → bitT (ls.getD j 0) k = false) ∧ (lead k ls < ls.length → bitT (ls.getD (lead k ls) 0) k = true) := by
  intro ls
  induction ls with
  | nil => simp [lead]
  | cons x r ih =>
    obtain ⟨h1, h2, h3⟩ := ih
    cases hb : bitT x k with
    | true =>
      have e : lead k (x :: r) = 0 := by rw [lead, if_pos hb]
      rw [e]
      refine ⟨by omega, fun j hj => by omega, fun _ => ?_⟩
      rw [List.getD_cons_zero]
      exact hb
    | false =>
      have e : lead k (x :: r) = lead k r + 1 := by rw [lead, if_neg (by rw [hb]; decide)]
      rw [e, List.length_cons]
      refine ⟨by omega, fun j hj => ?_, fun h => ?_⟩
      · cases j with
        | zero => rw [List.getD_cons_zero]; exact hb
        | succ j => rw [List.getD_cons_succ]; exact h2 j (by omega)
      · rw [List.getD_cons_succ]
        exact h3 (by omega)
/-- The tree of numbers. -/
def treeG : Nat → List Int → List Bool
  | 0, _ => []
  | k + 1, ls => if ls.length < 2 then [] else gammaBits ((lead k ls : Int) + 1) ++ treeG k (ls.take (lead k ls)) ++ treeG k (ls.drop (lead k ls))
theorem treeG_short (k : Nat) {ls : List Int} (h : ls.length < 2) : treeG k ls = [] := by
  cases k with
  | zero => rfl
  | succ k => rw [treeG, if_pos h]
/-- Rising numbers that are alike above some bits. -/
def OkT (k : Nat) (ls : List Int) : Prop := ls.Pairwise (· < ·) ∧ ∃ c : Int, ∀ x ∈ ls, x / 2 ^ k = c
theorem OkT.zero {ls : List Int} (h : OkT 0 ls) : ls.length < 2 := by
  obtain ⟨hp, c, hc⟩ := h
  match ls, hp, hc with
  | [], _, _ => simp
  | [_], _, _ => simp
  | x :: y :: r, hp, hc =>
    have h1 := hc x (by simp)
    have h2 := hc y (by simp)
    have h3 : x < y := (List.pairwise_cons.1 hp).1 y (by simp)
    rw [Int.pow_zero, Int.ediv_one] at h1 h2
    omega
theorem half (x : Int) (k : Nat) : x / 2 ^ (k + 1) = x / 2 ^ k / 2 := by
  rw [Int.pow_succ, Int.ediv_ediv_of_nonneg (Int.le_of_lt (Int.pow_pos (by decide)))]
theorem bitT_true {x : Int} {k : Nat} (h : bitT x k = true) : x / 2 ^ k = 2 * (x / 2 ^ (k + 1)) + 1 := by
  have h1 : x / 2 ^ k % 2 = 1 := by simpa [bitT] using h
  rw [half]
  omega
theorem bitT_false {x : Int} {k : Nat} (h : bitT x k = false) : x / 2 ^ k = 2 * (x / 2 ^ (k + 1)) := by
  have h1 : ¬ x / 2 ^ k % 2 = 1 := by simpa [bitT] using h
  rw [half]
  omega
theorem mono_div {x y : Int} (k : Nat) (h : x ≤ y) : x / 2 ^ k ≤ y / 2 ^ k := Int.ediv_le_ediv (Int.pow_pos (by decide)) h
theorem OkT.take {k : Nat} {ls : List Int} (h : OkT (k + 1) ls) : OkT k (ls.take (lead k ls)) := by
  obtain ⟨hp, c, hc⟩ := h
  obtain ⟨h1, h2, h3⟩ := lead_spec k ls
  refine ⟨hp.sublist (List.take_sublist _ _), 2 * c, fun x hx => ?_⟩
  obtain ⟨j, hj, rfl⟩ := List.getElem_of_mem hx
  rw [List.length_take] at hj
  rw [List.getElem_take]
  have hb := h2 j (by omega)
  rw [List.getD_eq_getElem?_getD, List.getElem?_eq_getElem (by omega), Option.getD_some] at hb
  rw [bitT_false hb, hc _ (List.getElem_mem _)]
theorem OkT.drop {k : Nat} {ls : List Int} (h : OkT (k + 1) ls) : OkT k (ls.drop (lead k ls)) := by
  obtain ⟨hp, c, hc⟩ := h
  obtain ⟨h1, h2, h3⟩ := lead_spec k ls
  refine ⟨hp.sublist (List.drop_sublist _ _), 2 * c + 1, fun x hx => ?_⟩
  obtain ⟨j, hj, rfl⟩ := List.getElem_of_mem hx
  rw [List.length_drop] at hj
  rw [List.getElem_drop]
  have hb := h3 (by omega)
  rw [List.getD_eq_getElem?_getD, List.getElem?_eq_getElem (by omega), Option.getD_some] at hb
  have h4 := bitT_true hb
  rw [hc _ (List.getElem_mem _)] at h4
  have h5 := hc (ls[lead k ls + j]'(by omega)) (List.getElem_mem _)
  have h6 : ls[lead k ls]'(by omega) ≤ ls[lead k ls + j]'(by omega) := by
    rcases Nat.eq_zero_or_pos j with rfl | hj0
    · exact Int.le_refl _
    · exact Int.le_of_lt (List.pairwise_iff_getElem.1 hp _ _ (by omega) (by omega) (by omega))
  have h7 := mono_div k h6
  rw [half] at h5
  omega
def U64s (ls : List Int) : Prop := ∀ x ∈ ls, 0 ≤ x ∧ x < 18446744073709551616
theorem gammaBits_le1 {x : Int} (h0 : 0 < x) (h1 : x < 18446744073709551616) : (gammaBits x).length ≤ 127 := by
  have hb := Lib.bitLen_le x.toNat 64 (Nat.le_refl _) (by omega)
  rw [gammaBits, if_neg (by omega), List.length_append, numBits_len, numBits_len]
  omega
theorem treeG_le : ∀ (k : Nat) (ls : List Int), ls.length ≤ 4096 → (treeG k ls).length ≤ 127 * (k * ls.length) := by
  intro k
  induction k with
  | zero => intro ls _; simp [treeG]
  | succ k ih =>
    intro ls hl
    rw [treeG]
    by_cases h : ls.length < 2
    · rw [if_pos h]; simp
    · rw [if_neg h]
      have hs := (lead_spec k ls).1
      have h1 := ih (ls.take (lead k ls)) (by rw [List.length_take]; omega)
      have h2 := ih (ls.drop (lead k ls)) (by rw [List.length_drop]; omega)
      have hg := gammaBits_le1 (x := (lead k ls : Int) + 1) (by omega) (by omega)
      rw [List.length_take, Nat.min_eq_left hs] at h1
      rw [List.length_drop] at h2
      rw [List.length_append, List.length_append]
      have e : (k + 1) * ls.length = k * lead k ls + k * (ls.length - lead k ls) + ls.length := by
        rw [Nat.add_mul, Nat.one_mul, ← Nat.mul_add, Nat.add_sub_cancel' hs]
      omega
def BuildPost (base : Nat) (w : World) (p : Nat) (M : List Bool) (e : Ending) (w' : World) : Prop := e = .returned (.tuple #[]) ∧ BO base w' p M ∧ Below base w w'
theorem cutL (A0 : Option Addr) (c0 m : Nat) (ls : List Int) (j : Nat) (hm : m = ls.length) (hj : j ≤ m) (hc : m ≤ c0) :
    ∀ W : World, (Instr.slice 33 (.slice A0 m c0) none (some (.int .i64 j)) none).run Try.prog W = .ok (.slice A0 j c0) W := by
  intro W
  obtain ⟨i0, hi, hi1, hi2, hi3⟩ := info_parts info23
  exact cut_to (P := Try.prog) 33 23 .i64 Try.underlying33 hi A0 m c0 j (by omega) (by omega) hc W
theorem cutR (A0 : Option Addr) (c0 m : Nat) (ls : List Int) (j : Nat) (hm : m = ls.length) (hj : j ≤ m) (hc : m ≤ c0) : ∃ A1 c1 q, q = m - j ∧
    (∀ W : World, (Instr.slice 33 (.slice A0 m c0) (some (.int .i64 j)) none none).run Try.prog W = .ok (.slice A1 q c1) W) ∧
    (∀ W : World, Kd.C (Kd.int .u64) W A0 m ls → Kd.C (Kd.int .u64) W A1 q (ls.drop j)) ∧ q ≤ c1 := by
  subst hm
  obtain ⟨i0, hi0, _, hsz, _⟩ := info_parts info23
  have hcut := cut_from (P := Try.prog) 33 23 .i64 Try.underlying33 hi0 1 hsz A0 ls.length c0 j (by omega) (by omega)
  refine ⟨(if c0 = j then A0 else A0.map (·.add (j * 1))), c0 - j, ls.length - j, rfl, hcut, fun W h => ?_, by omega⟩
  have := Kd.C_drop (m := j) (c := c0) h (by omega) hc
  rw [List.length_drop] at this
  exact this
set_option maxRecDepth 1000000 in
set_option maxHeartbeats 8000000 in
theorem trie_build {w0 : World} {p : Nat} : ∀ (k : Nat) (ls : List Int) (L : List Bool) (w : World) (A : Option Addr) (m c : Nat) (d : Int), k ≤ 64 → d = 64 - (k : Int) → m = ls.length → Kd.C (Kd.int .u64) w0 A m ls → m ≤ c → m ≤ 4096 →
    Below w0.heap.size w0 w → BO w0.heap.size w p L → L.length + 127 * (k * m) < 10000000000 → OkT k ls → U64s ls →
    Calls Try.prog 24 #[.pointer (some ⟨p, 0, none⟩), .slice A m c, .int .i64 d] w (BuildPost w0.heap.size w p (L ++ treeG k ls)) := by
  intro k
  induction k with
  | zero =>
    intro ls L w A m c d _ _ hm _ _ hm4 _ hO _ hok _
    have hsh := hok.zero
    have HE := Aside0.mk (show L ++ treeG 0 ls = L from List.append_nil _)
    have HO := Aside0.mk hO
    have h1 : decide ((m : Int) < 2) = true := decide_eq_true (by omega)
    have h1n : decide (m < 2) = true := decide_eq_true (by omega)
    clear hO hok hsh hm
    go_enter Try.func24, Try.ntmps24
    go_wp2
    refine bodyPost_ret (results_none rfl _ _ _) rfl ?_
    refine ⟨rfl, ?_, Below.refl _ _⟩
    rw [HE.out]
    exact HO.out
  | succ k ih =>
    intro ls L w A m c d hk hd hm hC hc hm4 hB hO hl hok hu
    by_cases hsh : ls.length < 2
    · have HE := Aside0.mk (show L ++ treeG (k + 1) ls = L by rw [treeG_short _ hsh, List.append_nil])
      have HO := Aside0.mk hO
      have h1 : decide ((m : Int) < 2) = true := decide_eq_true (by omega)
      have h1n : decide (m < 2) = true := decide_eq_true (by omega)
      clear hO hok hsh hm hC hB hu ih hl
      go_enter Try.func24, Try.ntmps24
      go_wp2
      refine bodyPost_ret (results_none rfl _ _ _) rfl ?_
      refine ⟨rfl, ?_, Below.refl _ _⟩
      rw [HE.out]
      exact HO.out
    · have h1 : decide ((m : Int) < 2) = false := decide_eq_false (by omega)
      have h1n : decide (m < 2) = false := decide_eq_false (by omega)
      obtain ⟨n, hn⟩ : ∃ n, n = lead k ls := ⟨_, rfl⟩
      have hsp := lead_spec k ls
      rw [← hn] at hsp
      have hnm : n ≤ m := by rw [hm]; exact hsp.1
      have HE := Aside0.mk (show L ++ treeG (k + 1) ls = L ++ gammaBits ((n : Int) + 1) ++ treeG k (ls.take n) ++ treeG k (ls.drop n) by rw [treeG, if_neg hsh, ← hn]; simp [List.append_assoc])
      have HSP := Aside0.mk hsp
      have HC := Aside0.mk hC
      have hct := cutL A c m ls n hm hnm hc
      obtain ⟨A1, c1, q, hq, hcr, hcc, hc1⟩ := cutR A c m ls n hm hnm hc
      have HCR := Aside0.mk (hcc w0 hC)
      have HCL := Aside0.mk (show Kd.C (Kd.int .u64) w0 A n (ls.take n) by
        have := Kd.C_take (k := Kd.int .u64) (m := n) (by rw [hm] at hC; exact hC) (by omega)
        rw [List.length_take, Nat.min_eq_left (by omega)] at this
        exact this)
      have hgl := gammaBits_le1 (x := (n : Int) + 1) (by omega) (by omega)
      have e1 : (k + 1) * m = k * n + k * (m - n) + m := by rw [Nat.add_mul, Nat.one_mul, ← Nat.mul_add, Nat.add_sub_cancel' hnm]
      have htl := treeG_le k (ls.take n) (by rw [List.length_take]; omega)
      rw [List.length_take, Nat.min_eq_left (by omega)] at htl
      have HI1 := Aside0.mk (fun (W : World) (hB : Below w0.heap.size w0 W) (hO : BO w0.heap.size W p (L ++ gammaBits ((n : Int) + 1))) => ih (ls.take n) (L ++ gammaBits ((n : Int) + 1)) W A n c (64 - (k : Int)) (by omega) rfl (by rw [List.length_take]; omega) HCL.out (by omega) (by omega) hB hO (by rw [List.length_append]; omega) (by rw [hn]; exact hok.take) (fun x hx => hu x (List.mem_of_mem_take hx)))
      have HI2 := Aside0.mk (fun (W : World) (hB : Below w0.heap.size w0 W) (hO : BO w0.heap.size W p (L ++ gammaBits ((n : Int) + 1) ++ treeG k (ls.take n))) => ih (ls.drop n) (L ++ gammaBits ((n : Int) + 1) ++ treeG k (ls.take n)) W A1 q c1 (64 - (k : Int)) (by omega) rfl (by rw [List.length_drop]; omega) HCR.out hc1 (by omega) hB hO (by rw [List.length_append, List.length_append, hq]; omega) (by rw [hn]; exact hok.drop) (fun x hx => hu x (List.mem_of_mem_drop hx)))
      have HLL := Aside0.mk (show L.length < 10000000000 by omega)
      have HB := Aside0.mk hB
      have HB2 := Aside0.mk (Below.refl w0.heap.size w)
      have HO := Aside0.mk hO
      have HU := Aside0.mk hu
      have HM := Aside0.mk hm
      have hd0 : d = 63 - (k : Int) := by omega
      have hd1 : (63 : Int) - (k : Int) + 1 = 64 - (k : Int) := by omega
      have hk63 : (k : Int) ≤ 63 := by omega
      have HK := Aside0.mk (show k ≤ 63 by omega)
      have hn4 : (n : Int) ≤ 4096 := by omega
      have hm4' : (m : Int) ≤ 4096 := by omega
      subst hd0
      clear ih hq hok hsh hm hC hO hu hB hsp hl hgl htl e1 hcc hn hk hd
      go_enter Try.func24, Try.ntmps24
      go_wp2
      go_loop [6] (fun v6 => ∃ (j : Nat), v6 = .int .i64 j ∧ j ≤ n) (fun v => n - (intOf v).toNat)
      case atStart => exact ⟨0, by first | rfl | go_num, Nat.zero_le _⟩
      case round =>
        obtain ⟨j, rfl, hj⟩ := hrel
        by_cases hjm : j < m
        · have hjz : (j : Int) < (m : Int) := by omega
          have hjd : decide ((j : Int) < (m : Int)) = true := decide_eq_true hjz
          obtain ⟨ad, e, hx⟩ := Kd.at_int (Kd.C_below HC.out HB.out) (j : Int) (Int.natCast_nonneg _) hjz
          cases e
          obtain ⟨x, hxe⟩ : ∃ x, x = ls.getD j 0 := ⟨_, rfl⟩
          replace hx : w.cell? (ad.add j) = some (.int .u64 x) := by rw [hxe]; exact hx
          have hxu : 0 ≤ x ∧ x < 18446744073709551616 := by
            have hjl : j < ls.length := by rw [← HM.out]; exact hjm
            rw [hxe, List.getD_eq_getElem?_getD, List.getElem?_eq_getElem hjl, Option.getD_some]
            exact HU.out _ (List.getElem_mem _)
          have HX0 := Aside0.mk hxu.1
          have HX1 := Aside0.mk hxu.2
          by_cases hjn : j < n
          · have HBT := Aside0.mk (show bitT x k = false by rw [hxe]; exact HSP.out.2.1 j hjn)
            have HJN := Aside0.mk hjn
            clear hxe hjm hjn hj hxu
            go_wp2_with (first | (go_at_call 21; refine (trie_bit _ HK.out HX0.out HX1.out).mono ?_; rw [HBT.out]; rintro e w' ⟨rfl, rfl⟩))
            go_round
            case rel => exact ⟨j + 1, by first | rfl | go_num, HJN.out⟩
            case measure => have := HJN.out; simp [intOf]; omega
          · obtain rfl : j = n := by omega
            have HBT := Aside0.mk (show bitT x k = true by rw [hxe]; exact HSP.out.2.2 (by rw [← HM.out]; exact hjm))
            clear hxe hjm hjn hj hxu
            go_wp2_with (first
              | (go_at_call 21; refine (trie_bit _ HK.out HX0.out HX1.out).mono ?_; rw [HBT.out]; rintro e w' ⟨rfl, rfl⟩)
              | (go_at_call 31; refine (gamma_Put _ HO.out HB.out.size HLL.out (by omega) (by omega)).mono ?_; rintro e w2 ⟨rfl, hO, hb, hkk⟩; have n0_ := Aside0.mk hO; have n1_ := Aside0.mk (HB.out.trans hb); have n2_ := Aside0.mk (HB2.out.trans hb); clear HO HB HB2; have HO := n0_; have HB := n1_; have HB2 := n2_; clear n0_ n1_ n2_ hO hb hkk)
              | (go_at_call 24; (try rw [hd1]); (first
  | ((with_reducible refine (HI2.out _ HB.out HO.out).mono ?_))
  | ((with_reducible refine (HI1.out _ HB.out HO.out).mono ?_))); rintro e w2 ⟨rfl, hO, hb⟩; have n0_ := Aside0.mk hO; have n1_ := Aside0.mk (HB.out.trans hb); have n2_ := Aside0.mk (HB2.out.trans hb); clear HO HB HB2; have HO := n0_; have HB := n1_; have HB2 := n2_; clear n0_ n1_ n2_ hO hb))
            go_end0
            refine ⟨rfl, ?_, HB2.out⟩
            rw [HE.out]
            exact HO.out
        · obtain rfl : j = m := by omega
          obtain rfl : j = n := by omega
          have hjd : decide ((j : Int) < (j : Int)) = false := decide_eq_false (by omega)
          have hjd2 : decide (j < j) = false := decide_eq_false (by omega)
          clear hjm hj
          go_wp2_with (first
            | (go_at_call 31; refine (gamma_Put _ HO.out HB.out.size HLL.out (by omega) (by omega)).mono ?_; rintro e w2 ⟨rfl, hO, hb, hkk⟩; have n0_ := Aside0.mk hO; have n1_ := Aside0.mk (HB.out.trans hb); have n2_ := Aside0.mk (HB2.out.trans hb); clear HO HB HB2; have HO := n0_; have HB := n1_; have HB2 := n2_; clear n0_ n1_ n2_ hO hb hkk)
            | (go_at_call 24; (try rw [hd1]); (first
  | ((with_reducible refine (HI2.out _ HB.out HO.out).mono ?_))
  | ((with_reducible refine (HI1.out _ HB.out HO.out).mono ?_))); rintro e w2 ⟨rfl, hO, hb⟩; have n0_ := Aside0.mk hO; have n1_ := Aside0.mk (HB.out.trans hb); have n2_ := Aside0.mk (HB2.out.trans hb); clear HO HB HB2; have HO := n0_; have HB := n1_; have HB2 := n2_; clear n0_ n1_ n2_ hO hb))
          go_end0
          refine ⟨rfl, ?_, HB2.out⟩
          rw [HE.out]
          exact HO.out
/-- trie.Build. -/
def buildT (ls : List Int) : Option (List Bool) := if ls.length ≤ 4096 ∧ ls.Pairwise (· < ·) then some (treeG 64 ls) else none
def BuildsPost (w : World) (o : Option (List Bool)) (e : Ending) (w' : World) : Prop :=
  Below w.heap.size w w' ∧ match o with
  | some L => ∃ p, e = .returned (.tuple #[.pointer (some ⟨p, 0, none⟩), .bool true]) ∧ BO w.heap.size w' p L
  | none => e = .returned (.tuple #[.pointer none, .bool false])
theorem pairwise_more {ls : List Int} {i : Nat} (h : (ls.take (i + 1)).Pairwise (· < ·)) (hi : i + 1 < ls.length) (hx : ls.getD i 0 < ls.getD (i + 1) 0) : (ls.take (i + 2)).Pairwise (· < ·) := by
  rw [List.take_succ_eq_append_getElem hi, List.pairwise_append]
  refine ⟨h, by simp, fun a ha b hb => ?_⟩
  simp only [List.mem_singleton] at hb
  subst hb
  rw [List.getD_eq_getElem?_getD, List.getD_eq_getElem?_getD, List.getElem?_eq_getElem (by omega), List.getElem?_eq_getElem hi, Option.getD_some, Option.getD_some] at hx
  obtain ⟨j, hj, rfl⟩ := List.getElem_of_mem ha
  rw [List.length_take] at hj
  rw [List.getElem_take]
  by_cases hji : j = i
  · subst hji; exact hx
  · have := List.pairwise_iff_getElem.1 h j i (by rw [List.length_take]; omega) (by rw [List.length_take]; omega) (by omega)
    rw [List.getElem_take, List.getElem_take] at this
    omega
theorem OkT.all {ls : List Int} (hp : ls.Pairwise (· < ·)) (hu : U64s ls) : OkT 64 ls := by
  refine ⟨hp, 0, fun x hx => ?_⟩
  have := hu x hx
  exact Int.ediv_eq_zero_of_lt this.1 (by have e : (2 : Int) ^ 64 = 18446744073709551616 := rfl; omega)
set_option maxRecDepth 1000000 in
set_option maxHeartbeats 8000000 in
theorem trie_Build {w : World} {A : Option Addr} {m c : Nat} {ls : List Int} (hm : m = ls.length) (hC : Kd.C (Kd.int .u64) w A m ls) (hc : m ≤ c) (hml : m < 1000000000) (hu : U64s ls) :
    Calls Try.prog 14 #[.slice A m c] w (BuildsPost w (buildT ls)) := by
  have hub := Try.underlying47
  have hmz : (m : Int) < 1000000000 := by omega
  by_cases hmost : 4096 < m
  · have e : buildT ls = none := if_neg (fun h => by omega)
    rw [e]
    have h1 : decide ((4096 : Int) < (m : Int)) = true := decide_eq_true (by omega)
    have h1n : decide (4096 < m) = true := decide_eq_true hmost
    clear hm hC hu hmost e hml
    go_enter Try.func14, Try.ntmps14
    go_wp2
    go_ret2
    exact ⟨Below.refl _ _, rfl⟩
  · have h1 : decide ((4096 : Int) < (m : Int)) = false := decide_eq_false (by omega)
    have h1n : decide (4096 < m) = false := decide_eq_false hmost
    obtain ⟨R, hR⟩ : ∃ R, R = buildT ls := ⟨_, rfl⟩
    rw [← hR]
    have HR := Aside0.mk hR
    have HC := Aside0.mk hC
    have HM := Aside0.mk hm
    have HU := Aside0.mk hu
    have HCC := Aside0.mk hc
    have HM4 := Aside0.mk (show m ≤ 4096 by omega)
    have HPW0 := Aside0.mk (show (ls.take 1).Pairwise (· < ·) by cases ls <;> simp)
    clear hR hC hm hu hc hmost hml
    go_enter Try.func14, Try.ntmps14
    go_wp2
    go_loopw [4] (fun v4 wr => ∃ (i : Nat), v4 = .int .i64 ((i : Int) + 1) ∧ i ≤ m ∧ Aside0 ((ls.take (i + 1)).Pairwise (· < ·)) ∧ Aside0 (Drawn0 w wr)) (fun v _ => m + 1 - (intOf v).toNat)
    case atStart => exact ⟨0, by first | rfl | go_num, Nat.zero_le _, HPW0, ⟨Drawn0.refl _⟩⟩
    case round =>
      clear HPW0
      obtain ⟨i, rfl, hi, HPW, HD⟩ := hrel
      obtain ⟨nd, rfl⟩ := HD.out.out
      clear HD
      have hi4 : (i : Int) ≤ 4096 := by have := HM4.out; omega
      by_cases hlt : i + 1 < m
      · have hlz : (i : Int) + 1 < (m : Int) := by omega
        have hld := decide_eq_true hlz
        obtain ⟨ad, e, hx⟩ := Kd.at_int HC.out (i : Int) (Int.natCast_nonneg _) (by omega)
        cases e
        obtain ⟨ad2, e2, hy⟩ := Kd.at_int HC.out ((i : Int) + 1) (by omega) hlz
        cases e2
        obtain ⟨x, hxe⟩ : ∃ x, x = ls.getD i 0 := ⟨_, rfl⟩
        obtain ⟨y, hye⟩ : ∃ y, y = ls.getD (i + 1) 0 := ⟨_, rfl⟩
        have hti : ((i : Int) + 1).toNat = i + 1 := by omega
        replace hx : w.cell? (ad.add i) = some (.int .u64 x) := by rw [hxe]; exact hx
        replace hy : w.cell? (ad.add (i + 1)) = some (.int .u64 y) := by rw [hti] at hy; rw [hye, hy]; unfold rd; rw [hti]
        have hil : i + 1 < ls.length := by rw [← HM.out]; exact hlt
        obtain ⟨j, hj⟩ : ∃ j : Nat, j = i + 1 := ⟨_, rfl⟩
        have hjz : (i : Int) + 1 = (j : Int) := by omega
        have hjm : (j : Int) < (m : Int) := by omega
        have hj1 : (j : Int) - 1 = (i : Int) := by omega
        have hw1 : IntKind.i64.wrap ((j : Int) - 1) = (i : Int) := by rw [hj1]; exact (i64_w _).trans (w64 (by omega) (by omega))
        have him : (i : Int) < (m : Int) := by omega
        rw [hjz] at hld ⊢
        rw [← hj] at hy
        have HJ := Aside0.mk hjz
        clear hti hlz hj hjz hj1
        by_cases hge : y ≤ x
        · have hgd := decide_eq_true hge
          have HE := Aside0.mk (show R = none by
            rw [HR.out]
            refine if_neg (fun h => ?_)
            have := List.pairwise_iff_getElem.1 h.2 i (i + 1) (by omega) hil (by omega)
            rw [List.getD_eq_getElem?_getD, List.getElem?_eq_getElem (by omega), Option.getD_some] at hxe
            rw [List.getD_eq_getElem?_getD, List.getElem?_eq_getElem hil, Option.getD_some] at hye
            omega)
          clear hxe hye hge hil hlt hi
          go_wp2
          go_quiet (fail)
          go_wp2
          go_ret2
          rw [HE.out]
          exact ⟨pw_below_drewN (pw_below_drewN (Below.refl _ _) _) _, rfl⟩
        · have hgd := decide_eq_false hge
          have HPW2 := Aside0.mk (pairwise_more HPW.out hil (by rw [← hxe, ← hye]; omega))
          have HLT := Aside0.mk hlt
          clear hxe hye hge hil hlt hi HPW
          go_wp2
          go_quiet (fail)
          go_wp2
          clear hw1
          have hij := HJ.out
          refine ⟨⟨i + 1, by first | rfl | go_num, by have := HLT.out; omega, HPW2, ⟨⟨_, rfl⟩⟩⟩, ?_⟩
          have := HLT.out
          simp [intOf]
          omega
      · have hld := decide_eq_false (show ¬ (i : Int) + 1 < (m : Int) by omega)
        have HPW2 := Aside0.mk (show ls.Pairwise (· < ·) by have := HPW.out; rw [List.take_of_length_le (by rw [← HM.out]; omega)] at this; exact this)
        have HE := Aside0.mk (show R = some (treeG 64 ls) by rw [HR.out]; exact if_pos ⟨by rw [← HM.out]; exact HM4.out, HPW2.out⟩)
        have HB := Aside0.mk (pw_below_drewN (Below.refl w.heap.size w) nd)
        clear hlt hi
        go_wp2_with (first
          | ((with_reducible refine gate_dst (N := 25) rfl ?_); refine box_event ?hg (N := 25) ?hd (cs := #[.slice none 0 0, .int .i64 0]) (t := 47) ?hr ?_; (case hd => rfl); (case hg => rfl); (case hr => first | (go_simp; done) | (go_simp; rfl)); intro p hg w5 hbox hb; have n0_ := Aside0.mk (BO.new (base := w.heap.size) hbox (by rw [hg]; exact HB.out.size)); have n1_ := Aside0.mk (below_step HB.out hb); clear HB; have HO := n0_; have HB := n1_; clear n0_ n1_; clear hb hbox hg)
          | ((with_reducible refine gate_dst (N := 26) rfl ?_); refine box_event ?hg (N := 26) ?hd (cs := #[.slice none 0 0, .int .i64 0]) (t := 47) ?hr ?_; (case hd => rfl); (case hg => rfl); (case hr => first | (go_simp; done) | (go_simp; rfl)); intro p hg w5 hbox hb; have n0_ := Aside0.mk (BO.new (base := w.heap.size) hbox (by rw [hg]; exact HB.out.size)); have n1_ := Aside0.mk (below_step HB.out hb); clear HB; have HO := n0_; have HB := n1_; clear n0_ n1_; clear hb hbox hg)
          | (go_at_call 24; refine (trie_build 64 ls [] _ A m c 0 (by omega) rfl HM.out HC.out HCC.out HM4.out HB.out HO.out (by have := HM4.out; rw [List.length_nil]; omega) (OkT.all HPW2.out HU.out) HU.out).mono ?_; rintro e w2 ⟨rfl, hO, hb⟩; rw [List.nil_append] at hO; have n0_ := Aside0.mk hO; have n1_ := Aside0.mk (HB.out.trans hb); clear HO HB; have HO := n0_; have HB := n1_; clear n0_ n1_ hO hb))
        go_ret2
        rw [HE.out]
        exact ⟨HB.out, _, rfl, HO.out⟩
end Go.Proofs.Ytobdfehpbgcloaa.GL

/- loesslaw21.begun by hand. -/
namespace Go.Proofs.Ytobdfehpbgcloaa.GL
open Go.RowKit Go.Proofs.YtobdfehpbgcloaaW.PrintWords Go.Proofs.YtobdfehpbgcloaaW.PrintLast Go.Proofs.YtobdfehpbgcloaaW.PrintMore Go.Proofs.Ytobdfehpbgcloaa.Q Go.Proofs.Ytobdfehpbgcloaa.XTri Go.Proofs.Ytobdfehpbgcloaa.G
set_option linter.unusedVariables false
set_option linter.unusedSimpArgs false
def T3 : List Bool := treeG 64 [1, 2, 9223372036854775808]
set_option maxRecDepth 100000 in
theorem T3_build : buildT [1, 2, 9223372036854775808] = some T3 := if_pos (by decide)
theorem T3_none : buildT [2, 1] = none := if_neg (by decide)
theorem T3_len : T3.length < 100000000000 := by decide +kernel
theorem T3_r2 : rankI T3 2 3 = some 1 := by decide +kernel
theorem T3_r3 : rankI T3 9223372036854775808 3 = some 2 := by decide +kernel
theorem T3_r5 : rankI T3 5 0 = none := by decide +kernel
theorem T3_c3 : checkT T3 3 = true := by decide +kernel
theorem T3_c1 : checkT T3 1 = false := by decide +kernel
set_option maxRecDepth 1000000 in
set_option maxHeartbeats 8000000 in
theorem law21_begun (w : World) : Calls Try.prog 8 #[] w fun e w' => e = .returned (.bool true) ∧ Below w.heap.size w w' := by
  have HB := Aside0.mk (Below.refl w.heap.size w)
  have h3 : 3 = [(1 : Int), 2, 9223372036854775808].length := rfl
  have h2 : 2 = [(2 : Int), 1].length := rfl
  have HH3 := Aside0.mk h3
  have HH2 := Aside0.mk h2
  clear h3 h2
  have HU1 := Aside0.mk (show U64s [1, 2, 9223372036854775808] by intro x hx; simp at hx; omega)
  have HU2 := Aside0.mk (show U64s [2, 1] by intro x hx; simp at hx; omega)
  go_enter Try.func8, Try.ntmps8
  go_wp2_with (first
    | ((with_reducible refine gate_dst (N := 12) rfl ?_); refine Kd.R_lit (Kd.int .u64) (w0 := w) w.heap.size 23 rfl (N := 12) rfl (xs := [(1 : Int), 2, 9223372036854775808]) (inner := [.int .u64 1, .int .u64 2, .int .u64 9223372036854775808]) (ok := fun _ => True) (okp := fun _ => True) ?aR (Kd.reps_scalar (enc := Value.int .u64) [(1 : Int), 2, 9223372036854775808]) (fun _ h => h) trivial HB.out (below_size HB.out) (by decide) ?_; (case aR => first | (go_simp; done) | (go_simp; rfl)); intro v1 w1 ho hb hg hat; obtain ⟨A1, c1, rfl, _, hC1⟩ := Kd.R_reads ho; have HC1 : Aside0 (Kd.C (Kd.int .u64) w1 A1 3 [1, 2, 9223372036854775808]) := ⟨hC1⟩; have HL1 : Aside0 (3 ≤ c1) := ⟨(Kd.R_reads' ho).2.1⟩; have n1_ := Aside0.mk hb; clear HB ho hb hg hat hC1; have HB := n1_; clear n1_)
    | ((with_reducible refine gate_dst (N := 17) rfl ?_); refine Kd.R_lit (Kd.int .u64) (w0 := w) w.heap.size 23 rfl (N := 17) rfl (xs := [(2 : Int), 1]) (inner := [.int .u64 2, .int .u64 1]) (ok := fun _ => True) (okp := fun _ => True) ?aR (Kd.reps_scalar (enc := Value.int .u64) [(2 : Int), 1]) (fun _ h => h) trivial HB.out (below_size HB.out) (by decide) ?_; (case aR => first | (go_simp; done) | (go_simp; rfl)); intro v2 w2 ho hb0 hg hat; obtain ⟨A2, c2, rfl, _, hC2⟩ := Kd.R_reads ho; have HC2 : Aside0 (Kd.C (Kd.int .u64) w2 A2 2 [2, 1]) := ⟨hC2⟩; have HL2 : Aside0 (2 ≤ c2) := ⟨(Kd.R_reads' ho).2.1⟩; have hb := below_of_grown_none hg; have m1_ := Aside0.mk (HBP.out.below hb); have n1_ := Aside0.mk (below_step HB.out hb); clear HB HBP ho hb hb0 hg hat hC2; have HB := n1_; have HBP := m1_; clear n1_ m1_)
    | (go_at_call 14; (first
        | ((with_reducible refine (trie_Build (ls := [1, 2, 9223372036854775808]) HH3.out HC1.out HL1.out (by decide) HU1.out).mono ?_); rw [T3_build]; rintro e w3 ⟨hb, p, rfl, hO⟩; have HBP := Aside0.mk hO.toP; have n1_ := Aside0.mk (below_step HB.out hb); clear HB hO hb; have HB := n1_; clear n1_)
        | ((with_reducible refine (trie_Build (ls := [2, 1]) HH2.out HC2.out HL2.out (by decide) HU2.out).mono ?_); rw [T3_none]; rintro e w4 ⟨hb, rfl⟩; have m1_ := Aside0.mk (HBP.out.below hb); have n1_ := Aside0.mk (below_step HB.out hb); clear HB HBP hb; have HB := n1_; have HBP := m1_; clear n1_ m1_)))
    | (go_at_call 10; refine (trie_Rank _ HBP.out T3_len (by decide) (by decide)).mono ?_; (first | rw [T3_r2] | rw [T3_r3] | rw [T3_r5]); rintro e w' ⟨rfl, rfl⟩; simp only [skipR])
    | (go_at_call 13; refine (trie_Check _ HBP.out T3_len).mono ?_; (first | rw [T3_c3] | rw [T3_c1]); rintro e w' ⟨rfl, rfl⟩))
  go_ret
  exact ⟨rfl, HB.out⟩
end Go.Proofs.Ytobdfehpbgcloaa.GL

/- loesslaw21.Sorted by hand: rising numbers, each once. -/
namespace Go.Proofs.Ytobdfehpbgcloaa.GL
open Go.RowKit Go.Proofs.YtobdfehpbgcloaaW.PrintWords Go.Proofs.YtobdfehpbgcloaaW.PrintLast Go.Proofs.YtobdfehpbgcloaaW.PrintMore Go.Proofs.Ytobdfehpbgcloaa.Q Go.Proofs.Ytobdfehpbgcloaa.XTri Go.Proofs.Ytobdfehpbgcloaa.G
set_option linter.unusedVariables false
set_option linter.unusedSimpArgs false
def SortP (S : List Int) : Prop := S.Pairwise (· < ·) ∧ U64s S
theorem xor_rng (a b : Int) : 0 ≤ Go.bits .xor .u64 a b ∧ Go.bits .xor .u64 a b < 18446744073709551616 := by
  have e : Go.bits .xor .u64 a b = IntKind.u64.wrap ((BitVec.ofInt 64 a ^^^ BitVec.ofInt 64 b).toNat : Int) := rfl
  rw [e, u64_mod]
  omega
theorem copy_row {α : Type} (cur T D : List α) (a n : Nat) (hT : cur.take (n + 1) = T) (hTn : T.length = n + 1) (hD : D.length = n - a) (ha : a ≤ n) : (splice cur (a + 1) D).take (n + 1) = T.take (a + 1) ++ D := by
  have h1 : cur.take (a + 1) = T.take (a + 1) := by rw [← hT, List.take_take, Nat.min_eq_left (by omega)]
  have hl : (T.take (a + 1)).length = a + 1 := by rw [List.length_take]; omega
  unfold splice
  rw [h1, ← List.append_assoc]
  exact List.take_append_of_le_length (by rw [List.length_append]; omega) |>.trans (List.take_of_length_le (by rw [List.length_append]; omega))
theorem ins_set (S : List Int) (a : Nat) (x : Int) (ha : a ≤ S.length) : (((S ++ [0]).take (a + 1)) ++ S.drop a).set a x = S.take a ++ x :: S.drop a := by
  have hl : a < (S ++ [0]).length := by rw [List.length_append, List.length_singleton]; omega
  rw [List.take_succ_eq_append_getElem hl, List.take_append_of_le_length ha, List.append_assoc, List.singleton_append]
  rw [List.set_append_right _ _ (by rw [List.length_take]; omega), List.length_take, Nat.min_eq_left ha, Nat.sub_self, List.set_cons_zero]
theorem ins_len (S : List Int) (a : Nat) (x : Int) (ha : a ≤ S.length) : (S.take a ++ x :: S.drop a).length = S.length + 1 := by
  rw [List.length_append, List.length_take, List.length_cons, List.length_drop]
  omega
theorem ins_ok {S : List Int} {a : Nat} {x : Int} (h : SortP S) (ha : a ≤ S.length) (hx : 0 ≤ x ∧ x < 18446744073709551616) (hlo : ∀ y ∈ S.take a, y < x) (hhi : ∀ y ∈ S.drop a, x < y) : SortP (S.take a ++ x :: S.drop a) := by
  obtain ⟨hp, hu⟩ := h
  constructor
  · rw [List.pairwise_append]
    refine ⟨hp.sublist (List.take_sublist _ _), List.pairwise_cons.2 ⟨hhi, hp.sublist (List.drop_sublist _ _)⟩, fun y hy z hz => ?_⟩
    rcases List.mem_cons.1 hz with rfl | hz
    · exact hlo y hy
    · exact Int.lt_trans (hlo y hy) (hhi z hz)
  · intro y hy
    rcases List.mem_append.1 hy with hy | hy
    · exact hu y (List.mem_of_mem_take hy)
    · rcases List.mem_cons.1 hy with rfl | hy
      · exact hx
      · exact hu y (List.mem_of_mem_drop hy)
theorem lo_of {S : List Int} {b : Nat} {x : Int} (h : SortP S) (hb : b < S.length) (hx : S.getD b 0 < x) : ∀ y ∈ S.take (b + 1), y < x := by
  intro y hy
  obtain ⟨j, hj, rfl⟩ := List.getElem_of_mem hy
  rw [List.length_take] at hj
  rw [List.getElem_take]
  rw [List.getD_eq_getElem?_getD, List.getElem?_eq_getElem hb, Option.getD_some] at hx
  rcases Nat.eq_or_lt_of_le (show j ≤ b by omega) with he | hlt
  · subst he; exact hx
  · exact Int.lt_trans (List.pairwise_iff_getElem.1 h.1 j b (by omega) hb hlt) hx
theorem hi_step {S : List Int} {b : Nat} {x : Int} (hb : b < S.length) (hx : x < S.getD b 0) (h : ∀ y ∈ S.drop (b + 1), x < y) : ∀ y ∈ S.drop b, x < y := by
  intro y hy
  rw [List.drop_eq_getElem_cons hb] at hy
  rcases List.mem_cons.1 hy with rfl | hy
  · rwa [List.getD_eq_getElem?_getD, List.getElem?_eq_getElem hb, Option.getD_some] at hx
  · exact h y hy
/-- A cut of a row that begins its block. -/
theorem cutB (g cap m j : Nat) (hj : j ≤ m) (hc : m ≤ cap) : ∃ dp c1,
    (∀ W : World, (Instr.slice 33 (.slice (some ⟨g, 0, none⟩) m cap) (some (.int .i64 j)) none none).run Try.prog W = .ok (.slice dp (m - j) c1) W) ∧ (j < cap → dp = some ⟨g, j, none⟩) := by
  obtain ⟨i0, hi0, _, hsz, _⟩ := info_parts info23
  have hcut := cut_from (P := Try.prog) 33 23 .i64 Try.underlying33 hi0 1 hsz (some ⟨g, 0, none⟩) m cap j (by omega) (by omega)
  refine ⟨(if cap = j then some ⟨g, 0, none⟩ else (some ⟨g, 0, none⟩ : Option Addr).map (·.add (j * 1))), cap - j, hcut, fun h => ?_⟩
  rw [if_neg (by omega), Nat.mul_one]
  simp only [Option.map_some, add_plain]
def SortedPost (w : World) (e : Ending) (w' : World) : Prop := ∃ v S, e = .returned v ∧ Kd.R (Kd.int .u64) 23 w' w.heap.size (fun _ => True) v S ∧ SortP S ∧ S.length ≤ 40 ∧ Below w.heap.size w w'
set_option maxRecDepth 1000000 in
set_option maxHeartbeats 8000000 in
theorem law_Sorted {w : World} {A0 : Option Addr} {c0 len0 : Nat} {l : List Int} (near : Bool) (hlen : len0 = l.length) (hC0 : Kd.C (Kd.int .u64) w A0 len0 l) (hcm : len0 < 100000000000000) (hU0 : U64s l) :
    Calls Try.prog 16 #[.slice A0 len0 c0, .bool near] w (SortedPost w) := by
  have HC := Aside0.mk hC0
  have HU := Aside0.mk hU0
  have HLEN := Aside0.mk hlen
  have HB := Aside0.mk (Below.refl w.heap.size w)
  clear hC0 hU0 hlen hcm
  go_enter Try.func16, Try.ntmps16
  go_wp2
  go_loopw [5, 6, 7, 8] (fun v5 v6 v7 v8 wr => ∃ (i : Nat) (S : List Int), v6 = .int .i64 i ∧ i ≤ 40 ∧ i ≤ len0 ∧ S.length ≤ i ∧ Aside0 (SortP S) ∧ Aside0 (Kd.R (Kd.int .u64) 23 wr w.heap.size (fun _ => True) v5 S) ∧ Aside0 (Below w.heap.size w wr)) (fun _ v _ _ _ => 40 - (intOf v).toNat)
  case atStart => exact ⟨0, [], by first | rfl | go_num, by omega, by omega, Nat.zero_le _, ⟨List.Pairwise.nil, fun x hx => by cases hx⟩, ⟨Kd.R_nil _ _ _ _ _⟩, HB⟩
  case round =>
    clear HB
    obtain ⟨i, S, rfl, hi40, hil, hSi, HS, HO, HB⟩ := hrel
    by_cases hlt : i < len0 ∧ i < 40
    · have h1 : decide ((i : Int) < (len0 : Int)) = true := decide_eq_true (by omega)
      have h1n : decide (i < len0) = true := decide_eq_true hlt.1
      have h2 : decide ((i : Int) < 40) = true := decide_eq_true (by omega)
      have hi40z : (i : Int) < 40 := by omega
      have hilz : (i : Int) < (len0 : Int) := by omega
      obtain ⟨ad, e, hx⟩ := Kd.at_int (Kd.C_below HC.out HB.out) (i : Int) (Int.natCast_nonneg _) (by omega)
      cases e
      obtain ⟨x, hxe⟩ : ∃ x, x = l.getD i 0 := ⟨_, rfl⟩
      replace hx : wr.cell? (ad.add i) = some (.int .u64 x) := by rw [hxe]; exact hx
      have HX := Aside0.mk (show 0 ≤ x ∧ x < 18446744073709551616 by
        have hil : i < l.length := by rw [← HLEN.out]; exact hlt.1
        rw [hxe, List.getD_eq_getElem?_getD, List.getElem?_eq_getElem hil, Option.getD_some]
        exact HU.out _ (List.getElem_mem _))
      obtain ⟨A, c, hv, hnc, hC⟩ := Kd.R_reads HO.out
      subst hv
      obtain ⟨n, hn⟩ : ∃ n, n = S.length := ⟨_, rfl⟩
      rw [← hn] at hSi hnc hC HO ⊢
      have HN := Aside0.mk hn
      have HN40 := Aside0.mk (show n < 40 by omega)
      have HI := Aside0.mk hSi
      have HNC := Aside0.mk hnc
      have HCS := Aside0.mk hC
      have hnz : (n : Int) < 40 := by omega
      have HLT := Aside0.mk hlt
      clear hxe hlt hi40 hil hSi hnc hC hn
      have hcase : near = false ∨ (near = true ∧ n = 0) ∨ (near = true ∧ 0 < n) := by
        cases near
        · exact .inl rfl
        · rcases Nat.eq_zero_or_pos n with h | h
          · exact .inr (.inl ⟨rfl, h⟩)
          · exact .inr (.inr ⟨rfl, h⟩)
      rcases hcase with rfl | ⟨rfl, hn0⟩ | ⟨rfl, hn0⟩
      · obtain ⟨X, hX⟩ : ∃ X, X = x := ⟨_, rfl⟩
        subst hX
        go_wp2
        go_loop [8] (fun v8 => ∃ (a : Nat), v8 = .int .i64 a ∧ a ≤ n ∧ Aside0 (∀ y ∈ S.drop a, X < y)) (fun v => (intOf v).toNat)
        case atStart => exact ⟨n, by first | rfl | go_num, Nat.le_refl _, ⟨by intro y hy; rw [List.drop_of_length_le (by rw [← HN.out]; exact Nat.le_refl _)] at hy; cases hy⟩⟩
        case round =>
          obtain ⟨a, rfl, ha, HHI⟩ := hrel
          have HAN := Aside0.mk ha
          rcases Nat.eq_zero_or_pos a with haa | hpos
          · have HLO := Aside0.mk (show ∀ y ∈ S.take a, y < X by intro y hy; rw [haa] at hy; cases hy)
            have ha0 : decide ((0 : Int) < (a : Int)) = false := decide_eq_false (by omega)
            have ha0n : decide (0 < a) = false := decide_eq_false (by omega)
            have haz : (a : Int) < 40 := by omega
            clear haa ha
            obtain ⟨n1, hn1⟩ : ∃ n1, n1 = n + 1 := ⟨_, rfl⟩
            have HN1 := Aside0.mk hn1
            have HT1 := Aside0.mk (show (S ++ [0]).length = n1 by rw [List.length_append, List.length_singleton, ← HN.out, hn1])
            have HCAP := Aside0.mk (show (S.length + 1) * 8 ≤ 140737488355328 by have := HN.out; have := HN40.out; omega)
            clear hn1
            have HCUR := Aside0.mk HO.out
            go_wp2_with (first
              | ((with_reducible refine gate_builtin (b := .append) (xs := #[.tmp 61, .tmp 62]) rfl ?_); at_builtin; refine Kd.R_append (Kd.int .u64) (w0 := w) w.heap.size rfl (.tmp 61) (.tmp 62) 33 23 (.int .u64 0) 8 rfl Try.underlying33 (by kernel_rfl) rfl (by decide) (by omega) _ S 0 [.int .u64 0] (fun _ => True) (fun _ => False) rfl rfl ?aP (fun _ hk => hk.elim) ?aF ?aO ?aB ?aS ?aL ?_; (case aP => exact rfl); (case aF => exact (fun _ _ => trivial)); (case aO => exact HO.out); (case aB => exact HB.out); (case aS => exact below_size HB.out); (case aL => exact HCAP.out); intro v1 w1 ho hb hg hat; obtain ⟨g, cap, hv1, hgb, hgl, hcl⟩ := Kd.R_form ho (by rw [HT1.out, HN1.out]; omega); rw [HT1.out] at hv1; subst hv1; have n1_ := Aside0.mk ho; have n2_ := Aside0.mk hb; have HGB := Aside0.mk hgb; clear HO HB; have HO := n1_; have HB := n2_; clear n1_ n2_ ho hb hg hat hgb hgl hcl))
            have own := Kd.own_of_R HO.out
            obtain ⟨_, ⟨hbad, _⟩ | ⟨g', cap', cur, hv, hgb, hh, hnc, hcm, hcs, ht⟩⟩ := own
            · cases hbad
            · injection hv with hv1 hv2 hv3
              injection hv1 with hv1
              injection hv1 with hv1
              subst hv1
              subst hv3
              rw [HT1.out, Nat.mul_one] at ht
              rw [HT1.out] at hnc
              clear hv2
              obtain ⟨cl, hcl⟩ : ∃ cl, cl = cur.toList := ⟨_, rfl⟩
              have hcl2 : cur = cl.toArray := by rw [hcl]
              subst hcl2
              rw [← hcl] at ht
              simp only [List.size_toArray] at hcs
              have han : a ≤ n := HAN.out
              obtain ⟨dp, c1, hr1, hd1⟩ := cutB g cap n1 (a + 1) (by have := HN1.out; omega) hnc
              obtain ⟨sp, c2, hr2, hd2⟩ := cutB g cap n1 a (by have := HN1.out; omega) hnc
              obtain ⟨m1, hm1⟩ : ∃ m, m = n1 - (a + 1) := ⟨_, rfl⟩
              obtain ⟨m2, hm2⟩ : ∃ m, m = n1 - a := ⟨_, rfl⟩
              obtain ⟨a1, ha1'⟩ : ∃ a1, a1 = a + 1 := ⟨_, rfl⟩
              rw [← hm1, ← ha1'] at hr1
              rw [← hm2] at hr2
              have hwr : IntKind.i64.wrap ((a : Int) + 1) = (a1 : Int) := by rw [ha1']; exact (i64_w _).trans ((w64 (by omega) (by omega)).trans rfl)
              have ha1z : (a1 : Int) ≤ 41 := by omega
              obtain ⟨cs, hcsd⟩ : ∃ cs : List Value, cs = (S.drop a).map (Value.int .u64) := ⟨_, rfl⟩
              have hcsl : cs.length = n - a := by rw [hcsd, List.length_map, List.length_drop, ← HN.out]
              have HCN := Aside0.mk (show cs.length = Nat.min m2 m1 by rw [hcsl, hm1, hm2]; have := HN1.out; show _ = min _ _; omega)
              have HFIT := Aside0.mk (show a1 + cs.length ≤ cl.length by have := HN1.out; omega)
              have HONE := Aside0.mk (show ∀ v ∈ cs, v.oneCell' = true by intro v hv; rw [hcsd] at hv; obtain ⟨y, _, rfl⟩ := List.mem_map.1 hv; rfl)
              have HH := Aside0.mk (show w1.drew.heap[g]? = some (.cells cl.toArray 23 (0, 0)) from hh)
              have HPOS := Aside0.mk (show 0 < cs.length → dp = some ⟨g, a1, none⟩ ∧ ∃ ad, sp = some ad ∧ ∀ j v, cs[j]? = some v → w1.drew.cell? (ad.add j) = some v by
                intro hp
                rw [hcsl] at hp
                refine ⟨by rw [ha1']; exact hd1 (by have := HN1.out; omega), ⟨g, a, none⟩, hd2 (by have := HN1.out; omega), fun j v hj => ?_⟩
                have hjl := (List.getElem?_eq_some_iff.1 hj).1
                rw [hcsl] at hjl
                have hcell := (Kd.R_celln 0 HO.out ((a + j : Nat) : Int) (by omega) (by have := HN1.out; omega)).1
                rw [Int.toNat_natCast] at hcell
                rw [Addr.add_lit]
                refine (show w1.cell? _ = _ from hcell).trans ?_
                rw [hcsd, List.getElem?_map, List.getElem?_drop, List.getElem?_eq_getElem (by rw [← HN.out]; omega)] at hj
                rw [← hj]
                unfold rdOf
                rw [Int.toNat_natCast, List.getD_eq_getElem?_getD, List.getElem?_append_left (by rw [← HN.out]; omega), List.getElem?_eq_getElem (by rw [← HN.out]; omega)]
                rfl)
              have HBD := Aside0.mk (show Below w.heap.size w w1.drew from HB.out.drew)
              have HROW := Aside0.mk (show (splice cl (a + 1) cs).take n1 = ((S ++ [0]).take (a + 1) ++ S.drop a).map (Value.int .u64) by
                have h1 := copy_row cl ((S ++ [0]).map (Value.int .u64)) cs a n (by rw [← HN1.out]; exact ht) (by rw [List.length_map, HT1.out, HN1.out]) hcsl han
                rw [← HN1.out] at h1
                rw [h1, hcsd, ← List.map_take, ← List.map_append])
              have HSIZE := Aside0.mk (show (splice cl (a + 1) cs).length = cap by rw [length_splice _ _ _ (by rw [← ha1']; exact HFIT.out)]; omega)
              have HNCC := Aside0.mk hnc
              have HCM := Aside0.mk hcm
              have HA1 := Aside0.mk ha1'
              have HMK := Aside0.mk (fun (W : World) (h : W.heap[g]? = some (.cells (splice cl a1 cs).toArray 23 (0, 0))) => (show Kd.R (Kd.int .u64) 23 W w.heap.size (fun _ => True) (.slice (some ⟨g, 0, none⟩) n1 cap) ((S ++ [0]).take (a + 1) ++ S.drop a) by
                have hl : ((S ++ [0]).take (a + 1) ++ S.drop a).length = n1 := by
                  rw [List.length_append, List.length_take, HT1.out, List.length_drop, ← HN.out]
                  have := HN1.out
                  have := HAN.out
                  omega
                have ho : W.ownsRow w.heap.size 23 1 (.slice (some ⟨g, 0, none⟩) n1 cap) ((S ++ [0]).take (a + 1) ++ S.drop a).length (encs (Value.int .u64) ((S ++ [0]).take (a + 1) ++ S.drop a)) := by
                  rw [hl]
                  refine ⟨by rw [encs_length, hl, Nat.mul_one], .inr ⟨g, cap, (splice cl a1 cs).toArray, rfl, HGB.out, h, HNCC.out, HCM.out, by simp only [List.size_toArray]; rw [HA1.out, HSIZE.out, Nat.mul_one], ?_⟩⟩
                  rw [Nat.mul_one, HA1.out]
                  exact HROW.out
                have hr := Kd.R_of_own (h1 := fun _ => rfl) (ok := fun _ => True) ho (fun _ _ => trivial)
                have hl2 := hl
                exact hr))
              have hazn : (a : Int) < (n1 : Int) := by have := HN1.out; omega
              have hazn2 : a < n1 := by omega
              have HAZ := Aside0.mk hazn
              clear hh hnc hcm hcs ht hcl hd1 hd2 hm1 hm2 ha1' hcsd hcsl han hgb
              go_region_law (refine step_copy_splice rfl (.tmp 67) (.tmp 70) 33 33 rfl 23 Try.underlying33 (by kernel_rfl) dp sp m1 c1 m2 c2 (by simp [Act.eval, Act.put]) (by simp [Act.eval, Act.put]) g a1 cl 23 HH.out cs HCN.out HPOS.out HFIT.out HONE.out w.heap.size w HBD.out HGB.out ?_; intro w4 hg4 hb4)
              all_goals
                have HO4 := Aside0.mk (HMK.out w4 hg4.out)
                have HB4 := Aside0.mk hb4
                obtain ⟨hx4, hf4⟩ := Kd.R_celln 0 HO4.out (a : Int) (Int.natCast_nonneg _) HAZ.out
                rw [Int.toNat_natCast] at hx4 hf4
                obtain ⟨z4, hz4⟩ : ∃ z, z = rdOf (0 : Int) ((S ++ [0]).take (a + 1) ++ S.drop a) (a : Int) := ⟨_, rfl⟩
                rw [← hz4] at hx4
                have HP := (Kd.R_putg HO4.out (a : Int) X).1
                rw [Int.toNat_natCast, ins_set S a X (by rw [← HN.out]; exact HAN.out)] at HP
                have HPP := Aside0.mk HP
                clear hz4 HP hg4 hb4 HO4 HO HB hr1 hr2 hwr HBD HH HPOS HCUR
                go_wp2_with (first | ((with_reducible refine gate_store (t := 23) (p := 75) rfl ?_); refine store_event (t := 23) (p := 75) (v := ?vo_w20) (w1 := (w4.setCell ⟨g, a, none⟩ (.int .u64 X))) ?hg ?ho ?hn ?hr ?_; (case ho => rfl); (case hg => rfl); (case hn => rfl); (case hr => first | (go_simp; done) | (go_simp; rfl)); intro w20 hw; subst hw; have HB := Aside0.mk (below_set HB4.out HGB.out : Below w.heap.size w (w4.setCell ⟨g, a, none⟩ (.int .u64 X))); have HO := HPP))
                refine ⟨⟨i + 1, S.take a ++ X :: S.drop a, by first | rfl | go_num, by have := HLT.out; omega, by have := HLT.out; omega, by rw [ins_len S a X (by rw [← HN.out]; exact HAN.out)]; have := HI.out; have := HN.out; omega, ⟨ins_ok HS.out (by rw [← HN.out]; exact HAN.out) HX.out HLO.out HHI.out⟩, HO, HB⟩, ?_⟩
                have := HLT.out
                simp [intOf]
                omega
          · obtain ⟨b, hb⟩ : ∃ b, b = a - 1 := ⟨_, rfl⟩
            have hab : b + 1 = a := by omega
            have hbn : b < n := by omega
            have ha0 : decide ((0 : Int) < (a : Int)) = true := decide_eq_true (by omega)
            have ha1 : decide (0 < a) = true := decide_eq_true hpos
            have hsub : (a : Int) - 1 = (b : Int) := by omega
            have hsw : IntKind.i64.wrap ((a : Int) - 1) = (b : Int) := by rw [hsub]; exact (i64_w _).trans (w64 (by omega) (by have := HN40.out; omega))
            have hbz : (b : Int) < (n : Int) := by omega
            have haz : (a : Int) < 41 := by have := HN40.out; omega
            obtain ⟨adb, eb, hxb⟩ := Kd.at_int HCS.out (b : Int) (Int.natCast_nonneg _) hbz
            cases eb
            obtain ⟨yb, hyb⟩ : ∃ yb, yb = S.getD b 0 := ⟨_, rfl⟩
            replace hxb : wr.cell? (adb.add b) = some (.int .u64 yb) := by rw [hyb]; exact hxb
            have HYB := Aside0.mk hyb
            have HBN := Aside0.mk (show b < S.length by rw [← HN.out]; exact hbn)
            have HAB := Aside0.mk hab
            by_cases hgt : X < yb
            · have hgd := decide_eq_true hgt
              have HHI2 := Aside0.mk (hi_step HBN.out (by rw [← hyb]; exact hgt) (by rw [hab]; exact HHI.out))
              clear hyb hgt hbn hab hb ha hpos
              go_wp2
              go_round
              case rel => exact ⟨b, by first | rfl | go_num, by have := HAN.out; have := HAB.out; omega, HHI2⟩
              case measure => have := HAB.out; simp [intOf]; omega
            · have hgd := decide_eq_false hgt
              by_cases heq : yb = X
              · have hqd : (yb == X) = true := by rw [heq]; exact beq_self_eq_true _
                clear hyb hgt hbn hab hb ha hpos heq
                go_wp2
                refine ⟨⟨i + 1, S, by first | rfl | go_num, by have := HLT.out; omega, by have := HLT.out; omega, by have := HI.out; have := HN.out; omega, HS, HO, HB⟩, ?_⟩
                have := HLT.out
                simp [intOf]
                omega
              · have hqd : (yb == X) = false := beq_eq_false_iff_ne.mpr heq
                have HLO := Aside0.mk (show ∀ y ∈ S.take a, y < X by rw [← hab]; exact lo_of HS.out HBN.out (by rw [← hyb]; omega))
                clear hyb hgt hbn hab hb ha hpos heq
                obtain ⟨n1, hn1⟩ : ∃ n1, n1 = n + 1 := ⟨_, rfl⟩
                have HN1 := Aside0.mk hn1
                have HT1 := Aside0.mk (show (S ++ [0]).length = n1 by rw [List.length_append, List.length_singleton, ← HN.out, hn1])
                have HCAP := Aside0.mk (show (S.length + 1) * 8 ≤ 140737488355328 by have := HN.out; have := HN40.out; omega)
                clear hn1
                have HCUR := Aside0.mk HO.out
                go_wp2_with (first
                  | ((with_reducible refine gate_builtin (b := .append) (xs := #[.tmp 61, .tmp 62]) rfl ?_); at_builtin; refine Kd.R_append (Kd.int .u64) (w0 := w) w.heap.size rfl (.tmp 61) (.tmp 62) 33 23 (.int .u64 0) 8 rfl Try.underlying33 (by kernel_rfl) rfl (by decide) (by omega) _ S 0 [.int .u64 0] (fun _ => True) (fun _ => False) rfl rfl ?aP (fun _ hk => hk.elim) ?aF ?aO ?aB ?aS ?aL ?_; (case aP => exact rfl); (case aF => exact (fun _ _ => trivial)); (case aO => exact HO.out); (case aB => exact HB.out); (case aS => exact below_size HB.out); (case aL => exact HCAP.out); intro v1 w1 ho hb hg hat; obtain ⟨g, cap, hv1, hgb, hgl, hcl⟩ := Kd.R_form ho (by rw [HT1.out, HN1.out]; omega); rw [HT1.out] at hv1; subst hv1; have n1_ := Aside0.mk ho; have n2_ := Aside0.mk hb; have HGB := Aside0.mk hgb; clear HO HB; have HO := n1_; have HB := n2_; clear n1_ n2_ ho hb hg hat hgb hgl hcl))
                have own := Kd.own_of_R HO.out
                obtain ⟨_, ⟨hbad, _⟩ | ⟨g', cap', cur, hv, hgb, hh, hnc, hcm, hcs, ht⟩⟩ := own
                · cases hbad
                · injection hv with hv1 hv2 hv3
                  injection hv1 with hv1
                  injection hv1 with hv1
                  subst hv1
                  subst hv3
                  rw [HT1.out, Nat.mul_one] at ht
                  rw [HT1.out] at hnc
                  clear hv2
                  obtain ⟨cl, hcl⟩ : ∃ cl, cl = cur.toList := ⟨_, rfl⟩
                  have hcl2 : cur = cl.toArray := by rw [hcl]
                  subst hcl2
                  rw [← hcl] at ht
                  simp only [List.size_toArray] at hcs
                  have han : a ≤ n := HAN.out
                  obtain ⟨dp, c1, hr1, hd1⟩ := cutB g cap n1 (a + 1) (by have := HN1.out; omega) hnc
                  obtain ⟨sp, c2, hr2, hd2⟩ := cutB g cap n1 a (by have := HN1.out; omega) hnc
                  obtain ⟨m1, hm1⟩ : ∃ m, m = n1 - (a + 1) := ⟨_, rfl⟩
                  obtain ⟨m2, hm2⟩ : ∃ m, m = n1 - a := ⟨_, rfl⟩
                  obtain ⟨a1, ha1'⟩ : ∃ a1, a1 = a + 1 := ⟨_, rfl⟩
                  rw [← hm1, ← ha1'] at hr1
                  rw [← hm2] at hr2
                  have hwr : IntKind.i64.wrap ((a : Int) + 1) = (a1 : Int) := by rw [ha1']; exact (i64_w _).trans ((w64 (by omega) (by omega)).trans rfl)
                  have ha1z : (a1 : Int) ≤ 41 := by omega
                  obtain ⟨cs, hcsd⟩ : ∃ cs : List Value, cs = (S.drop a).map (Value.int .u64) := ⟨_, rfl⟩
                  have hcsl : cs.length = n - a := by rw [hcsd, List.length_map, List.length_drop, ← HN.out]
                  have HCN := Aside0.mk (show cs.length = Nat.min m2 m1 by rw [hcsl, hm1, hm2]; have := HN1.out; show _ = min _ _; omega)
                  have HFIT := Aside0.mk (show a1 + cs.length ≤ cl.length by have := HN1.out; omega)
                  have HONE := Aside0.mk (show ∀ v ∈ cs, v.oneCell' = true by intro v hv; rw [hcsd] at hv; obtain ⟨y, _, rfl⟩ := List.mem_map.1 hv; rfl)
                  have HH := Aside0.mk (show w1.drew.heap[g]? = some (.cells cl.toArray 23 (0, 0)) from hh)
                  have HPOS := Aside0.mk (show 0 < cs.length → dp = some ⟨g, a1, none⟩ ∧ ∃ ad, sp = some ad ∧ ∀ j v, cs[j]? = some v → w1.drew.cell? (ad.add j) = some v by
                    intro hp
                    rw [hcsl] at hp
                    refine ⟨by rw [ha1']; exact hd1 (by have := HN1.out; omega), ⟨g, a, none⟩, hd2 (by have := HN1.out; omega), fun j v hj => ?_⟩
                    have hjl := (List.getElem?_eq_some_iff.1 hj).1
                    rw [hcsl] at hjl
                    have hcell := (Kd.R_celln 0 HO.out ((a + j : Nat) : Int) (by omega) (by have := HN1.out; omega)).1
                    rw [Int.toNat_natCast] at hcell
                    rw [Addr.add_lit]
                    refine (show w1.cell? _ = _ from hcell).trans ?_
                    rw [hcsd, List.getElem?_map, List.getElem?_drop, List.getElem?_eq_getElem (by rw [← HN.out]; omega)] at hj
                    rw [← hj]
                    unfold rdOf
                    rw [Int.toNat_natCast, List.getD_eq_getElem?_getD, List.getElem?_append_left (by rw [← HN.out]; omega), List.getElem?_eq_getElem (by rw [← HN.out]; omega)]
                    rfl)
                  have HBD := Aside0.mk (show Below w.heap.size w w1.drew from HB.out.drew)
                  have HROW := Aside0.mk (show (splice cl (a + 1) cs).take n1 = ((S ++ [0]).take (a + 1) ++ S.drop a).map (Value.int .u64) by
                    have h1 := copy_row cl ((S ++ [0]).map (Value.int .u64)) cs a n (by rw [← HN1.out]; exact ht) (by rw [List.length_map, HT1.out, HN1.out]) hcsl han
                    rw [← HN1.out] at h1
                    rw [h1, hcsd, ← List.map_take, ← List.map_append])
                  have HSIZE := Aside0.mk (show (splice cl (a + 1) cs).length = cap by rw [length_splice _ _ _ (by rw [← ha1']; exact HFIT.out)]; omega)
                  have HNCC := Aside0.mk hnc
                  have HCM := Aside0.mk hcm
                  have HA1 := Aside0.mk ha1'
                  have HMK := Aside0.mk (fun (W : World) (h : W.heap[g]? = some (.cells (splice cl a1 cs).toArray 23 (0, 0))) => (show Kd.R (Kd.int .u64) 23 W w.heap.size (fun _ => True) (.slice (some ⟨g, 0, none⟩) n1 cap) ((S ++ [0]).take (a + 1) ++ S.drop a) by
                    have hl : ((S ++ [0]).take (a + 1) ++ S.drop a).length = n1 := by
                      rw [List.length_append, List.length_take, HT1.out, List.length_drop, ← HN.out]
                      have := HN1.out
                      have := HAN.out
                      omega
                    have ho : W.ownsRow w.heap.size 23 1 (.slice (some ⟨g, 0, none⟩) n1 cap) ((S ++ [0]).take (a + 1) ++ S.drop a).length (encs (Value.int .u64) ((S ++ [0]).take (a + 1) ++ S.drop a)) := by
                      rw [hl]
                      refine ⟨by rw [encs_length, hl, Nat.mul_one], .inr ⟨g, cap, (splice cl a1 cs).toArray, rfl, HGB.out, h, HNCC.out, HCM.out, by simp only [List.size_toArray]; rw [HA1.out, HSIZE.out, Nat.mul_one], ?_⟩⟩
                      rw [Nat.mul_one, HA1.out]
                      exact HROW.out
                    have hr := Kd.R_of_own (h1 := fun _ => rfl) (ok := fun _ => True) ho (fun _ _ => trivial)
                    have hl2 := hl
                    exact hr))
                  have hazn : (a : Int) < (n1 : Int) := by have := HN1.out; omega
                  have hazn2 : a < n1 := by omega
                  have HAZ := Aside0.mk hazn
                  clear hh hnc hcm hcs ht hcl hd1 hd2 hm1 hm2 ha1' hcsd hcsl han hgb
                  go_region_law (refine step_copy_splice rfl (.tmp 67) (.tmp 70) 33 33 rfl 23 Try.underlying33 (by kernel_rfl) dp sp m1 c1 m2 c2 (by simp [Act.eval, Act.put]) (by simp [Act.eval, Act.put]) g a1 cl 23 HH.out cs HCN.out HPOS.out HFIT.out HONE.out w.heap.size w HBD.out HGB.out ?_; intro w4 hg4 hb4)
                  all_goals
                    have HO4 := Aside0.mk (HMK.out w4 hg4.out)
                    have HB4 := Aside0.mk hb4
                    obtain ⟨hx4, hf4⟩ := Kd.R_celln 0 HO4.out (a : Int) (Int.natCast_nonneg _) HAZ.out
                    rw [Int.toNat_natCast] at hx4 hf4
                    obtain ⟨z4, hz4⟩ : ∃ z, z = rdOf (0 : Int) ((S ++ [0]).take (a + 1) ++ S.drop a) (a : Int) := ⟨_, rfl⟩
                    rw [← hz4] at hx4
                    have HP := (Kd.R_putg HO4.out (a : Int) X).1
                    rw [Int.toNat_natCast, ins_set S a X (by rw [← HN.out]; exact HAN.out)] at HP
                    have HPP := Aside0.mk HP
                    clear hz4 HP hg4 hb4 HO4 HO HB hr1 hr2 hwr HBD HH HPOS HCUR
                    go_wp2_with (first | ((with_reducible refine gate_store (t := 23) (p := 75) rfl ?_); refine store_event (t := 23) (p := 75) (v := ?vo_w20) (w1 := (w4.setCell ⟨g, a, none⟩ (.int .u64 X))) ?hg ?ho ?hn ?hr ?_; (case ho => rfl); (case hg => rfl); (case hn => rfl); (case hr => first | (go_simp; done) | (go_simp; rfl)); intro w20 hw; subst hw; have HB := Aside0.mk (below_set HB4.out HGB.out : Below w.heap.size w (w4.setCell ⟨g, a, none⟩ (.int .u64 X))); have HO := HPP))
                    refine ⟨⟨i + 1, S.take a ++ X :: S.drop a, by first | rfl | go_num, by have := HLT.out; omega, by have := HLT.out; omega, by rw [ins_len S a X (by rw [← HN.out]; exact HAN.out)]; have := HI.out; have := HN.out; omega, ⟨ins_ok HS.out (by rw [← HN.out]; exact HAN.out) HX.out HLO.out HHI.out⟩, HO, HB⟩, ?_⟩
                    have := HLT.out
                    simp [intOf]
                    omega
      · have hn0z : decide ((0 : Int) < (n : Int)) = false := decide_eq_false (by omega)
        have hn0n : decide (0 < n) = false := decide_eq_false (by omega)
        obtain ⟨X, hX⟩ : ∃ X, X = x := ⟨_, rfl⟩
        subst hX
        clear hn0
        go_wp2
        go_loop [8] (fun v8 => ∃ (a : Nat), v8 = .int .i64 a ∧ a ≤ n ∧ Aside0 (∀ y ∈ S.drop a, X < y)) (fun v => (intOf v).toNat)
        case atStart => exact ⟨n, by first | rfl | go_num, Nat.le_refl _, ⟨by intro y hy; rw [List.drop_of_length_le (by rw [← HN.out]; exact Nat.le_refl _)] at hy; cases hy⟩⟩
        case round =>
          obtain ⟨a, rfl, ha, HHI⟩ := hrel
          have HAN := Aside0.mk ha
          rcases Nat.eq_zero_or_pos a with haa | hpos
          · have HLO := Aside0.mk (show ∀ y ∈ S.take a, y < X by intro y hy; rw [haa] at hy; cases hy)
            have ha0 : decide ((0 : Int) < (a : Int)) = false := decide_eq_false (by omega)
            have ha0n : decide (0 < a) = false := decide_eq_false (by omega)
            have haz : (a : Int) < 40 := by omega
            clear haa ha
            obtain ⟨n1, hn1⟩ : ∃ n1, n1 = n + 1 := ⟨_, rfl⟩
            have HN1 := Aside0.mk hn1
            have HT1 := Aside0.mk (show (S ++ [0]).length = n1 by rw [List.length_append, List.length_singleton, ← HN.out, hn1])
            have HCAP := Aside0.mk (show (S.length + 1) * 8 ≤ 140737488355328 by have := HN.out; have := HN40.out; omega)
            clear hn1
            have HCUR := Aside0.mk HO.out
            go_wp2_with (first
              | ((with_reducible refine gate_builtin (b := .append) (xs := #[.tmp 61, .tmp 62]) rfl ?_); at_builtin; refine Kd.R_append (Kd.int .u64) (w0 := w) w.heap.size rfl (.tmp 61) (.tmp 62) 33 23 (.int .u64 0) 8 rfl Try.underlying33 (by kernel_rfl) rfl (by decide) (by omega) _ S 0 [.int .u64 0] (fun _ => True) (fun _ => False) rfl rfl ?aP (fun _ hk => hk.elim) ?aF ?aO ?aB ?aS ?aL ?_; (case aP => exact rfl); (case aF => exact (fun _ _ => trivial)); (case aO => exact HO.out); (case aB => exact HB.out); (case aS => exact below_size HB.out); (case aL => exact HCAP.out); intro v1 w1 ho hb hg hat; obtain ⟨g, cap, hv1, hgb, hgl, hcl⟩ := Kd.R_form ho (by rw [HT1.out, HN1.out]; omega); rw [HT1.out] at hv1; subst hv1; have n1_ := Aside0.mk ho; have n2_ := Aside0.mk hb; have HGB := Aside0.mk hgb; clear HO HB; have HO := n1_; have HB := n2_; clear n1_ n2_ ho hb hg hat hgb hgl hcl))
            have own := Kd.own_of_R HO.out
            obtain ⟨_, ⟨hbad, _⟩ | ⟨g', cap', cur, hv, hgb, hh, hnc, hcm, hcs, ht⟩⟩ := own
            · cases hbad
            · injection hv with hv1 hv2 hv3
              injection hv1 with hv1
              injection hv1 with hv1
              subst hv1
              subst hv3
              rw [HT1.out, Nat.mul_one] at ht
              rw [HT1.out] at hnc
              clear hv2
              obtain ⟨cl, hcl⟩ : ∃ cl, cl = cur.toList := ⟨_, rfl⟩
              have hcl2 : cur = cl.toArray := by rw [hcl]
              subst hcl2
              rw [← hcl] at ht
              simp only [List.size_toArray] at hcs
              have han : a ≤ n := HAN.out
              obtain ⟨dp, c1, hr1, hd1⟩ := cutB g cap n1 (a + 1) (by have := HN1.out; omega) hnc
              obtain ⟨sp, c2, hr2, hd2⟩ := cutB g cap n1 a (by have := HN1.out; omega) hnc
              obtain ⟨m1, hm1⟩ : ∃ m, m = n1 - (a + 1) := ⟨_, rfl⟩
              obtain ⟨m2, hm2⟩ : ∃ m, m = n1 - a := ⟨_, rfl⟩
              obtain ⟨a1, ha1'⟩ : ∃ a1, a1 = a + 1 := ⟨_, rfl⟩
              rw [← hm1, ← ha1'] at hr1
              rw [← hm2] at hr2
              have hwr : IntKind.i64.wrap ((a : Int) + 1) = (a1 : Int) := by rw [ha1']; exact (i64_w _).trans ((w64 (by omega) (by omega)).trans rfl)
              have ha1z : (a1 : Int) ≤ 41 := by omega
              obtain ⟨cs, hcsd⟩ : ∃ cs : List Value, cs = (S.drop a).map (Value.int .u64) := ⟨_, rfl⟩
              have hcsl : cs.length = n - a := by rw [hcsd, List.length_map, List.length_drop, ← HN.out]
              have HCN := Aside0.mk (show cs.length = Nat.min m2 m1 by rw [hcsl, hm1, hm2]; have := HN1.out; show _ = min _ _; omega)
              have HFIT := Aside0.mk (show a1 + cs.length ≤ cl.length by have := HN1.out; omega)
              have HONE := Aside0.mk (show ∀ v ∈ cs, v.oneCell' = true by intro v hv; rw [hcsd] at hv; obtain ⟨y, _, rfl⟩ := List.mem_map.1 hv; rfl)
              have HH := Aside0.mk (show w1.drew.heap[g]? = some (.cells cl.toArray 23 (0, 0)) from hh)
              have HPOS := Aside0.mk (show 0 < cs.length → dp = some ⟨g, a1, none⟩ ∧ ∃ ad, sp = some ad ∧ ∀ j v, cs[j]? = some v → w1.drew.cell? (ad.add j) = some v by
                intro hp
                rw [hcsl] at hp
                refine ⟨by rw [ha1']; exact hd1 (by have := HN1.out; omega), ⟨g, a, none⟩, hd2 (by have := HN1.out; omega), fun j v hj => ?_⟩
                have hjl := (List.getElem?_eq_some_iff.1 hj).1
                rw [hcsl] at hjl
                have hcell := (Kd.R_celln 0 HO.out ((a + j : Nat) : Int) (by omega) (by have := HN1.out; omega)).1
                rw [Int.toNat_natCast] at hcell
                rw [Addr.add_lit]
                refine (show w1.cell? _ = _ from hcell).trans ?_
                rw [hcsd, List.getElem?_map, List.getElem?_drop, List.getElem?_eq_getElem (by rw [← HN.out]; omega)] at hj
                rw [← hj]
                unfold rdOf
                rw [Int.toNat_natCast, List.getD_eq_getElem?_getD, List.getElem?_append_left (by rw [← HN.out]; omega), List.getElem?_eq_getElem (by rw [← HN.out]; omega)]
                rfl)
              have HBD := Aside0.mk (show Below w.heap.size w w1.drew from HB.out.drew)
              have HROW := Aside0.mk (show (splice cl (a + 1) cs).take n1 = ((S ++ [0]).take (a + 1) ++ S.drop a).map (Value.int .u64) by
                have h1 := copy_row cl ((S ++ [0]).map (Value.int .u64)) cs a n (by rw [← HN1.out]; exact ht) (by rw [List.length_map, HT1.out, HN1.out]) hcsl han
                rw [← HN1.out] at h1
                rw [h1, hcsd, ← List.map_take, ← List.map_append])
              have HSIZE := Aside0.mk (show (splice cl (a + 1) cs).length = cap by rw [length_splice _ _ _ (by rw [← ha1']; exact HFIT.out)]; omega)
              have HNCC := Aside0.mk hnc
              have HCM := Aside0.mk hcm
              have HA1 := Aside0.mk ha1'
              have HMK := Aside0.mk (fun (W : World) (h : W.heap[g]? = some (.cells (splice cl a1 cs).toArray 23 (0, 0))) => (show Kd.R (Kd.int .u64) 23 W w.heap.size (fun _ => True) (.slice (some ⟨g, 0, none⟩) n1 cap) ((S ++ [0]).take (a + 1) ++ S.drop a) by
                have hl : ((S ++ [0]).take (a + 1) ++ S.drop a).length = n1 := by
                  rw [List.length_append, List.length_take, HT1.out, List.length_drop, ← HN.out]
                  have := HN1.out
                  have := HAN.out
                  omega
                have ho : W.ownsRow w.heap.size 23 1 (.slice (some ⟨g, 0, none⟩) n1 cap) ((S ++ [0]).take (a + 1) ++ S.drop a).length (encs (Value.int .u64) ((S ++ [0]).take (a + 1) ++ S.drop a)) := by
                  rw [hl]
                  refine ⟨by rw [encs_length, hl, Nat.mul_one], .inr ⟨g, cap, (splice cl a1 cs).toArray, rfl, HGB.out, h, HNCC.out, HCM.out, by simp only [List.size_toArray]; rw [HA1.out, HSIZE.out, Nat.mul_one], ?_⟩⟩
                  rw [Nat.mul_one, HA1.out]
                  exact HROW.out
                have hr := Kd.R_of_own (h1 := fun _ => rfl) (ok := fun _ => True) ho (fun _ _ => trivial)
                have hl2 := hl
                exact hr))
              have hazn : (a : Int) < (n1 : Int) := by have := HN1.out; omega
              have hazn2 : a < n1 := by omega
              have HAZ := Aside0.mk hazn
              clear hh hnc hcm hcs ht hcl hd1 hd2 hm1 hm2 ha1' hcsd hcsl han hgb
              go_region_law (refine step_copy_splice rfl (.tmp 67) (.tmp 70) 33 33 rfl 23 Try.underlying33 (by kernel_rfl) dp sp m1 c1 m2 c2 (by simp [Act.eval, Act.put]) (by simp [Act.eval, Act.put]) g a1 cl 23 HH.out cs HCN.out HPOS.out HFIT.out HONE.out w.heap.size w HBD.out HGB.out ?_; intro w4 hg4 hb4)
              all_goals
                have HO4 := Aside0.mk (HMK.out w4 hg4.out)
                have HB4 := Aside0.mk hb4
                obtain ⟨hx4, hf4⟩ := Kd.R_celln 0 HO4.out (a : Int) (Int.natCast_nonneg _) HAZ.out
                rw [Int.toNat_natCast] at hx4 hf4
                obtain ⟨z4, hz4⟩ : ∃ z, z = rdOf (0 : Int) ((S ++ [0]).take (a + 1) ++ S.drop a) (a : Int) := ⟨_, rfl⟩
                rw [← hz4] at hx4
                have HP := (Kd.R_putg HO4.out (a : Int) X).1
                rw [Int.toNat_natCast, ins_set S a X (by rw [← HN.out]; exact HAN.out)] at HP
                have HPP := Aside0.mk HP
                clear hz4 HP hg4 hb4 HO4 HO HB hr1 hr2 hwr HBD HH HPOS HCUR
                go_wp2_with (first | ((with_reducible refine gate_store (t := 23) (p := 75) rfl ?_); refine store_event (t := 23) (p := 75) (v := ?vo_w20) (w1 := (w4.setCell ⟨g, a, none⟩ (.int .u64 X))) ?hg ?ho ?hn ?hr ?_; (case ho => rfl); (case hg => rfl); (case hn => rfl); (case hr => first | (go_simp; done) | (go_simp; rfl)); intro w20 hw; subst hw; have HB := Aside0.mk (below_set HB4.out HGB.out : Below w.heap.size w (w4.setCell ⟨g, a, none⟩ (.int .u64 X))); have HO := HPP))
                refine ⟨⟨i + 1, S.take a ++ X :: S.drop a, by first | rfl | go_num, by have := HLT.out; omega, by have := HLT.out; omega, by rw [ins_len S a X (by rw [← HN.out]; exact HAN.out)]; have := HI.out; have := HN.out; omega, ⟨ins_ok HS.out (by rw [← HN.out]; exact HAN.out) HX.out HLO.out HHI.out⟩, HO, HB⟩, ?_⟩
                have := HLT.out
                simp [intOf]
                omega
          · obtain ⟨b, hb⟩ : ∃ b, b = a - 1 := ⟨_, rfl⟩
            have hab : b + 1 = a := by omega
            have hbn : b < n := by omega
            have ha0 : decide ((0 : Int) < (a : Int)) = true := decide_eq_true (by omega)
            have ha1 : decide (0 < a) = true := decide_eq_true hpos
            have hsub : (a : Int) - 1 = (b : Int) := by omega
            have hsw : IntKind.i64.wrap ((a : Int) - 1) = (b : Int) := by rw [hsub]; exact (i64_w _).trans (w64 (by omega) (by have := HN40.out; omega))
            have hbz : (b : Int) < (n : Int) := by omega
            have haz : (a : Int) < 41 := by have := HN40.out; omega
            obtain ⟨adb, eb, hxb⟩ := Kd.at_int HCS.out (b : Int) (Int.natCast_nonneg _) hbz
            cases eb
            obtain ⟨yb, hyb⟩ : ∃ yb, yb = S.getD b 0 := ⟨_, rfl⟩
            replace hxb : wr.cell? (adb.add b) = some (.int .u64 yb) := by rw [hyb]; exact hxb
            have HYB := Aside0.mk hyb
            have HBN := Aside0.mk (show b < S.length by rw [← HN.out]; exact hbn)
            have HAB := Aside0.mk hab
            by_cases hgt : X < yb
            · have hgd := decide_eq_true hgt
              have HHI2 := Aside0.mk (hi_step HBN.out (by rw [← hyb]; exact hgt) (by rw [hab]; exact HHI.out))
              clear hyb hgt hbn hab hb ha hpos
              go_wp2
              go_round
              case rel => exact ⟨b, by first | rfl | go_num, by have := HAN.out; have := HAB.out; omega, HHI2⟩
              case measure => have := HAB.out; simp [intOf]; omega
            · have hgd := decide_eq_false hgt
              by_cases heq : yb = X
              · have hqd : (yb == X) = true := by rw [heq]; exact beq_self_eq_true _
                clear hyb hgt hbn hab hb ha hpos heq
                go_wp2
                refine ⟨⟨i + 1, S, by first | rfl | go_num, by have := HLT.out; omega, by have := HLT.out; omega, by have := HI.out; have := HN.out; omega, HS, HO, HB⟩, ?_⟩
                have := HLT.out
                simp [intOf]
                omega
              · have hqd : (yb == X) = false := beq_eq_false_iff_ne.mpr heq
                have HLO := Aside0.mk (show ∀ y ∈ S.take a, y < X by rw [← hab]; exact lo_of HS.out HBN.out (by rw [← hyb]; omega))
                clear hyb hgt hbn hab hb ha hpos heq
                obtain ⟨n1, hn1⟩ : ∃ n1, n1 = n + 1 := ⟨_, rfl⟩
                have HN1 := Aside0.mk hn1
                have HT1 := Aside0.mk (show (S ++ [0]).length = n1 by rw [List.length_append, List.length_singleton, ← HN.out, hn1])
                have HCAP := Aside0.mk (show (S.length + 1) * 8 ≤ 140737488355328 by have := HN.out; have := HN40.out; omega)
                clear hn1
                have HCUR := Aside0.mk HO.out
                go_wp2_with (first
                  | ((with_reducible refine gate_builtin (b := .append) (xs := #[.tmp 61, .tmp 62]) rfl ?_); at_builtin; refine Kd.R_append (Kd.int .u64) (w0 := w) w.heap.size rfl (.tmp 61) (.tmp 62) 33 23 (.int .u64 0) 8 rfl Try.underlying33 (by kernel_rfl) rfl (by decide) (by omega) _ S 0 [.int .u64 0] (fun _ => True) (fun _ => False) rfl rfl ?aP (fun _ hk => hk.elim) ?aF ?aO ?aB ?aS ?aL ?_; (case aP => exact rfl); (case aF => exact (fun _ _ => trivial)); (case aO => exact HO.out); (case aB => exact HB.out); (case aS => exact below_size HB.out); (case aL => exact HCAP.out); intro v1 w1 ho hb hg hat; obtain ⟨g, cap, hv1, hgb, hgl, hcl⟩ := Kd.R_form ho (by rw [HT1.out, HN1.out]; omega); rw [HT1.out] at hv1; subst hv1; have n1_ := Aside0.mk ho; have n2_ := Aside0.mk hb; have HGB := Aside0.mk hgb; clear HO HB; have HO := n1_; have HB := n2_; clear n1_ n2_ ho hb hg hat hgb hgl hcl))
                have own := Kd.own_of_R HO.out
                obtain ⟨_, ⟨hbad, _⟩ | ⟨g', cap', cur, hv, hgb, hh, hnc, hcm, hcs, ht⟩⟩ := own
                · cases hbad
                · injection hv with hv1 hv2 hv3
                  injection hv1 with hv1
                  injection hv1 with hv1
                  subst hv1
                  subst hv3
                  rw [HT1.out, Nat.mul_one] at ht
                  rw [HT1.out] at hnc
                  clear hv2
                  obtain ⟨cl, hcl⟩ : ∃ cl, cl = cur.toList := ⟨_, rfl⟩
                  have hcl2 : cur = cl.toArray := by rw [hcl]
                  subst hcl2
                  rw [← hcl] at ht
                  simp only [List.size_toArray] at hcs
                  have han : a ≤ n := HAN.out
                  obtain ⟨dp, c1, hr1, hd1⟩ := cutB g cap n1 (a + 1) (by have := HN1.out; omega) hnc
                  obtain ⟨sp, c2, hr2, hd2⟩ := cutB g cap n1 a (by have := HN1.out; omega) hnc
                  obtain ⟨m1, hm1⟩ : ∃ m, m = n1 - (a + 1) := ⟨_, rfl⟩
                  obtain ⟨m2, hm2⟩ : ∃ m, m = n1 - a := ⟨_, rfl⟩
                  obtain ⟨a1, ha1'⟩ : ∃ a1, a1 = a + 1 := ⟨_, rfl⟩
                  rw [← hm1, ← ha1'] at hr1
                  rw [← hm2] at hr2
                  have hwr : IntKind.i64.wrap ((a : Int) + 1) = (a1 : Int) := by rw [ha1']; exact (i64_w _).trans ((w64 (by omega) (by omega)).trans rfl)
                  have ha1z : (a1 : Int) ≤ 41 := by omega
                  obtain ⟨cs, hcsd⟩ : ∃ cs : List Value, cs = (S.drop a).map (Value.int .u64) := ⟨_, rfl⟩
                  have hcsl : cs.length = n - a := by rw [hcsd, List.length_map, List.length_drop, ← HN.out]
                  have HCN := Aside0.mk (show cs.length = Nat.min m2 m1 by rw [hcsl, hm1, hm2]; have := HN1.out; show _ = min _ _; omega)
                  have HFIT := Aside0.mk (show a1 + cs.length ≤ cl.length by have := HN1.out; omega)
                  have HONE := Aside0.mk (show ∀ v ∈ cs, v.oneCell' = true by intro v hv; rw [hcsd] at hv; obtain ⟨y, _, rfl⟩ := List.mem_map.1 hv; rfl)
                  have HH := Aside0.mk (show w1.drew.heap[g]? = some (.cells cl.toArray 23 (0, 0)) from hh)
                  have HPOS := Aside0.mk (show 0 < cs.length → dp = some ⟨g, a1, none⟩ ∧ ∃ ad, sp = some ad ∧ ∀ j v, cs[j]? = some v → w1.drew.cell? (ad.add j) = some v by
                    intro hp
                    rw [hcsl] at hp
                    refine ⟨by rw [ha1']; exact hd1 (by have := HN1.out; omega), ⟨g, a, none⟩, hd2 (by have := HN1.out; omega), fun j v hj => ?_⟩
                    have hjl := (List.getElem?_eq_some_iff.1 hj).1
                    rw [hcsl] at hjl
                    have hcell := (Kd.R_celln 0 HO.out ((a + j : Nat) : Int) (by omega) (by have := HN1.out; omega)).1
                    rw [Int.toNat_natCast] at hcell
                    rw [Addr.add_lit]
                    refine (show w1.cell? _ = _ from hcell).trans ?_
                    rw [hcsd, List.getElem?_map, List.getElem?_drop, List.getElem?_eq_getElem (by rw [← HN.out]; omega)] at hj
                    rw [← hj]
                    unfold rdOf
                    rw [Int.toNat_natCast, List.getD_eq_getElem?_getD, List.getElem?_append_left (by rw [← HN.out]; omega), List.getElem?_eq_getElem (by rw [← HN.out]; omega)]
                    rfl)
                  have HBD := Aside0.mk (show Below w.heap.size w w1.drew from HB.out.drew)
                  have HROW := Aside0.mk (show (splice cl (a + 1) cs).take n1 = ((S ++ [0]).take (a + 1) ++ S.drop a).map (Value.int .u64) by
                    have h1 := copy_row cl ((S ++ [0]).map (Value.int .u64)) cs a n (by rw [← HN1.out]; exact ht) (by rw [List.length_map, HT1.out, HN1.out]) hcsl han
                    rw [← HN1.out] at h1
                    rw [h1, hcsd, ← List.map_take, ← List.map_append])
                  have HSIZE := Aside0.mk (show (splice cl (a + 1) cs).length = cap by rw [length_splice _ _ _ (by rw [← ha1']; exact HFIT.out)]; omega)
                  have HNCC := Aside0.mk hnc
                  have HCM := Aside0.mk hcm
                  have HA1 := Aside0.mk ha1'
                  have HMK := Aside0.mk (fun (W : World) (h : W.heap[g]? = some (.cells (splice cl a1 cs).toArray 23 (0, 0))) => (show Kd.R (Kd.int .u64) 23 W w.heap.size (fun _ => True) (.slice (some ⟨g, 0, none⟩) n1 cap) ((S ++ [0]).take (a + 1) ++ S.drop a) by
                    have hl : ((S ++ [0]).take (a + 1) ++ S.drop a).length = n1 := by
                      rw [List.length_append, List.length_take, HT1.out, List.length_drop, ← HN.out]
                      have := HN1.out
                      have := HAN.out
                      omega
                    have ho : W.ownsRow w.heap.size 23 1 (.slice (some ⟨g, 0, none⟩) n1 cap) ((S ++ [0]).take (a + 1) ++ S.drop a).length (encs (Value.int .u64) ((S ++ [0]).take (a + 1) ++ S.drop a)) := by
                      rw [hl]
                      refine ⟨by rw [encs_length, hl, Nat.mul_one], .inr ⟨g, cap, (splice cl a1 cs).toArray, rfl, HGB.out, h, HNCC.out, HCM.out, by simp only [List.size_toArray]; rw [HA1.out, HSIZE.out, Nat.mul_one], ?_⟩⟩
                      rw [Nat.mul_one, HA1.out]
                      exact HROW.out
                    have hr := Kd.R_of_own (h1 := fun _ => rfl) (ok := fun _ => True) ho (fun _ _ => trivial)
                    have hl2 := hl
                    exact hr))
                  have hazn : (a : Int) < (n1 : Int) := by have := HN1.out; omega
                  have hazn2 : a < n1 := by omega
                  have HAZ := Aside0.mk hazn
                  clear hh hnc hcm hcs ht hcl hd1 hd2 hm1 hm2 ha1' hcsd hcsl han hgb
                  go_region_law (refine step_copy_splice rfl (.tmp 67) (.tmp 70) 33 33 rfl 23 Try.underlying33 (by kernel_rfl) dp sp m1 c1 m2 c2 (by simp [Act.eval, Act.put]) (by simp [Act.eval, Act.put]) g a1 cl 23 HH.out cs HCN.out HPOS.out HFIT.out HONE.out w.heap.size w HBD.out HGB.out ?_; intro w4 hg4 hb4)
                  all_goals
                    have HO4 := Aside0.mk (HMK.out w4 hg4.out)
                    have HB4 := Aside0.mk hb4
                    obtain ⟨hx4, hf4⟩ := Kd.R_celln 0 HO4.out (a : Int) (Int.natCast_nonneg _) HAZ.out
                    rw [Int.toNat_natCast] at hx4 hf4
                    obtain ⟨z4, hz4⟩ : ∃ z, z = rdOf (0 : Int) ((S ++ [0]).take (a + 1) ++ S.drop a) (a : Int) := ⟨_, rfl⟩
                    rw [← hz4] at hx4
                    have HP := (Kd.R_putg HO4.out (a : Int) X).1
                    rw [Int.toNat_natCast, ins_set S a X (by rw [← HN.out]; exact HAN.out)] at HP
                    have HPP := Aside0.mk HP
                    clear hz4 HP hg4 hb4 HO4 HO HB hr1 hr2 hwr HBD HH HPOS HCUR
                    go_wp2_with (first | ((with_reducible refine gate_store (t := 23) (p := 75) rfl ?_); refine store_event (t := 23) (p := 75) (v := ?vo_w20) (w1 := (w4.setCell ⟨g, a, none⟩ (.int .u64 X))) ?hg ?ho ?hn ?hr ?_; (case ho => rfl); (case hg => rfl); (case hn => rfl); (case hr => first | (go_simp; done) | (go_simp; rfl)); intro w20 hw; subst hw; have HB := Aside0.mk (below_set HB4.out HGB.out : Below w.heap.size w (w4.setCell ⟨g, a, none⟩ (.int .u64 X))); have HO := HPP))
                    refine ⟨⟨i + 1, S.take a ++ X :: S.drop a, by first | rfl | go_num, by have := HLT.out; omega, by have := HLT.out; omega, by rw [ins_len S a X (by rw [← HN.out]; exact HAN.out)]; have := HI.out; have := HN.out; omega, ⟨ins_ok HS.out (by rw [← HN.out]; exact HAN.out) HX.out HLO.out HHI.out⟩, HO, HB⟩, ?_⟩
                    have := HLT.out
                    simp [intOf]
                    omega
      · have hn0z : decide ((0 : Int) < (n : Int)) = true := decide_eq_true (by omega)
        have hn0n : decide (0 < n) = true := decide_eq_true hn0
        obtain ⟨ad0, e0, hx0⟩ := Kd.at_int HCS.out 0 (by decide) (by omega)
        cases e0
        obtain ⟨y0, hy0⟩ : ∃ y0, y0 = S.getD 0 0 := ⟨_, rfl⟩
        have hn0zz : (0 : Int) < (n : Int) := by omega
        have hx0' : wr.cell? (ad0.add 0) = some (.int .u64 y0) := by rw [hy0]; exact hx0
        have hx0'' : wr.cell? ad0 = some (.int .u64 y0) := by
          have e : ad0.add 0 = ad0 := by simp [Addr.add]
          rw [e] at hx0'
          exact hx0'
        clear hx0
        obtain ⟨X, hX⟩ : ∃ X, X = Go.bits .xor .u64 y0 (Go.bits .and .u64 x 255) := ⟨_, rfl⟩
        have HX1 := Aside0.mk (show 0 ≤ X ∧ X < 18446744073709551616 by rw [hX]; exact xor_rng _ _)
        have hXe : Go.bits .xor .u64 y0 (Go.bits .and .u64 x 255) = X := hX.symm
        clear HX hX hy0 hn0
        have HX := HX1
        clear HX1
        go_wp2
        go_loop [8] (fun v8 => ∃ (a : Nat), v8 = .int .i64 a ∧ a ≤ n ∧ Aside0 (∀ y ∈ S.drop a, X < y)) (fun v => (intOf v).toNat)
        case atStart => exact ⟨n, by first | rfl | go_num, Nat.le_refl _, ⟨by intro y hy; rw [List.drop_of_length_le (by rw [← HN.out]; exact Nat.le_refl _)] at hy; cases hy⟩⟩
        case round =>
          obtain ⟨a, rfl, ha, HHI⟩ := hrel
          have HAN := Aside0.mk ha
          rcases Nat.eq_zero_or_pos a with haa | hpos
          · have HLO := Aside0.mk (show ∀ y ∈ S.take a, y < X by intro y hy; rw [haa] at hy; cases hy)
            have ha0 : decide ((0 : Int) < (a : Int)) = false := decide_eq_false (by omega)
            have ha0n : decide (0 < a) = false := decide_eq_false (by omega)
            have haz : (a : Int) < 40 := by omega
            clear haa ha
            obtain ⟨n1, hn1⟩ : ∃ n1, n1 = n + 1 := ⟨_, rfl⟩
            have HN1 := Aside0.mk hn1
            have HT1 := Aside0.mk (show (S ++ [0]).length = n1 by rw [List.length_append, List.length_singleton, ← HN.out, hn1])
            have HCAP := Aside0.mk (show (S.length + 1) * 8 ≤ 140737488355328 by have := HN.out; have := HN40.out; omega)
            clear hn1
            have HCUR := Aside0.mk HO.out
            go_wp2_with (first
              | ((with_reducible refine gate_builtin (b := .append) (xs := #[.tmp 61, .tmp 62]) rfl ?_); at_builtin; refine Kd.R_append (Kd.int .u64) (w0 := w) w.heap.size rfl (.tmp 61) (.tmp 62) 33 23 (.int .u64 0) 8 rfl Try.underlying33 (by kernel_rfl) rfl (by decide) (by omega) _ S 0 [.int .u64 0] (fun _ => True) (fun _ => False) rfl rfl ?aP (fun _ hk => hk.elim) ?aF ?aO ?aB ?aS ?aL ?_; (case aP => exact rfl); (case aF => exact (fun _ _ => trivial)); (case aO => exact HO.out); (case aB => exact HB.out); (case aS => exact below_size HB.out); (case aL => exact HCAP.out); intro v1 w1 ho hb hg hat; obtain ⟨g, cap, hv1, hgb, hgl, hcl⟩ := Kd.R_form ho (by rw [HT1.out, HN1.out]; omega); rw [HT1.out] at hv1; subst hv1; have n1_ := Aside0.mk ho; have n2_ := Aside0.mk hb; have HGB := Aside0.mk hgb; clear HO HB; have HO := n1_; have HB := n2_; clear n1_ n2_ ho hb hg hat hgb hgl hcl))
            have own := Kd.own_of_R HO.out
            obtain ⟨_, ⟨hbad, _⟩ | ⟨g', cap', cur, hv, hgb, hh, hnc, hcm, hcs, ht⟩⟩ := own
            · cases hbad
            · injection hv with hv1 hv2 hv3
              injection hv1 with hv1
              injection hv1 with hv1
              subst hv1
              subst hv3
              rw [HT1.out, Nat.mul_one] at ht
              rw [HT1.out] at hnc
              clear hv2
              obtain ⟨cl, hcl⟩ : ∃ cl, cl = cur.toList := ⟨_, rfl⟩
              have hcl2 : cur = cl.toArray := by rw [hcl]
              subst hcl2
              rw [← hcl] at ht
              simp only [List.size_toArray] at hcs
              have han : a ≤ n := HAN.out
              obtain ⟨dp, c1, hr1, hd1⟩ := cutB g cap n1 (a + 1) (by have := HN1.out; omega) hnc
              obtain ⟨sp, c2, hr2, hd2⟩ := cutB g cap n1 a (by have := HN1.out; omega) hnc
              obtain ⟨m1, hm1⟩ : ∃ m, m = n1 - (a + 1) := ⟨_, rfl⟩
              obtain ⟨m2, hm2⟩ : ∃ m, m = n1 - a := ⟨_, rfl⟩
              obtain ⟨a1, ha1'⟩ : ∃ a1, a1 = a + 1 := ⟨_, rfl⟩
              rw [← hm1, ← ha1'] at hr1
              rw [← hm2] at hr2
              have hwr : IntKind.i64.wrap ((a : Int) + 1) = (a1 : Int) := by rw [ha1']; exact (i64_w _).trans ((w64 (by omega) (by omega)).trans rfl)
              have ha1z : (a1 : Int) ≤ 41 := by omega
              obtain ⟨cs, hcsd⟩ : ∃ cs : List Value, cs = (S.drop a).map (Value.int .u64) := ⟨_, rfl⟩
              have hcsl : cs.length = n - a := by rw [hcsd, List.length_map, List.length_drop, ← HN.out]
              have HCN := Aside0.mk (show cs.length = Nat.min m2 m1 by rw [hcsl, hm1, hm2]; have := HN1.out; show _ = min _ _; omega)
              have HFIT := Aside0.mk (show a1 + cs.length ≤ cl.length by have := HN1.out; omega)
              have HONE := Aside0.mk (show ∀ v ∈ cs, v.oneCell' = true by intro v hv; rw [hcsd] at hv; obtain ⟨y, _, rfl⟩ := List.mem_map.1 hv; rfl)
              have HH := Aside0.mk (show w1.drew.heap[g]? = some (.cells cl.toArray 23 (0, 0)) from hh)
              have HPOS := Aside0.mk (show 0 < cs.length → dp = some ⟨g, a1, none⟩ ∧ ∃ ad, sp = some ad ∧ ∀ j v, cs[j]? = some v → w1.drew.cell? (ad.add j) = some v by
                intro hp
                rw [hcsl] at hp
                refine ⟨by rw [ha1']; exact hd1 (by have := HN1.out; omega), ⟨g, a, none⟩, hd2 (by have := HN1.out; omega), fun j v hj => ?_⟩
                have hjl := (List.getElem?_eq_some_iff.1 hj).1
                rw [hcsl] at hjl
                have hcell := (Kd.R_celln 0 HO.out ((a + j : Nat) : Int) (by omega) (by have := HN1.out; omega)).1
                rw [Int.toNat_natCast] at hcell
                rw [Addr.add_lit]
                refine (show w1.cell? _ = _ from hcell).trans ?_
                rw [hcsd, List.getElem?_map, List.getElem?_drop, List.getElem?_eq_getElem (by rw [← HN.out]; omega)] at hj
                rw [← hj]
                unfold rdOf
                rw [Int.toNat_natCast, List.getD_eq_getElem?_getD, List.getElem?_append_left (by rw [← HN.out]; omega), List.getElem?_eq_getElem (by rw [← HN.out]; omega)]
                rfl)
              have HBD := Aside0.mk (show Below w.heap.size w w1.drew from HB.out.drew)
              have HROW := Aside0.mk (show (splice cl (a + 1) cs).take n1 = ((S ++ [0]).take (a + 1) ++ S.drop a).map (Value.int .u64) by
                have h1 := copy_row cl ((S ++ [0]).map (Value.int .u64)) cs a n (by rw [← HN1.out]; exact ht) (by rw [List.length_map, HT1.out, HN1.out]) hcsl han
                rw [← HN1.out] at h1
                rw [h1, hcsd, ← List.map_take, ← List.map_append])
              have HSIZE := Aside0.mk (show (splice cl (a + 1) cs).length = cap by rw [length_splice _ _ _ (by rw [← ha1']; exact HFIT.out)]; omega)
              have HNCC := Aside0.mk hnc
              have HCM := Aside0.mk hcm
              have HA1 := Aside0.mk ha1'
              have HMK := Aside0.mk (fun (W : World) (h : W.heap[g]? = some (.cells (splice cl a1 cs).toArray 23 (0, 0))) => (show Kd.R (Kd.int .u64) 23 W w.heap.size (fun _ => True) (.slice (some ⟨g, 0, none⟩) n1 cap) ((S ++ [0]).take (a + 1) ++ S.drop a) by
                have hl : ((S ++ [0]).take (a + 1) ++ S.drop a).length = n1 := by
                  rw [List.length_append, List.length_take, HT1.out, List.length_drop, ← HN.out]
                  have := HN1.out
                  have := HAN.out
                  omega
                have ho : W.ownsRow w.heap.size 23 1 (.slice (some ⟨g, 0, none⟩) n1 cap) ((S ++ [0]).take (a + 1) ++ S.drop a).length (encs (Value.int .u64) ((S ++ [0]).take (a + 1) ++ S.drop a)) := by
                  rw [hl]
                  refine ⟨by rw [encs_length, hl, Nat.mul_one], .inr ⟨g, cap, (splice cl a1 cs).toArray, rfl, HGB.out, h, HNCC.out, HCM.out, by simp only [List.size_toArray]; rw [HA1.out, HSIZE.out, Nat.mul_one], ?_⟩⟩
                  rw [Nat.mul_one, HA1.out]
                  exact HROW.out
                have hr := Kd.R_of_own (h1 := fun _ => rfl) (ok := fun _ => True) ho (fun _ _ => trivial)
                have hl2 := hl
                exact hr))
              have hazn : (a : Int) < (n1 : Int) := by have := HN1.out; omega
              have hazn2 : a < n1 := by omega
              have HAZ := Aside0.mk hazn
              clear hh hnc hcm hcs ht hcl hd1 hd2 hm1 hm2 ha1' hcsd hcsl han hgb
              go_region_law (refine step_copy_splice rfl (.tmp 67) (.tmp 70) 33 33 rfl 23 Try.underlying33 (by kernel_rfl) dp sp m1 c1 m2 c2 (by simp [Act.eval, Act.put]) (by simp [Act.eval, Act.put]) g a1 cl 23 HH.out cs HCN.out HPOS.out HFIT.out HONE.out w.heap.size w HBD.out HGB.out ?_; intro w4 hg4 hb4)
              all_goals
                have HO4 := Aside0.mk (HMK.out w4 hg4.out)
                have HB4 := Aside0.mk hb4
                obtain ⟨hx4, hf4⟩ := Kd.R_celln 0 HO4.out (a : Int) (Int.natCast_nonneg _) HAZ.out
                rw [Int.toNat_natCast] at hx4 hf4
                obtain ⟨z4, hz4⟩ : ∃ z, z = rdOf (0 : Int) ((S ++ [0]).take (a + 1) ++ S.drop a) (a : Int) := ⟨_, rfl⟩
                rw [← hz4] at hx4
                have HP := (Kd.R_putg HO4.out (a : Int) X).1
                rw [Int.toNat_natCast, ins_set S a X (by rw [← HN.out]; exact HAN.out)] at HP
                have HPP := Aside0.mk HP
                clear hz4 HP hg4 hb4 HO4 HO HB hr1 hr2 hwr HBD HH HPOS HCUR
                go_wp2_with (first | ((with_reducible refine gate_store (t := 23) (p := 75) rfl ?_); refine store_event (t := 23) (p := 75) (v := ?vo_w20) (w1 := (w4.setCell ⟨g, a, none⟩ (.int .u64 X))) ?hg ?ho ?hn ?hr ?_; (case ho => rfl); (case hg => rfl); (case hn => rfl); (case hr => first | (go_simp; done) | (go_simp; rfl)); intro w20 hw; subst hw; have HB := Aside0.mk (below_set HB4.out HGB.out : Below w.heap.size w (w4.setCell ⟨g, a, none⟩ (.int .u64 X))); have HO := HPP))
                refine ⟨⟨i + 1, S.take a ++ X :: S.drop a, by first | rfl | go_num, by have := HLT.out; omega, by have := HLT.out; omega, by rw [ins_len S a X (by rw [← HN.out]; exact HAN.out)]; have := HI.out; have := HN.out; omega, ⟨ins_ok HS.out (by rw [← HN.out]; exact HAN.out) HX.out HLO.out HHI.out⟩, HO, HB⟩, ?_⟩
                have := HLT.out
                simp [intOf]
                omega
          · obtain ⟨b, hb⟩ : ∃ b, b = a - 1 := ⟨_, rfl⟩
            have hab : b + 1 = a := by omega
            have hbn : b < n := by omega
            have ha0 : decide ((0 : Int) < (a : Int)) = true := decide_eq_true (by omega)
            have ha1 : decide (0 < a) = true := decide_eq_true hpos
            have hsub : (a : Int) - 1 = (b : Int) := by omega
            have hsw : IntKind.i64.wrap ((a : Int) - 1) = (b : Int) := by rw [hsub]; exact (i64_w _).trans (w64 (by omega) (by have := HN40.out; omega))
            have hbz : (b : Int) < (n : Int) := by omega
            have haz : (a : Int) < 41 := by have := HN40.out; omega
            obtain ⟨adb, eb, hxb⟩ := Kd.at_int HCS.out (b : Int) (Int.natCast_nonneg _) hbz
            (have eb2 : adb = ad0 := (Option.some.inj eb).symm; subst eb2)
            obtain ⟨yb, hyb⟩ : ∃ yb, yb = S.getD b 0 := ⟨_, rfl⟩
            replace hxb : wr.cell? (adb.add b) = some (.int .u64 yb) := by rw [hyb]; exact hxb
            have HYB := Aside0.mk hyb
            have HBN := Aside0.mk (show b < S.length by rw [← HN.out]; exact hbn)
            have HAB := Aside0.mk hab
            by_cases hgt : X < yb
            · have hgd := decide_eq_true hgt
              have HHI2 := Aside0.mk (hi_step HBN.out (by rw [← hyb]; exact hgt) (by rw [hab]; exact HHI.out))
              clear hyb hgt hbn hab hb ha hpos
              go_wp2
              go_round
              case rel => exact ⟨b, by first | rfl | go_num, by have := HAN.out; have := HAB.out; omega, HHI2⟩
              case measure => have := HAB.out; simp [intOf]; omega
            · have hgd := decide_eq_false hgt
              by_cases heq : yb = X
              · have hqd : (yb == X) = true := by rw [heq]; exact beq_self_eq_true _
                clear hyb hgt hbn hab hb ha hpos heq
                go_wp2
                refine ⟨⟨i + 1, S, by first | rfl | go_num, by have := HLT.out; omega, by have := HLT.out; omega, by have := HI.out; have := HN.out; omega, HS, HO, HB⟩, ?_⟩
                have := HLT.out
                simp [intOf]
                omega
              · have hqd : (yb == X) = false := beq_eq_false_iff_ne.mpr heq
                have HLO := Aside0.mk (show ∀ y ∈ S.take a, y < X by rw [← hab]; exact lo_of HS.out HBN.out (by rw [← hyb]; omega))
                clear hyb hgt hbn hab hb ha hpos heq
                obtain ⟨n1, hn1⟩ : ∃ n1, n1 = n + 1 := ⟨_, rfl⟩
                have HN1 := Aside0.mk hn1
                have HT1 := Aside0.mk (show (S ++ [0]).length = n1 by rw [List.length_append, List.length_singleton, ← HN.out, hn1])
                have HCAP := Aside0.mk (show (S.length + 1) * 8 ≤ 140737488355328 by have := HN.out; have := HN40.out; omega)
                clear hn1
                have HCUR := Aside0.mk HO.out
                go_wp2_with (first
                  | ((with_reducible refine gate_builtin (b := .append) (xs := #[.tmp 61, .tmp 62]) rfl ?_); at_builtin; refine Kd.R_append (Kd.int .u64) (w0 := w) w.heap.size rfl (.tmp 61) (.tmp 62) 33 23 (.int .u64 0) 8 rfl Try.underlying33 (by kernel_rfl) rfl (by decide) (by omega) _ S 0 [.int .u64 0] (fun _ => True) (fun _ => False) rfl rfl ?aP (fun _ hk => hk.elim) ?aF ?aO ?aB ?aS ?aL ?_; (case aP => exact rfl); (case aF => exact (fun _ _ => trivial)); (case aO => exact HO.out); (case aB => exact HB.out); (case aS => exact below_size HB.out); (case aL => exact HCAP.out); intro v1 w1 ho hb hg hat; obtain ⟨g, cap, hv1, hgb, hgl, hcl⟩ := Kd.R_form ho (by rw [HT1.out, HN1.out]; omega); rw [HT1.out] at hv1; subst hv1; have n1_ := Aside0.mk ho; have n2_ := Aside0.mk hb; have HGB := Aside0.mk hgb; clear HO HB; have HO := n1_; have HB := n2_; clear n1_ n2_ ho hb hg hat hgb hgl hcl))
                have own := Kd.own_of_R HO.out
                obtain ⟨_, ⟨hbad, _⟩ | ⟨g', cap', cur, hv, hgb, hh, hnc, hcm, hcs, ht⟩⟩ := own
                · cases hbad
                · injection hv with hv1 hv2 hv3
                  injection hv1 with hv1
                  injection hv1 with hv1
                  subst hv1
                  subst hv3
                  rw [HT1.out, Nat.mul_one] at ht
                  rw [HT1.out] at hnc
                  clear hv2
                  obtain ⟨cl, hcl⟩ : ∃ cl, cl = cur.toList := ⟨_, rfl⟩
                  have hcl2 : cur = cl.toArray := by rw [hcl]
                  subst hcl2
                  rw [← hcl] at ht
                  simp only [List.size_toArray] at hcs
                  have han : a ≤ n := HAN.out
                  obtain ⟨dp, c1, hr1, hd1⟩ := cutB g cap n1 (a + 1) (by have := HN1.out; omega) hnc
                  obtain ⟨sp, c2, hr2, hd2⟩ := cutB g cap n1 a (by have := HN1.out; omega) hnc
                  obtain ⟨m1, hm1⟩ : ∃ m, m = n1 - (a + 1) := ⟨_, rfl⟩
                  obtain ⟨m2, hm2⟩ : ∃ m, m = n1 - a := ⟨_, rfl⟩
                  obtain ⟨a1, ha1'⟩ : ∃ a1, a1 = a + 1 := ⟨_, rfl⟩
                  rw [← hm1, ← ha1'] at hr1
                  rw [← hm2] at hr2
                  have hwr : IntKind.i64.wrap ((a : Int) + 1) = (a1 : Int) := by rw [ha1']; exact (i64_w _).trans ((w64 (by omega) (by omega)).trans rfl)
                  have ha1z : (a1 : Int) ≤ 41 := by omega
                  obtain ⟨cs, hcsd⟩ : ∃ cs : List Value, cs = (S.drop a).map (Value.int .u64) := ⟨_, rfl⟩
                  have hcsl : cs.length = n - a := by rw [hcsd, List.length_map, List.length_drop, ← HN.out]
                  have HCN := Aside0.mk (show cs.length = Nat.min m2 m1 by rw [hcsl, hm1, hm2]; have := HN1.out; show _ = min _ _; omega)
                  have HFIT := Aside0.mk (show a1 + cs.length ≤ cl.length by have := HN1.out; omega)
                  have HONE := Aside0.mk (show ∀ v ∈ cs, v.oneCell' = true by intro v hv; rw [hcsd] at hv; obtain ⟨y, _, rfl⟩ := List.mem_map.1 hv; rfl)
                  have HH := Aside0.mk (show w1.drew.heap[g]? = some (.cells cl.toArray 23 (0, 0)) from hh)
                  have HPOS := Aside0.mk (show 0 < cs.length → dp = some ⟨g, a1, none⟩ ∧ ∃ ad, sp = some ad ∧ ∀ j v, cs[j]? = some v → w1.drew.cell? (ad.add j) = some v by
                    intro hp
                    rw [hcsl] at hp
                    refine ⟨by rw [ha1']; exact hd1 (by have := HN1.out; omega), ⟨g, a, none⟩, hd2 (by have := HN1.out; omega), fun j v hj => ?_⟩
                    have hjl := (List.getElem?_eq_some_iff.1 hj).1
                    rw [hcsl] at hjl
                    have hcell := (Kd.R_celln 0 HO.out ((a + j : Nat) : Int) (by omega) (by have := HN1.out; omega)).1
                    rw [Int.toNat_natCast] at hcell
                    rw [Addr.add_lit]
                    refine (show w1.cell? _ = _ from hcell).trans ?_
                    rw [hcsd, List.getElem?_map, List.getElem?_drop, List.getElem?_eq_getElem (by rw [← HN.out]; omega)] at hj
                    rw [← hj]
                    unfold rdOf
                    rw [Int.toNat_natCast, List.getD_eq_getElem?_getD, List.getElem?_append_left (by rw [← HN.out]; omega), List.getElem?_eq_getElem (by rw [← HN.out]; omega)]
                    rfl)
                  have HBD := Aside0.mk (show Below w.heap.size w w1.drew from HB.out.drew)
                  have HROW := Aside0.mk (show (splice cl (a + 1) cs).take n1 = ((S ++ [0]).take (a + 1) ++ S.drop a).map (Value.int .u64) by
                    have h1 := copy_row cl ((S ++ [0]).map (Value.int .u64)) cs a n (by rw [← HN1.out]; exact ht) (by rw [List.length_map, HT1.out, HN1.out]) hcsl han
                    rw [← HN1.out] at h1
                    rw [h1, hcsd, ← List.map_take, ← List.map_append])
                  have HSIZE := Aside0.mk (show (splice cl (a + 1) cs).length = cap by rw [length_splice _ _ _ (by rw [← ha1']; exact HFIT.out)]; omega)
                  have HNCC := Aside0.mk hnc
                  have HCM := Aside0.mk hcm
                  have HA1 := Aside0.mk ha1'
                  have HMK := Aside0.mk (fun (W : World) (h : W.heap[g]? = some (.cells (splice cl a1 cs).toArray 23 (0, 0))) => (show Kd.R (Kd.int .u64) 23 W w.heap.size (fun _ => True) (.slice (some ⟨g, 0, none⟩) n1 cap) ((S ++ [0]).take (a + 1) ++ S.drop a) by
                    have hl : ((S ++ [0]).take (a + 1) ++ S.drop a).length = n1 := by
                      rw [List.length_append, List.length_take, HT1.out, List.length_drop, ← HN.out]
                      have := HN1.out
                      have := HAN.out
                      omega
                    have ho : W.ownsRow w.heap.size 23 1 (.slice (some ⟨g, 0, none⟩) n1 cap) ((S ++ [0]).take (a + 1) ++ S.drop a).length (encs (Value.int .u64) ((S ++ [0]).take (a + 1) ++ S.drop a)) := by
                      rw [hl]
                      refine ⟨by rw [encs_length, hl, Nat.mul_one], .inr ⟨g, cap, (splice cl a1 cs).toArray, rfl, HGB.out, h, HNCC.out, HCM.out, by simp only [List.size_toArray]; rw [HA1.out, HSIZE.out, Nat.mul_one], ?_⟩⟩
                      rw [Nat.mul_one, HA1.out]
                      exact HROW.out
                    have hr := Kd.R_of_own (h1 := fun _ => rfl) (ok := fun _ => True) ho (fun _ _ => trivial)
                    have hl2 := hl
                    exact hr))
                  have hazn : (a : Int) < (n1 : Int) := by have := HN1.out; omega
                  have hazn2 : a < n1 := by omega
                  have HAZ := Aside0.mk hazn
                  clear hh hnc hcm hcs ht hcl hd1 hd2 hm1 hm2 ha1' hcsd hcsl han hgb
                  go_region_law (refine step_copy_splice rfl (.tmp 67) (.tmp 70) 33 33 rfl 23 Try.underlying33 (by kernel_rfl) dp sp m1 c1 m2 c2 (by simp [Act.eval, Act.put]) (by simp [Act.eval, Act.put]) g a1 cl 23 HH.out cs HCN.out HPOS.out HFIT.out HONE.out w.heap.size w HBD.out HGB.out ?_; intro w4 hg4 hb4)
                  all_goals
                    have HO4 := Aside0.mk (HMK.out w4 hg4.out)
                    have HB4 := Aside0.mk hb4
                    obtain ⟨hx4, hf4⟩ := Kd.R_celln 0 HO4.out (a : Int) (Int.natCast_nonneg _) HAZ.out
                    rw [Int.toNat_natCast] at hx4 hf4
                    obtain ⟨z4, hz4⟩ : ∃ z, z = rdOf (0 : Int) ((S ++ [0]).take (a + 1) ++ S.drop a) (a : Int) := ⟨_, rfl⟩
                    rw [← hz4] at hx4
                    have HP := (Kd.R_putg HO4.out (a : Int) X).1
                    rw [Int.toNat_natCast, ins_set S a X (by rw [← HN.out]; exact HAN.out)] at HP
                    have HPP := Aside0.mk HP
                    clear hz4 HP hg4 hb4 HO4 HO HB hr1 hr2 hwr HBD HH HPOS HCUR
                    go_wp2_with (first | ((with_reducible refine gate_store (t := 23) (p := 75) rfl ?_); refine store_event (t := 23) (p := 75) (v := ?vo_w20) (w1 := (w4.setCell ⟨g, a, none⟩ (.int .u64 X))) ?hg ?ho ?hn ?hr ?_; (case ho => rfl); (case hg => rfl); (case hn => rfl); (case hr => first | (go_simp; done) | (go_simp; rfl)); intro w20 hw; subst hw; have HB := Aside0.mk (below_set HB4.out HGB.out : Below w.heap.size w (w4.setCell ⟨g, a, none⟩ (.int .u64 X))); have HO := HPP))
                    refine ⟨⟨i + 1, S.take a ++ X :: S.drop a, by first | rfl | go_num, by have := HLT.out; omega, by have := HLT.out; omega, by rw [ins_len S a X (by rw [← HN.out]; exact HAN.out)]; have := HI.out; have := HN.out; omega, ⟨ins_ok HS.out (by rw [← HN.out]; exact HAN.out) HX.out HLO.out HHI.out⟩, HO, HB⟩, ?_⟩
                    have := HLT.out
                    simp [intOf]
                    omega
    · have hcase : (¬ (i : Int) < (len0 : Int)) ∨ ((i : Int) < (len0 : Int) ∧ ¬ (i : Int) < 40) := by omega
      have HS40 := Aside0.mk (show S.length ≤ 40 by omega)
      clear hlt hi40 hil hSi
      rcases hcase with h1 | ⟨h1, h2⟩
      · have hd1 := decide_eq_false h1
        have hd1n : decide (i < len0) = false := decide_eq_false (by omega)
        clear h1
        go_wp2
        go_ret
        exact ⟨_, S, rfl, HO.out, HS.out, HS40.out, HB.out⟩
      · have hd1 := decide_eq_true h1
        have hd1n : decide (i < len0) = true := decide_eq_true (by omega)
        have hd2 := decide_eq_false h2
        have hd2n : decide (i < 40) = false := decide_eq_false (by omega)
        clear h1 h2
        go_wp2
        go_ret
        exact ⟨_, S, rfl, HO.out, HS.out, HS40.out, HB.out⟩
end Go.Proofs.Ytobdfehpbgcloaa.GL

-- Written by wip/xprint.py, this session's wrapper round the kit's print program. Not trusted: Lean checks it.
namespace Go.Proofs.Ytobdfehpbgcloaa.XTri
open Go.RowKit Go.Proofs.Ytobdfehpbgcloaa.G Go.Proofs.YtobdfehpbgcloaaW.PrintWords Go.Proofs.YtobdfehpbgcloaaW.PrintLast Go.Proofs.YtobdfehpbgcloaaW.PrintMore
attribute [local go_sem] max2_int min2_int max_two min_two max_three min_three max_four min_four   -- for this text's walks alone
set_option linter.unusedVariables false
set_option linter.unusedSimpArgs false

/-! ### loessref6_Bits_Bytes: function 27 -/
def loessref6_Bits_Bytes.l0 : Nat → List Bool → List Int → Int → Option (List Int)
  | 0, _, _, _ => none
  | k + 1, x0, x3, x4 => if x4 < (x0.length : Int) then (if 0 ≤ x4 then (if rdOf false x0 x4 = true then (if 0 ≤ (wrap64 (Int.tdiv x4 8)) then (if (wrap64 (Int.tdiv x4 8)) < (x3.length : Int) then (if 0 ≤ (IntKind.u64.wrap (Int.tmod x4 8)) then (loessref6_Bits_Bytes.l0 k x0 (x3.set ((wrap64 (Int.tdiv x4 8)) : Int).toNat (Go.bits .or .u8 (rd x3 (wrap64 (Int.tdiv x4 8))) (shr .u8 128 (IntKind.u64.wrap (Int.tmod x4 8))))) (wrap64 (x4 + 1))) else (none)) else (none)) else (none)) else (loessref6_Bits_Bytes.l0 k x0 x3 (wrap64 (x4 + 1)))) else (none)) else (some x3)
def loessref6_Bits_Bytes.f (k : Nat) (l0 : List Bool) : Option (List Int) := if 0 ≤ (wrap64 (Int.tdiv (wrap64 ((l0.length : Int) + 7)) 8)) then (if (wrap64 (Int.tdiv (wrap64 ((l0.length : Int) + 7)) 8) : Int).toNat ≤ 281474976710656 then (loessref6_Bits_Bytes.l0 k l0 (List.replicate (wrap64 (Int.tdiv (wrap64 ((l0.length : Int) + 7)) 8) : Int).toNat 0) 0) else (none)) else (none)
theorem loessref6_Bits_Bytes.mono_l : ∀ k, (∀ y0 y1 y2, LeO (loessref6_Bits_Bytes.l0 k y0 y1 y2) (loessref6_Bits_Bytes.l0 (k + 1) y0 y1 y2))
  | 0 => fun _ _ _ r h => by simp [loessref6_Bits_Bytes.l0] at h
  | k + 1 => by
    have ih0 := loessref6_Bits_Bytes.mono_l k
    · intro y0 y1 y2
      unfold loessref6_Bits_Bytes.l0
      repeat' first
      | (with_reducible exact ih0 _ _ _)
      | (with_reducible exact LeO.refl _)
      | (with_reducible exact LeO.none _)
      | (with_reducible refine LeO.ite ?_ ?_)
      | (with_reducible refine LeO.bind ?_ (fun _ => ?_))
      | exact ih0 _ _ _
      | exact LeO.none _
      | refine LeO.ite ?_ ?_
      | refine LeO.bind ?_ (fun _ => ?_)
theorem loessref6_Bits_Bytes.mono : ∀ a0 k, LeO (loessref6_Bits_Bytes.f k a0) (loessref6_Bits_Bytes.f (k + 1) a0) := by
  intro a0 k
  have ih0 := loessref6_Bits_Bytes.mono_l k
  unfold loessref6_Bits_Bytes.f
  repeat' first
      | (with_reducible exact ih0 _ _ _)
      | (with_reducible exact LeO.refl _)
      | (with_reducible exact LeO.none _)
      | (with_reducible refine LeO.ite ?_ ?_)
      | (with_reducible refine LeO.bind ?_ (fun _ => ?_))
      | exact ih0 _ _ _
      | exact LeO.none _
      | refine LeO.ite ?_ ?_
      | refine LeO.bind ?_ (fun _ => ?_)
set_option maxHeartbeats 8000000 in
set_option maxRecDepth 100000 in
theorem loessref6_Bits_Bytes.calls (k : Nat) (A0 : Option Addr) (c0 : Nat) (l0 : List Bool) (r : List Int) (w : World) (hr0 : Kd.C Kd.bool w A0 l0.length l0) (hc0 : l0.length ≤ c0) (h : loessref6_Bits_Bytes.f k l0 = some r) :
    Calls Try.prog 27 #[.slice A0 l0.length c0] w fun e w' => ∃ v0_ : Value, e = .returned (v0_) ∧ Kd.R (Kd.int .u8) 5 w' w.heap.size (fun _ => True) v0_ r ∧ Below w.heap.size w w' := by
  have HR0 := Aside0.mk hr0
  have HC0 := Aside0.mk hc0
  clear hr0 hc0
  have HB := Aside0.mk (Below.refl w.heap.size w)
  have H : (if 0 ≤ (wrap64 (Int.tdiv (wrap64 ((l0.length : Int) + 7)) 8)) then (if (wrap64 (Int.tdiv (wrap64 ((l0.length : Int) + 7)) 8) : Int).toNat ≤ 281474976710656 then (loessref6_Bits_Bytes.l0 k l0 (List.replicate (wrap64 (Int.tdiv (wrap64 ((l0.length : Int) + 7)) 8) : Int).toNat 0) 0) else (none)) else (none)) = some r := h
  clear h
  obtain ⟨ji2, hji2⟩ : ∃ j_ : Int, (wrap64 (Int.tdiv (wrap64 ((l0.length : Int) + 7)) 8)) = j_ := ⟨_, rfl⟩
  replace H : (if 0 ≤ (ji2) then (if (ji2 : Int).toNat ≤ 281474976710656 then (loessref6_Bits_Bytes.l0 k l0 (List.replicate (ji2 : Int).toNat 0) 0) else (none)) else (none)) = some r := by first | (rw [hji2] at H; exact H) | (simp only [hji2] at H ⊢; exact H)
  have hji2w : (IntKind.i64.wrap (Int.tdiv (wrap64 ((l0.length : Int) + 7)) 8)) = ji2 := (i64_w _).trans hji2
  by_cases c3 : 0 ≤ (ji2)
  · rw [if_pos c3] at H
    have c3b0 := eq_true c3
    have c3b1 : decide (0 ≤ (ji2)) = true := decide_eq_true c3
    clear c3
    by_cases c4 : (ji2 : Int).toNat ≤ 281474976710656
    · rw [if_pos c4] at H
      have c4b0 := eq_true c4
      have c4b1 : decide ((ji2 : Int).toNat ≤ 281474976710656) = true := decide_eq_true c4
      clear c4
      obtain ⟨y179, hy179⟩ : ∃ y_ : List Int, y_ = (List.replicate (ji2 : Int).toNat 0) := ⟨_, rfl⟩
      replace H : (loessref6_Bits_Bytes.l0 k l0 y179 0) = some r := by first | (rw [hy179]; with_reducible exact H) | (have H2_ := (Option.bind_some _ _).symm.trans H; rw [hy179]; with_reducible exact H2_) | (have H2_ := (Option.bind_some _ _).symm.trans H; with_reducible exact H2_) | with_reducible exact H | (rw [hy179]; exact H) | exact H
      have Ny179 := Aside0.mk hy179
      clear hy179
      have H' := Aside0.mk H
      clear H
      go_enter Try.func27, Try.ntmps27
      go_wp2_with (first | ((with_reducible refine gate_dst (N := 9) rfl ?_); refine Kd.R_make (Kd.int .u8) _ 5 rfl (N := 9) rfl 45 _ _ rfl ji2 rfl rfl Try.underlying45 (.int .u8 0) 1 info5 rfl (by decide) (by omega) 0 (ok := fun _ => True) (okp := fun _ => True) rfl (fun _ hk => hk) trivial (of_decide_eq_true (by first | (with_reducible assumption) | assumption)) (Nat.le_trans (Nat.mul_le_mul_right _ (of_decide_eq_true (by first | (with_reducible assumption) | assumption) : ji2.toNat ≤ 281474976710656)) (by omega)) (Below.refl _ _) (Nat.le_refl _) ?_; intro v180 w5 ho6 hb hg_ hnew_; clear hg_ hnew_; (first | rw [← Ny179.out] at ho6 | (simp only [Int.reduceToNat] at ho6; rw [← Ny179.out] at ho6)); have n0_ := Aside0.mk (Kd.R_lower ho6 (below_size (by repeat (first | (with_reducible first | exact HB.out | apply below_alloc | apply pw_below_drewN | apply below_drew1) | exact HB.out)))); have n1_ := Aside0.mk (below_step (by repeat (first | (with_reducible first | exact HB.out | apply below_alloc | apply pw_below_drewN | apply below_drew1) | exact HB.out)) hb); clear HB; have HO181 := n0_; have HB := n1_; clear n0_ n1_; clear hb ho6))
      go_loopg [4] k (fun kq v4 w' => ∃ (x3_1 : List Int) (x4_1 : Int), v4 = .int .i64 x4_1 ∧ Aside0 (loessref6_Bits_Bytes.l0 kq l0 x3_1 x4_1 = some r) ∧ Aside0 (kq ≤ k) ∧ Aside0 (Kd.R (Kd.int .u8) 5 w' w.heap.size (fun _ => True) v180 x3_1) ∧ Aside0 (Below w.heap.size w w'))
      case atStart => exact ⟨(y179), (0), (by first | rfl | (simp; done) | (simp [*]; done)), H', ⟨Nat.le_refl _⟩, ⟨by (with_reducible repeat (first | apply Kd.R_alloc | apply Kd.R_drewN | apply Kd.R_drew)); exact HO181.out⟩, ⟨by repeat (first | (with_reducible first | exact HB.out | apply below_alloc | apply pw_below_drewN | apply below_drew1) | exact HB.out)⟩⟩
      case round =>
        clear H'
        try clear c2
        try clear p2
        try clear c3
        try clear c3b0
        try clear c3b1
        try clear c4
        try clear c4b0
        try clear c4b1
        try clear p6
        obtain ⟨x3_1, x4_1, rfl, HA, HK1, HO_3, HB⟩ := hrel
        cases gk with
        | zero => exact absurd HA.out (by simp [loessref6_Bits_Bytes.l0])
        | succ k1 =>
          have H := HA.out
          clear HA
          simp only [loessref6_Bits_Bytes.l0] at H
          by_cases c7 : x4_1 < (l0.length : Int)
          · rw [if_pos c7] at H
            have c7b0 : decide (x4_1 < (l0.length : Int)) = true := decide_eq_true c7
            clear c7
            by_cases c8 : 0 ≤ x4_1
            · rw [if_pos c8] at H
              have c8b0 : decide (0 ≤ x4_1) = true := decide_eq_true c8
              clear c8
              obtain ⟨bq9, hbq9⟩ : ∃ b_ : Bool, b_ = (rdOf false l0 x4_1) := ⟨_, rfl⟩
              replace H : (if bq9 = true then (if 0 ≤ (wrap64 (Int.tdiv x4_1 8)) then (if (wrap64 (Int.tdiv x4_1 8)) < (x3_1.length : Int) then (if 0 ≤ (IntKind.u64.wrap (Int.tmod x4_1 8)) then (loessref6_Bits_Bytes.l0 k1 l0 (x3_1.set ((wrap64 (Int.tdiv x4_1 8)) : Int).toNat (Go.bits .or .u8 (rd x3_1 (wrap64 (Int.tdiv x4_1 8))) (shr .u8 128 (IntKind.u64.wrap (Int.tmod x4_1 8))))) (wrap64 (x4_1 + 1))) else (none)) else (none)) else (none)) else (loessref6_Bits_Bytes.l0 k1 l0 x3_1 (wrap64 (x4_1 + 1)))) = some r := by rw [← hbq9] at H; exact H
              have Nbq9 := Aside0.mk hbq9
              clear hbq9
              by_cases c10 : bq9 = true
              · subst c10
                have H1 : (if 0 ≤ (wrap64 (Int.tdiv x4_1 8)) then (if (wrap64 (Int.tdiv x4_1 8)) < (x3_1.length : Int) then (if 0 ≤ (IntKind.u64.wrap (Int.tmod x4_1 8)) then (loessref6_Bits_Bytes.l0 k1 l0 (x3_1.set ((wrap64 (Int.tdiv x4_1 8)) : Int).toNat (Go.bits .or .u8 (rd x3_1 (wrap64 (Int.tdiv x4_1 8))) (shr .u8 128 (IntKind.u64.wrap (Int.tmod x4_1 8))))) (wrap64 (x4_1 + 1))) else (none)) else (none)) else (none)) = some r := by rw [if_pos rfl] at H; exact H
                clear H
                have H := H1
                clear H1
                obtain ⟨ji11, hji11⟩ : ∃ j_ : Int, (wrap64 (Int.tdiv x4_1 8)) = j_ := ⟨_, rfl⟩
                replace H : (if 0 ≤ (ji11) then (if (ji11) < (x3_1.length : Int) then (if 0 ≤ (IntKind.u64.wrap (Int.tmod x4_1 8)) then (loessref6_Bits_Bytes.l0 k1 l0 (x3_1.set ((ji11) : Int).toNat (Go.bits .or .u8 (rd x3_1 (ji11)) (shr .u8 128 (IntKind.u64.wrap (Int.tmod x4_1 8))))) (wrap64 (x4_1 + 1))) else (none)) else (none)) else (none)) = some r := by first | (rw [hji11] at H; exact H) | (simp only [hji11] at H ⊢; exact H)
                have hji11w : (IntKind.i64.wrap (Int.tdiv x4_1 8)) = ji11 := (i64_w _).trans hji11
                by_cases c12 : 0 ≤ (ji11)
                · rw [if_pos c12] at H
                  have c12b0 : decide (0 ≤ (ji11)) = true := decide_eq_true c12
                  clear c12
                  by_cases c13 : (ji11) < (x3_1.length : Int)
                  · rw [if_pos c13] at H
                    have c13b0 : decide ((ji11) < (x3_1.length : Int)) = true := decide_eq_true c13
                    clear c13
                    obtain ⟨ji14, hji14⟩ : ∃ j_ : Int, (IntKind.u64.wrap (Int.tmod x4_1 8)) = j_ := ⟨_, rfl⟩
                    replace H : (if 0 ≤ (ji14) then (loessref6_Bits_Bytes.l0 k1 l0 (x3_1.set ((ji11) : Int).toNat (Go.bits .or .u8 (rd x3_1 (ji11)) (shr .u8 128 (ji14)))) (wrap64 (x4_1 + 1))) else (none)) = some r := by first | (rw [hji14] at H; exact H) | (simp only [hji14] at H ⊢; exact H)
                    by_cases c15 : 0 ≤ (ji14)
                    · rw [if_pos c15] at H
                      have c15b0 := eq_true c15
                      have c15b1 : decide (0 ≤ (ji14)) = true := decide_eq_true c15
                      clear c15
                      obtain ⟨ji16, hji16⟩ : ∃ j_ : Int, (shr .u8 128 (ji14)) = j_ := ⟨_, rfl⟩
                      replace H : (loessref6_Bits_Bytes.l0 k1 l0 (x3_1.set ((ji11) : Int).toNat (Go.bits .or .u8 (rd x3_1 (ji11)) (ji16))) (wrap64 (x4_1 + 1))) = some r := by first | (rw [hji16] at H; exact H) | (simp only [hji16] at H ⊢; exact H)
                      have hji16_ : (128 / 2 ^ min (ji14).toNat 8) = ji16 := hji16
                      have hji16z : (ji14) ≤ 8 → (128 / 2 ^ (ji14).toNat) = ji16 := shr_small hji16
                      obtain ⟨y184, hy184⟩ : ∃ y_ : List Int, y_ = (x3_1.set ((ji11) : Int).toNat (Go.bits .or .u8 (rd x3_1 (ji11)) (ji16))) := ⟨_, rfl⟩
                      replace H : (loessref6_Bits_Bytes.l0 k1 l0 y184 (wrap64 (x4_1 + 1))) = some r := by first | (rw [hy184]; with_reducible exact H) | (have H2_ := (Option.bind_some _ _).symm.trans H; rw [hy184]; with_reducible exact H2_) | (have H2_ := (Option.bind_some _ _).symm.trans H; with_reducible exact H2_) | with_reducible exact H | (rw [hy184]; exact H) | exact H
                      have Ny184 := Aside0.mk hy184
                      clear hy184
                      have H' := Aside0.mk H
                      clear H
                      have p182 : 0 ≤ (x4_1 : Int) := of_decide_eq_true (by first | (with_reducible assumption) | assumption)
                      have q182 : x4_1 < (l0.length : Int) := of_decide_eq_true (by first | (with_reducible assumption) | assumption)
                      obtain ⟨ad182, e182, hx182_0⟩ := Kd.at_bool HR0.out x4_1 p182 q182
                      (try rw [← Nbq9.out] at hx182_0)
                      cases e182
                      replace hx182_0 := (HB.out.cell (World.block_lt_of_cell? w _ hx182_0)).trans hx182_0
                      replace p182 := eq_true p182
                      replace q182 := eq_true q182
                      obtain ⟨Ao18, co18, eo18⟩ := Kd.R_slice HO_3.out
                      subst eo18
                      have p183 : 0 ≤ ((ji11) : Int) := of_decide_eq_true (by first | (with_reducible assumption) | assumption)
                      have q183 : (ji11) < (x3_1.length : Int) := of_decide_eq_true (by first | (with_reducible assumption) | assumption)
                      obtain ⟨ad183, e183, hx183_0⟩ := Kd.at_int (Kd.R_reads' HO_3.out).2.2 (ji11) p183 q183
                      cases e183
                      replace p183 := eq_true p183
                      replace q183 := eq_true q183
                      have p17 : 0 ≤ ((ji11) : Int) := of_decide_eq_true (by first | (with_reducible assumption) | assumption)
                      have q17 : ((ji11) : Int) < ((x3_1.length : Int) : Int) := of_decide_eq_true (by first | (with_reducible assumption) | assumption)
                      obtain ⟨go17, co17, eo17, gb17, gl17, cl17, HG17⟩ := Kd.R_form HO_3.out (by omega)
                      (first | cases eo17 | (injection eo17 with ea_ en_ ec_; (first | subst ea_ | (injection ea_ with ea_; subst ea_)); subst ec_; clear en_))
                      have GB17 := Aside0.mk gb17
                      have GG17 := Aside0.mk HG17
                      clear gb17 gl17 HG17
                      (first | simp only [add_plain] at hx183_0 | skip)
                      obtain ⟨hx17_0, hf17_0⟩ := Kd.R_celln 0 HO_3.out ((ji11) : Int) p17 q17
                      replace p17 := eq_true p17
                      replace q17 := eq_true q17
                      have HP19 := Kd.R_putg HO_3.out ((ji11) : Int) (Go.bits .or .u8 (rd x3_1 (ji11)) (ji16))
                      go_wp2_with (first | ((with_reducible refine gate_store (t := 5) (p := 30) rfl ?_); refine store_event (t := 5) (p := 30) (v := ?vo_w20) (w1 := (wr.setCell ⟨go17, ((ji11) : Int).toNat, none⟩ (.int .u8 (Go.bits .or .u8 (rd x3_1 (ji11)) (ji16))))) ?hg ?ho ?hn ?hr ?_; (case ho => rfl); (case hg => rfl); (case hn => rfl); (case hr => first | (go_simp; done) | (go_simp; rfl)); intro w20 hw; have hg : wr.grownBy w20 (some go17) := (by rw [hw]; exact HP19.2); have hp_ : Kd.R (Kd.int .u8) 5 w20 w.heap.size (fun _ => True) (.slice (some ⟨go17, 0, none⟩) x3_1.length co18) y184 := (by rw [hw, Ny184.out]; exact HP19.1); clear HP19; have n0_ := Aside0.mk (hp_); have n1_ := Aside0.mk ((by rw [hw]; exact below_set (HB.out) GB17.out : Below w.heap.size w w20)); clear HO_3; clear HB; have HO_3 := n0_; have HB := n1_; clear n0_ n1_; clear hg hw hp_))
                      go_roundg k1
                      case measure => have := HK1.out; omega
                      case rel => exact ⟨(y184), (wrap64 (x4_1 + 1)), (by first | rfl | (simp; done) | (simp [*]; done)), H', ⟨by have := HK1.out; omega⟩, ⟨by (with_reducible repeat (first | apply Kd.R_alloc | apply Kd.R_drewN | apply Kd.R_drew)); exact HO_3.out⟩, ⟨by repeat (first | (with_reducible first | exact HB.out | apply below_alloc | apply pw_below_drewN | apply below_drew1) | exact HB.out)⟩⟩
                    · rw [if_neg c15] at H
                      exact absurd H (by simp)
                  · rw [if_neg c13] at H
                    exact absurd H (by simp)
                · rw [if_neg c12] at H
                  exact absurd H (by simp)
              · replace c10 := Bool.eq_false_iff.mpr c10
                subst c10
                have H1 : (loessref6_Bits_Bytes.l0 k1 l0 x3_1 (wrap64 (x4_1 + 1))) = some r := by rw [if_neg (show ¬ (false = true) by decide)] at H; exact H
                clear H
                have H := H1
                clear H1
                have H' := Aside0.mk H
                clear H
                have p182 : 0 ≤ (x4_1 : Int) := of_decide_eq_true (by first | (with_reducible assumption) | assumption)
                have q182 : x4_1 < (l0.length : Int) := of_decide_eq_true (by first | (with_reducible assumption) | assumption)
                obtain ⟨ad182, e182, hx182_0⟩ := Kd.at_bool HR0.out x4_1 p182 q182
                (try rw [← Nbq9.out] at hx182_0)
                cases e182
                replace hx182_0 := (HB.out.cell (World.block_lt_of_cell? w _ hx182_0)).trans hx182_0
                replace p182 := eq_true p182
                replace q182 := eq_true q182
                go_wp2
                go_roundg k1
                case measure => have := HK1.out; omega
                case rel => exact ⟨(x3_1), (wrap64 (x4_1 + 1)), (by first | rfl | (simp; done) | (simp [*]; done)), H', ⟨by have := HK1.out; omega⟩, ⟨by (with_reducible repeat (first | apply Kd.R_alloc | apply Kd.R_drewN | apply Kd.R_drew)); exact HO_3.out⟩, ⟨by repeat (first | (with_reducible first | exact HB.out | apply below_alloc | apply pw_below_drewN | apply below_drew1) | exact HB.out)⟩⟩
            · rw [if_neg c8] at H
              exact absurd H (by simp)
          · rw [if_neg c7] at H
            have c7b0 : decide (x4_1 < (l0.length : Int)) = false := decide_eq_false c7
            clear c7
            obtain rfl := Option.some.inj H
            go_wp2
            go_ret
            exact ⟨_, by first | rfl | (simp [errW_none, errW_some] <;> rfl) | (simp only [← hji2]; first | rfl | (simp [errW_none, errW_some] <;> rfl)) | (simp [*, errW_none, errW_some] <;> rfl), by (with_reducible repeat (first | apply Kd.R_alloc | apply Kd.R_drewN | apply Kd.R_drew)); exact HO_3.out, by repeat (first | (with_reducible first | exact HB.out | apply below_alloc | apply pw_below_drewN | apply below_drew1) | exact HB.out)⟩
    · rw [if_neg c4] at H
      exact absurd H (by simp)
  · rw [if_neg c3] at H
    exact absurd H (by simp)

end Go.Proofs.Ytobdfehpbgcloaa.XTri
