/- bits.PutNum and bits.Num by hand. -/
import Derived.Test.YtobdfehpbgcloaaGBitsPut
import Derived.Test.YtobdfehpbgcloaaGBitsAt
namespace Go.Proofs.Ytobdfehpbgcloaa.GL
open Go.RowKit Go.Proofs.YtobdfehpbgcloaaW.PrintWords Go.Proofs.YtobdfehpbgcloaaW.PrintLast Go.Proofs.YtobdfehpbgcloaaW.PrintMore Go.Proofs.Ytobdfehpbgcloaa.Q Go.Proofs.Ytobdfehpbgcloaa.XTri
set_option linter.unusedVariables false
set_option linter.unusedSimpArgs false
/-- A number's lowest bits, the highest one first. -/
def numBits (x : Int) : Nat → List Bool
  | 0 => []
  | n + 1 => (x / 2 ^ n % 2 == 1) :: numBits x n
theorem numBits_len (x : Int) : ∀ n, (numBits x n).length = n
  | 0 => rfl
  | n + 1 => by rw [numBits, List.length_cons, numBits_len x n]
theorem and1_u64 {c : Int} (h0 : 0 ≤ c) (h1 : c < 18446744073709551616) : Go.bits .and .u64 c 1 = c % 2 := bits_mask .u64 64 (by decide) wraps_u64 1 (by decide) c h0 (by omega)
theorem and1_shr {x : Int} (n : Nat) (h0 : 0 ≤ x) (h1 : x < 18446744073709551616) : Go.bits .and .u64 (x / 2 ^ n) 1 = x / 2 ^ n % 2 := by
  have h2 : 0 ≤ x / 2 ^ n := Int.ediv_nonneg h0 (Int.le_of_lt (Int.pow_pos (by decide)))
  have h3 : x / 2 ^ n ≤ x := Int.ediv_le_self _ h0
  exact and1_u64 h2 (by omega)
def NumPost (base : Nat) (w : World) (p : Nat) (M : List Bool) (e : Ending) (w' : World) : Prop := e = .returned (.tuple #[]) ∧ BO base w' p M ∧ Below base w w' ∧ KeepT w w'
set_option maxRecDepth 1000000 in
set_option maxHeartbeats 8000000 in
theorem bits_PutNum_in {base : Nat} {w : World} {p : Nat} {L : List Bool} (x : Int) (n : Nat) (h : BO base w p L) (hb : base ≤ w.heap.size) (hl : L.length < 100000000000) (hn : n ≤ 64) (hx0 : 0 ≤ x) (hx1 : x < 18446744073709551616) :
    Calls Try.prog 37 #[.pointer (some ⟨p, 0, none⟩), .int .u64 x, .int .i64 n] w (NumPost base w p (L ++ numBits x n)) := by
  have HO := Aside0.mk h
  have HBASE := Aside0.mk hb
  have HL := Aside0.mk hl
  have HB := Aside0.mk (Below.refl base w)
  have HK := Aside0.mk (KeepT.refl w)
  clear h hb hl
  have hn1 : decide ((n : Int) < 0) = false := decide_eq_false (by omega)
  have hn2 : decide ((64 : Int) < (n : Int)) = false := decide_eq_false (by omega)
  go_enter Try.func37, Try.ntmps37
  go_wp2
  go_loopw [6] (fun v6 wr => ∃ (k : Nat) (D : List Bool), v6 = .int .i64 ((k : Int) - 1) ∧ k ≤ n ∧ Aside0 (numBits x n = D ++ numBits x k) ∧ Aside0 (BO base wr p (L ++ D)) ∧ Aside0 (Below base w wr) ∧ Aside0 (KeepT w wr)) (fun v _ => (intOf v + 1).toNat)
  case atStart => exact ⟨n, [], by first | rfl | go_num, Nat.le_refl _, ⟨rfl⟩, ⟨by rw [List.append_nil]; exact HO.out⟩, HB, HK⟩
  case round =>
    clear HO HB HK
    obtain ⟨k, D, rfl, hk, HD, HO, HB, HK⟩ := hrel
    cases k with
    | zero =>
      have h1 : decide ((0 : Int) ≤ ((0 : Nat) : Int) - 1) = false := rfl
      go_wp2
      go_end0
      refine ⟨rfl, ?_, HB.out, HK.out⟩
      rw [HD.out, numBits, List.append_nil]
      exact HO.out
    | succ k =>
      have h0 : ((k + 1 : Nat) : Int) - 1 = (k : Int) := by omega
      rw [h0]
      clear h0
      have hlen := Aside0.mk (show (L ++ D).length < 1000000000000 by
        have h1 := HL.out
        have h2 := congrArg List.length HD.out
        rw [numBits_len, List.length_append, numBits_len] at h2
        rw [List.length_append]
        omega)
      have hand := and1_shr k hx0 hx1
      go_wp2_with (first | (go_at_call 19; refine (bits_Put _ HO.out (Nat.le_trans HBASE.out HB.out.size) hlen.out).mono ?_; rintro e w2 ⟨rfl, hO, hb, hkk⟩))
      refine ⟨⟨k, D ++ [x / 2 ^ k % 2 == 1], rfl, Nat.le_of_succ_le hk, ⟨by rw [HD.out, numBits, List.append_assoc]; rfl⟩, ⟨by rw [← List.append_assoc]; exact hO⟩, ⟨HB.out.trans hb⟩, ⟨HK.out.trans hkk⟩⟩, ?_⟩
      simp [intOf]
/-- Numbers of no length, or of too great a one, put nothing. -/
theorem bits_PutNum_no {w : World} {P : Option Addr} (x n : Int) (hn : n < 0 ∨ 64 < n) :
    Calls Try.prog 37 #[.pointer P, .int .u64 x, .int .i64 n] w fun e w' => e = .returned (.tuple #[]) ∧ w = w' := by
  by_cases h0 : n < 0
  · have h1 := decide_eq_true h0
    clear hn
    go_enter Try.func37, Try.ntmps37
    go_wp2
    refine bodyPost_ret (results_none rfl _ _ _) rfl ?_
    exact ⟨rfl, rfl⟩
  · have h1 := decide_eq_false h0
    have h2 : decide (64 < n) = true := decide_eq_true (by omega)
    clear hn
    go_enter Try.func37, Try.ntmps37
    go_wp2
    refine bodyPost_ret (results_none rfl _ _ _) rfl ?_
    exact ⟨rfl, rfl⟩
set_option maxRecDepth 1000000 in
set_option maxHeartbeats 8000000 in
theorem bits_PutNum_nil {w : World} (x : Int) (n : Nat) (hn : n ≤ 64) (hx0 : 0 ≤ x) (hx1 : x < 18446744073709551616) :
    Calls Try.prog 37 #[.pointer none, .int .u64 x, .int .i64 n] w fun e w' => e = .returned (.tuple #[]) ∧ w = w' := by
  have hn1 : decide ((n : Int) < 0) = false := decide_eq_false (by omega)
  have hn2 : decide ((64 : Int) < (n : Int)) = false := decide_eq_false (by omega)
  go_enter Try.func37, Try.ntmps37
  go_wp2
  go_loopw [6] (fun v6 wr => ∃ (k : Nat), v6 = .int .i64 ((k : Int) - 1) ∧ k ≤ n ∧ w = wr) (fun v _ => (intOf v + 1).toNat)
  case atStart => exact ⟨n, by first | rfl | go_num, Nat.le_refl _, rfl⟩
  case round =>
    obtain ⟨k, rfl, hk, rfl⟩ := hrel
    cases k with
    | zero =>
      have h1 : decide ((0 : Int) ≤ ((0 : Nat) : Int) - 1) = false := rfl
      go_wp2
      go_end0
      exact ⟨rfl, rfl⟩
    | succ k =>
      have h0 : ((k + 1 : Nat) : Int) - 1 = (k : Int) := by omega
      rw [h0]
      clear h0
      have hand := and1_shr k hx0 hx1
      go_wp2_with (first | (go_at_call 19; refine (bits_Put_nil _ _).mono ?_; rintro e w2 ⟨rfl, rfl⟩))
      refine ⟨⟨k, rfl, Nat.le_of_succ_le hk, trivial⟩, ?_⟩
      simp [intOf]
/-- Bits as a number. -/
def numOf (L : List Bool) : Int := L.foldl (fun a b => 2 * a + if b = true then 1 else 0) 0
theorem numOf_snoc (L : List Bool) (b : Bool) : numOf (L ++ [b]) = 2 * numOf L + if b = true then 1 else 0 := by simp [numOf]
theorem numOf_bd : ∀ (n : Nat) (L : List Bool), L.length = n → 0 ≤ numOf L ∧ numOf L < 2 ^ n := by
  intro n
  induction n with
  | zero => intro L h; rw [List.length_eq_zero_iff.1 h]; simp [numOf]
  | succ n ih =>
    intro L h
    have hne : L ≠ [] := by intro e; rw [e] at h; cases h
    rw [← List.dropLast_concat_getLast hne, numOf_snoc]
    obtain ⟨h0, h1⟩ := ih L.dropLast (by rw [List.length_dropLast]; omega)
    rw [Int.pow_succ]
    split <;> omega
/-- bits.Num. -/
def numAt (L : List Bool) (at_ n : Int) : Option Int := if 0 ≤ n ∧ n ≤ 64 ∧ 0 ≤ at_ ∧ at_ + n ≤ L.length then some (numOf ((L.drop at_.toNat).take n.toNat)) else none
theorem or1_u64 {c : Int} (h0 : 0 ≤ c) (h1 : c < 18446744073709551616) (h2 : c % 2 = 0) : Go.bits .or .u64 c 1 = c + 1 :=
  bits_join .u64 64 (by decide) wraps_u64 1 c 1 h0 h2 h1 (by decide) (by decide) (by decide)
set_option maxRecDepth 1000000 in
set_option maxHeartbeats 8000000 in
theorem bits_Num_in {w : World} {P : Option Addr} {L : List Bool} (i n : Nat) (h : BitsP w P L) (hl : L.length < 100000000000) (hn : n ≤ 64) (hi : i + n ≤ L.length) :
    Calls Try.prog 35 #[.pointer P, .int .i64 i, .int .i64 n] w fun e w' => e = .returned (.tuple #[.int .u64 (numOf ((L.drop i).take n)), .bool true]) ∧ w = w' := by
  have HL := Aside0.mk h
  have HLL := Aside0.mk (show L.length < 1000000000000 by omega)
  have HI := Aside0.mk hi
  have hn1 : decide ((n : Int) < 0) = false := decide_eq_false (by omega)
  have hn2 : decide ((64 : Int) < (n : Int)) = false := decide_eq_false (by omega)
  have hi1 : decide ((i : Int) < 0) = false := decide_eq_false (by omega)
  have hi2 : decide ((L.length : Int) - (n : Int) < (i : Int)) = false := decide_eq_false (by omega)
  have hil : (i : Int) < 100000000000 := by omega
  have hll : (L.length : Int) < 100000000000 := by omega
  clear h hl hi
  go_enter Try.func35, Try.ntmps35
  go_wp2_with (first | (go_at_call 15; refine (bits_Len HL.out).mono ?_; rintro e w' ⟨rfl, rfl⟩))
  go_loop [8, 29] (fun v8 v29 => ∃ (k : Nat), v29 = .int .i64 k ∧ v8 = .int .u64 (numOf ((L.drop i).take k)) ∧ k ≤ n) (fun _ v => n - (intOf v).toNat)
  case atStart => exact ⟨0, by first | rfl | go_num, by first | rfl | simp [numOf], Nat.zero_le _⟩
  case round =>
    obtain ⟨k, rfl, rfl, hk⟩ := hrel
    obtain ⟨x, hx⟩ : ∃ x, x = numOf ((L.drop i).take k) := ⟨_, rfl⟩
    rw [← hx]
    by_cases hlt : k < n
    · have hbd := numOf_bd k ((L.drop i).take k) (by rw [List.length_take, List.length_drop]; have := HI.out; omega)
      rw [← hx] at hbd
      have h2p : (2 : Int) ^ k ≤ 2 ^ 63 := by have := Nat.pow_le_pow_right (n := 2) (by decide) (show k ≤ 63 by omega); exact_mod_cast this
      have e63 : (2 : Int) ^ 63 = 9223372036854775808 := rfl
      have hx0 : 0 ≤ x := hbd.1
      have hx1 : x * 2 < 18446744073709551616 := by omega
      have hat : atB L ((i : Int) + (k : Int)) = L.getD (i + k) false := by
        unfold atB
        rw [decide_eq_true (by omega), Bool.true_and]
        congr 1
      have HS := Aside0.mk (show numOf ((L.drop i).take (k + 1)) = 2 * x + if L.getD (i + k) false = true then 1 else 0 by
        have hkl : k < (L.drop i).length := by rw [List.length_drop]; have := HI.out; omega
        rw [List.take_succ_eq_append_getElem hkl, numOf_snoc, ← hx]
        congr 2
        rw [List.getElem_drop, List.getD_eq_getElem?_getD, List.getElem?_eq_getElem (by have := HI.out; omega)]
        rfl)
      clear hbd h2p e63
      have HX := Aside0.mk hx
      clear hx
      by_cases hb : L.getD (i + k) false = true
      · rw [hb] at hat HS
        clear hb
        go_wp2_with (first | (go_at_call 28; refine (bits_At _ HL.out HLL.out).mono ?_; rw [hat]; rintro e w' ⟨rfl, rfl⟩))
        go_round
        case rel =>
          refine ⟨k + 1, by go_num, ?_, by omega⟩
          rw [HS.out, or1_u64 (by omega) hx1 (by omega)]
          simp only [if_true]
          rw [Int.mul_comm]
        case measure => simp [intOf]; omega
      · have hb := Bool.eq_false_iff.2 hb
        rw [hb] at hat HS
        clear hb
        go_wp2_with (first | (go_at_call 28; refine (bits_At _ HL.out HLL.out).mono ?_; rw [hat]; rintro e w' ⟨rfl, rfl⟩))
        go_round
        case rel =>
          refine ⟨k + 1, by go_num, ?_, by omega⟩
          rw [HS.out]
          simp only [Bool.false_eq_true, if_false, Int.add_zero]
          rw [Int.mul_comm]
        case measure => simp [intOf]; omega
    · obtain rfl : k = n := by omega
      go_wp2
      go_ret2
      exact ⟨rfl, rfl⟩
set_option maxRecDepth 1000000 in
set_option maxHeartbeats 8000000 in
theorem bits_Num_out {w : World} {P : Option Addr} {L : List Bool} (i n : Int) (h : BitsP w P L) (hl : L.length < 100000000000) (hbad : ¬ (0 ≤ n ∧ n ≤ 64 ∧ 0 ≤ i ∧ i + n ≤ L.length)) :
    Calls Try.prog 35 #[.pointer P, .int .i64 i, .int .i64 n] w fun e w' => e = .returned (.tuple #[.int .u64 0, .bool false]) ∧ w = w' := by
  have HL := Aside0.mk h
  by_cases h0 : n < 0
  · have h1 := decide_eq_true h0
    clear hbad h hl
    go_enter Try.func35, Try.ntmps35
    go_wp2
    go_ret2
    exact ⟨rfl, rfl⟩
  · have h1 := decide_eq_false h0
    by_cases h2 : 64 < n
    · have h3 := decide_eq_true h2
      clear hbad h hl
      go_enter Try.func35, Try.ntmps35
      go_wp2
      go_ret2
      exact ⟨rfl, rfl⟩
    · have h3 := decide_eq_false h2
      by_cases h4 : i < 0
      · have h5 := decide_eq_true h4
        clear hbad h hl
        go_enter Try.func35, Try.ntmps35
        go_wp2
        go_ret2
        exact ⟨rfl, rfl⟩
      · have h5 := decide_eq_false h4
        have h6 : decide ((L.length : Int) - n < i) = true := decide_eq_true (by omega)
        have hll : (L.length : Int) < 100000000000 := by omega
        have hn0 : 0 ≤ n := by omega
        have hn6 : n ≤ 64 := by omega
        clear hbad h hl h0 h2 h4
        go_enter Try.func35, Try.ntmps35
        go_wp2_with (first | (go_at_call 15; refine (bits_Len HL.out).mono ?_; rintro e w' ⟨rfl, rfl⟩))
        go_ret2
        exact ⟨rfl, rfl⟩
def numR (o : Option Int) : Value := .tuple #[.int .u64 (o.getD 0), .bool o.isSome]
theorem bits_Num {w : World} {P : Option Addr} {L : List Bool} (i n : Int) (h : BitsP w P L) (hl : L.length < 100000000000) :
    Calls Try.prog 35 #[.pointer P, .int .i64 i, .int .i64 n] w fun e w' => e = .returned (numR (numAt L i n)) ∧ w = w' := by
  by_cases hg : 0 ≤ n ∧ n ≤ 64 ∧ 0 ≤ i ∧ i + n ≤ L.length
  · have e : numAt L i n = some (numOf ((L.drop i.toNat).take n.toNat)) := if_pos hg
    rw [e]
    obtain ⟨i, rfl⟩ := Int.eq_ofNat_of_zero_le hg.2.2.1
    obtain ⟨n, rfl⟩ := Int.eq_ofNat_of_zero_le hg.1
    exact bits_Num_in i n h hl (by omega) (by omega)
  · have e : numAt L i n = none := if_neg hg
    rw [e]
    exact bits_Num_out i n h hl hg
end Go.Proofs.Ytobdfehpbgcloaa.GL
