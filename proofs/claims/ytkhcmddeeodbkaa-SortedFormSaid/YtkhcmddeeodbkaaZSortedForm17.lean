import Derived.Test.YtkhcmddeeodbkaaZSortedForm16
-- Own texts and, of the words that the kit's print program wrote for this claim, those that are needed here: put together by wip/prune.py.
set_option linter.unusedSimpArgs false
set_option linter.unusedVariables false
namespace Go.Proofs.Ytkhcmddeeodbkaa.GL
open Go.RowKit Go.Proofs.YtkhcmddeeodbkaaW.PrintWords Go.Proofs.YtkhcmddeeodbkaaW.PrintLast Go.Proofs.YtkhcmddeeodbkaaW.PrintMore Go.Proofs.Ytkhcmddeeodbkaa.Q Go.Proofs.Ytkhcmddeeodbkaa.XSor
def numBits (x : Int) : Nat → List Bool
  | 0 => []
  | n + 1 => (x / 2 ^ n % 2 == 1) :: numBits x n
theorem numBits_len (x : Int) : ∀ n, (numBits x n).length = n
  | 0 => rfl
  | n + 1 => by rw [numBits, List.length_cons, numBits_len x n]
theorem and1_u64 {c : Int} (h0 : 0 ≤ c) (h1 : c < 18446744073709551616) : Go.bits .and .u64 c 1 = c % 2 := bits_mask .u64 64 (by decide) wraps_u64 1 (by decide) c h0 (by omega)
theorem and1_shr {x : Int} (n : Nat) (h0 : 0 ≤ x) (h1 : x < 18446744073709551616) : Go.bits .and .u64 (x / 2 ^ n) 1 = x / 2 ^ n % 2 := by
  have h2 : 0 ≤ x / 2 ^ n := Int.ediv_nonneg h0 (Int.le_of_lt (Int.pow_pos (by decide)))
  have h3 : x / 2 ^ n ≤ x := Int.ediv_le_self _ h0
  exact and1_u64 h2 (by omega)
def NumPost (base : Nat) (w : World) (p : Nat) (M : List Bool) (e : Ending) (w' : World) : Prop := e = .returned (.tuple #[]) ∧ BO base w' p M ∧ Below base w w' ∧ KeepT w w'
set_option maxRecDepth 1000000 in
set_option maxHeartbeats 8000000 in
theorem bits_PutNum_in {base : Nat} {w : World} {p : Nat} {L : List Bool} (x : Int) (n : Nat) (h : BO base w p L) (hb : base ≤ w.heap.size) (hl : L.length < 100000000000) (hn : n ≤ 64) (hx0 : 0 ≤ x) (hx1 : x < 18446744073709551616) :
    Calls Try.prog 84 #[.pointer (some ⟨p, 0, none⟩), .int .u64 x, .int .i64 n] w (NumPost base w p (L ++ numBits x n)) := by
  have HO := Aside0.mk h
  have HBASE := Aside0.mk hb
  have HL := Aside0.mk hl
  have HB := Aside0.mk (Below.refl base w)
  have HK := Aside0.mk (KeepT.refl w)
  clear h hb hl
  have hn1 : decide ((n : Int) < 0) = false := decide_eq_false (by omega)
  have hn2 : decide ((64 : Int) < (n : Int)) = false := decide_eq_false (by omega)
  go_enter Try.func84, Try.ntmps84
  go_wp2
  go_loopw [6] (fun v6 wr => ∃ (k : Nat) (D : List Bool), v6 = .int .i64 ((k : Int) - 1) ∧ k ≤ n ∧ Aside0 (numBits x n = D ++ numBits x k) ∧ Aside0 (BO base wr p (L ++ D)) ∧ Aside0 (Below base w wr) ∧ Aside0 (KeepT w wr)) (fun v _ => (intOf v + 1).toNat)
  case atStart => exact ⟨n, [], by first | rfl | go_num, Nat.le_refl _, ⟨rfl⟩, ⟨by rw [List.append_nil]; exact HO.out⟩, HB, HK⟩
  case round =>
    clear HO HB HK
    obtain ⟨k, D, rfl, hk, HD, HO, HB, HK⟩ := hrel
    cases k with
    | zero =>
      have h1 : decide ((0 : Int) ≤ ((0 : Nat) : Int) - 1) = false := rfl
      go_wp2
      go_end0
      refine ⟨rfl, ?_, HB.out, HK.out⟩
      rw [HD.out, numBits, List.append_nil]
      exact HO.out
    | succ k =>
      have h0 : ((k + 1 : Nat) : Int) - 1 = (k : Int) := by omega
      rw [h0]
      clear h0
      have hlen := Aside0.mk (show (L ++ D).length < 1000000000000 by
        have h1 := HL.out
        have h2 := congrArg List.length HD.out
        rw [numBits_len, List.length_append, numBits_len] at h2
        rw [List.length_append]
        omega)
      have hand := and1_shr k hx0 hx1
      go_wp2_with (first | (go_at_call 89; refine (bits_Put _ HO.out (Nat.le_trans HBASE.out HB.out.size) hlen.out).mono ?_; rintro e w2 ⟨rfl, hO, hb, hkk⟩))
      refine ⟨⟨k, D ++ [x / 2 ^ k % 2 == 1], rfl, Nat.le_of_succ_le hk, ⟨by rw [HD.out, numBits, List.append_assoc]; rfl⟩, ⟨by rw [← List.append_assoc]; exact hO⟩, ⟨HB.out.trans hb⟩, ⟨HK.out.trans hkk⟩⟩, ?_⟩
      simp [intOf]
def numOf (L : List Bool) : Int := L.foldl (fun a b => 2 * a + if b = true then 1 else 0) 0
theorem numOf_snoc (L : List Bool) (b : Bool) : numOf (L ++ [b]) = 2 * numOf L + if b = true then 1 else 0 := by simp [numOf]
theorem numOf_bd : ∀ (n : Nat) (L : List Bool), L.length = n → 0 ≤ numOf L ∧ numOf L < 2 ^ n := by
  intro n
  induction n with
  | zero => intro L h; rw [List.length_eq_zero_iff.1 h]; simp [numOf]
  | succ n ih =>
    intro L h
    have hne : L ≠ [] := by intro e; rw [e] at h; cases h
    rw [← List.dropLast_concat_getLast hne, numOf_snoc]
    obtain ⟨h0, h1⟩ := ih L.dropLast (by rw [List.length_dropLast]; omega)
    rw [Int.pow_succ]
    split <;> omega
def numAt (L : List Bool) (at_ n : Int) : Option Int := if 0 ≤ n ∧ n ≤ 64 ∧ 0 ≤ at_ ∧ at_ + n ≤ L.length then some (numOf ((L.drop at_.toNat).take n.toNat)) else none
theorem or1_u64 {c : Int} (h0 : 0 ≤ c) (h1 : c < 18446744073709551616) (h2 : c % 2 = 0) : Go.bits .or .u64 c 1 = c + 1 :=
  bits_join .u64 64 (by decide) wraps_u64 1 c 1 h0 h2 h1 (by decide) (by decide) (by decide)
set_option maxRecDepth 1000000 in
set_option maxHeartbeats 8000000 in
theorem bits_Num_in {w : World} {P : Option Addr} {L : List Bool} (i n : Nat) (h : BitsP w P L) (hl : L.length < 100000000000) (hn : n ≤ 64) (hi : i + n ≤ L.length) :
    Calls Try.prog 92 #[.pointer P, .int .i64 i, .int .i64 n] w fun e w' => e = .returned (.tuple #[.int .u64 (numOf ((L.drop i).take n)), .bool true]) ∧ w = w' := by
  have HL := Aside0.mk h
  have HLL := Aside0.mk (show L.length < 1000000000000 by omega)
  have HI := Aside0.mk hi
  have hn1 : decide ((n : Int) < 0) = false := decide_eq_false (by omega)
  have hn2 : decide ((64 : Int) < (n : Int)) = false := decide_eq_false (by omega)
  have hi1 : decide ((i : Int) < 0) = false := decide_eq_false (by omega)
  have hi2 : decide ((L.length : Int) - (n : Int) < (i : Int)) = false := decide_eq_false (by omega)
  have hil : (i : Int) < 100000000000 := by omega
  have hll : (L.length : Int) < 100000000000 := by omega
  clear h hl hi
  go_enter Try.func92, Try.ntmps92
  go_wp2_with (first | (go_at_call 90; refine (bits_Len HL.out).mono ?_; rintro e w' ⟨rfl, rfl⟩))
  go_loop [8, 29] (fun v8 v29 => ∃ (k : Nat), v29 = .int .i64 k ∧ v8 = .int .u64 (numOf ((L.drop i).take k)) ∧ k ≤ n) (fun _ v => n - (intOf v).toNat)
  case atStart => exact ⟨0, by first | rfl | go_num, by first | rfl | simp [numOf], Nat.zero_le _⟩
  case round =>
    obtain ⟨k, rfl, rfl, hk⟩ := hrel
    obtain ⟨x, hx⟩ : ∃ x, x = numOf ((L.drop i).take k) := ⟨_, rfl⟩
    rw [← hx]
    by_cases hlt : k < n
    · have hbd := numOf_bd k ((L.drop i).take k) (by rw [List.length_take, List.length_drop]; have := HI.out; omega)
      rw [← hx] at hbd
      have h2p : (2 : Int) ^ k ≤ 2 ^ 63 := by have := Nat.pow_le_pow_right (n := 2) (by decide) (show k ≤ 63 by omega); exact_mod_cast this
      have e63 : (2 : Int) ^ 63 = 9223372036854775808 := rfl
      have hx0 : 0 ≤ x := hbd.1
      have hx1 : x * 2 < 18446744073709551616 := by omega
      have hat : atB L ((i : Int) + (k : Int)) = L.getD (i + k) false := by
        unfold atB
        rw [decide_eq_true (by omega), Bool.true_and]
        congr 1
      have HS := Aside0.mk (show numOf ((L.drop i).take (k + 1)) = 2 * x + if L.getD (i + k) false = true then 1 else 0 by
        have hkl : k < (L.drop i).length := by rw [List.length_drop]; have := HI.out; omega
        rw [List.take_succ_eq_append_getElem hkl, numOf_snoc, ← hx]
        congr 2
        rw [List.getElem_drop, List.getD_eq_getElem?_getD, List.getElem?_eq_getElem (by have := HI.out; omega)]
        rfl)
      clear hbd h2p e63
      have HX := Aside0.mk hx
      clear hx
      by_cases hb : L.getD (i + k) false = true
      · rw [hb] at hat HS
        clear hb
        go_wp2_with (first | (go_at_call 91; refine (bits_At _ HL.out HLL.out).mono ?_; rw [hat]; rintro e w' ⟨rfl, rfl⟩))
        go_round
        case rel =>
          refine ⟨k + 1, by go_num, ?_, by omega⟩
          rw [HS.out, or1_u64 (by omega) hx1 (by omega)]
          simp only [if_true]
          rw [Int.mul_comm]
        case measure => simp [intOf]; omega
      · have hb := Bool.eq_false_iff.2 hb
        rw [hb] at hat HS
        clear hb
        go_wp2_with (first | (go_at_call 91; refine (bits_At _ HL.out HLL.out).mono ?_; rw [hat]; rintro e w' ⟨rfl, rfl⟩))
        go_round
        case rel =>
          refine ⟨k + 1, by go_num, ?_, by omega⟩
          rw [HS.out]
          simp only [Bool.false_eq_true, if_false, Int.add_zero]
          rw [Int.mul_comm]
        case measure => simp [intOf]; omega
    · obtain rfl : k = n := by omega
      go_wp2
      go_ret2
      exact ⟨rfl, rfl⟩
set_option maxRecDepth 1000000 in
set_option maxHeartbeats 8000000 in
theorem bits_Num_out {w : World} {P : Option Addr} {L : List Bool} (i n : Int) (h : BitsP w P L) (hl : L.length < 100000000000) (hbad : ¬ (0 ≤ n ∧ n ≤ 64 ∧ 0 ≤ i ∧ i + n ≤ L.length)) :
    Calls Try.prog 92 #[.pointer P, .int .i64 i, .int .i64 n] w fun e w' => e = .returned (.tuple #[.int .u64 0, .bool false]) ∧ w = w' := by
  have HL := Aside0.mk h
  by_cases h0 : n < 0
  · have h1 := decide_eq_true h0
    clear hbad h hl
    go_enter Try.func92, Try.ntmps92
    go_wp2
    go_ret2
    exact ⟨rfl, rfl⟩
  · have h1 := decide_eq_false h0
    by_cases h2 : 64 < n
    · have h3 := decide_eq_true h2
      clear hbad h hl
      go_enter Try.func92, Try.ntmps92
      go_wp2
      go_ret2
      exact ⟨rfl, rfl⟩
    · have h3 := decide_eq_false h2
      by_cases h4 : i < 0
      · have h5 := decide_eq_true h4
        clear hbad h hl
        go_enter Try.func92, Try.ntmps92
        go_wp2
        go_ret2
        exact ⟨rfl, rfl⟩
      · have h5 := decide_eq_false h4
        have h6 : decide ((L.length : Int) - n < i) = true := decide_eq_true (by omega)
        have hll : (L.length : Int) < 100000000000 := by omega
        have hn0 : 0 ≤ n := by omega
        have hn6 : n ≤ 64 := by omega
        clear hbad h hl h0 h2 h4
        go_enter Try.func92, Try.ntmps92
        go_wp2_with (first | (go_at_call 90; refine (bits_Len HL.out).mono ?_; rintro e w' ⟨rfl, rfl⟩))
        go_ret2
        exact ⟨rfl, rfl⟩
def numR (o : Option Int) : Value := .tuple #[.int .u64 (o.getD 0), .bool o.isSome]
theorem bits_Num {w : World} {P : Option Addr} {L : List Bool} (i n : Int) (h : BitsP w P L) (hl : L.length < 100000000000) :
    Calls Try.prog 92 #[.pointer P, .int .i64 i, .int .i64 n] w fun e w' => e = .returned (numR (numAt L i n)) ∧ w = w' := by
  by_cases hg : 0 ≤ n ∧ n ≤ 64 ∧ 0 ≤ i ∧ i + n ≤ L.length
  · have e : numAt L i n = some (numOf ((L.drop i.toNat).take n.toNat)) := if_pos hg
    rw [e]
    obtain ⟨i, rfl⟩ := Int.eq_ofNat_of_zero_le hg.2.2.1
    obtain ⟨n, rfl⟩ := Int.eq_ofNat_of_zero_le hg.1
    exact bits_Num_in i n h hl (by omega) (by omega)
  · have e : numAt L i n = none := if_neg hg
    rw [e]
    exact bits_Num_out i n h hl hg
end Go.Proofs.Ytkhcmddeeodbkaa.GL
namespace Go.Proofs.Ytkhcmddeeodbkaa.XSor
open Go.RowKit Go.Proofs.Ytkhcmddeeodbkaa.G Go.Proofs.YtkhcmddeeodbkaaW.PrintWords Go.Proofs.YtkhcmddeeodbkaaW.PrintLast Go.Proofs.YtkhcmddeeodbkaaW.PrintMore
attribute [local go_sem] max2_int min2_int max_two min_two max_three min_three max_four min_four
def bytes_Equal.f (l0 : List Int) (l1 : List Int) : Option (Bool) := some ((strOfNums l0).toList == (strOfNums l1).toList)
set_option maxHeartbeats 8000000 in
set_option maxRecDepth 100000 in
theorem bytes_Equal.calls (A0 : Option Addr) (c0 : Nat) (l0 : List Int) (A1 : Option Addr) (c1 : Nat) (l1 : List Int) (r : Bool) (w : World) (hr0 : Kd.C (Kd.int .u8) w A0 l0.length l0) (hc0 : l0.length ≤ c0) (hr1 : Kd.C (Kd.int .u8) w A1 l1.length l1) (hc1 : l1.length ≤ c1) (h : bytes_Equal.f l0 l1 = some r) :
    Calls Try.prog 50 #[.slice A0 l0.length c0, .slice A1 l1.length c1] w fun e w' => e = .returned (.bool r) ∧ Drawn0 w w' := by
  have HR0 := Aside0.mk hr0
  have HC0 := Aside0.mk hc0
  clear hr0 hc0
  have HR1 := Aside0.mk hr1
  have HC1 := Aside0.mk hc1
  clear hr1 hc1
  have H : (some ((strOfNums l0).toList == (strOfNums l1).toList)) = some r := h
  clear h
  obtain rfl := Option.some.inj H
  have hcv3 := Kd.C_string (P := Try.prog) (A := A0) (c := c0) Try.underlying40 Try.underlying5 Try.underlying9 HR0.out
  have hcvz3 := fun m_ : Nat => Kd.C_string (P := Try.prog) (A := A0) (c := c0) Try.underlying40 Try.underlying5 Try.underlying9 (Kd.C_drewN HR0.out m_)
  have hcv4 := Kd.C_string (P := Try.prog) (A := A1) (c := c1) Try.underlying40 Try.underlying5 Try.underlying9 HR1.out
  have hcvz4 := fun m_ : Nat => Kd.C_string (P := Try.prog) (A := A1) (c := c1) Try.underlying40 Try.underlying5 Try.underlying9 (Kd.C_drewN HR1.out m_)
  go_enter Try.func50, Try.ntmps50
  go_wp2
  go_ret
  exact ⟨by first | rfl | (simp; done) | (simp [*]; done), by repeat (first | exact Drawn0.refl _ | apply Drawn0.step)⟩
end Go.Proofs.Ytkhcmddeeodbkaa.XSor
namespace Go.Proofs.Ytkhcmddeeodbkaa.GL
open Go.RowKit Go.Proofs.YtkhcmddeeodbkaaW.PrintWords Go.Proofs.YtkhcmddeeodbkaaW.PrintLast Go.Proofs.YtkhcmddeeodbkaaW.PrintMore Go.Proofs.Ytkhcmddeeodbkaa.Q Go.Proofs.Ytkhcmddeeodbkaa.XSor
theorem BO.new {base : Nat} {w : World} {p : Nat} (h : w.heap[p]? = some (.cells #[.slice none 0 0, .int .i64 0] 101 (0, 0))) (hp : base ≤ p) : BO base w p [] := ⟨_, h, hp, Kd.R_nil _ _ _ _ _⟩
end Go.Proofs.Ytkhcmddeeodbkaa.GL
namespace Go.Proofs.Ytkhcmddeeodbkaa.GL
open Go.RowKit Go.Proofs.YtkhcmddeeodbkaaW.PrintWords Go.Proofs.YtkhcmddeeodbkaaW.PrintLast Go.Proofs.YtkhcmddeeodbkaaW.PrintMore Go.Proofs.Ytkhcmddeeodbkaa.Q Go.Proofs.Ytkhcmddeeodbkaa.XSor Go.Proofs.Ytkhcmddeeodbkaa.G
def zeros : List Bool → Nat → Nat
  | _, 0 => 0
  | [], _ => 0
  | b :: r, m + 1 => if b = true then 0 else zeros r m + 1
theorem zeros_spec : ∀ (l : List Bool) (m : Nat), zeros l m ≤ m ∧ zeros l m ≤ l.length ∧ (∀ k, k < zeros l m → l.getD k false = false) ∧ (zeros l m < m → zeros l m < l.length → l.getD (zeros l m) false = true) := by
  intro l
  induction l with
  | nil => intro m; cases m <;> simp [zeros]
  | cons b r ih =>
    intro m
    cases m with
    | zero => simp [zeros]
    | succ m =>
      obtain ⟨h1, h2, h3, h4⟩ := ih m
      cases b
      · simp only [zeros, Bool.false_eq_true, if_false, List.length_cons]
        refine ⟨by omega, by omega, fun k hk => ?_, fun ha hb => ?_⟩
        · cases k with
          | zero => rfl
          | succ k => rw [List.getD_cons_succ]; exact h3 k (by omega)
        · rw [List.getD_cons_succ]
          exact h4 (by omega) (by omega)
      · simp [zeros]
def getG (L : List Bool) (at_ : Int) : Option (Int × Int) :=
  if at_ < 0 then none else
  if zeros (L.drop at_.toNat) 64 = 64 then none else
  (numAt L (at_ + zeros (L.drop at_.toNat) 64) (zeros (L.drop at_.toNat) 64 + 1)).map fun x => (x, at_ + 2 * zeros (L.drop at_.toNat) 64 + 1)
def getR (at_ : Int) : Option (Int × Int) → Value
  | some (x, e) => .tuple #[.int .u64 x, .int .i64 e, .bool true]
  | none => .tuple #[.int .u64 0, .int .i64 at_, .bool false]
set_option maxRecDepth 1000000 in
set_option maxHeartbeats 8000000 in
theorem gamma_Get_in {w : World} {P : Option Addr} {L : List Bool} (i : Nat) (h : BitsP w P L) (hl : L.length < 100000000000) (hi : i < L.length) :
    Calls Try.prog 85 #[.pointer P, .int .i64 i] w fun e w' => e = .returned (getR i (getG L i)) ∧ w = w' := by
  have HL := Aside0.mk h
  have HLL := Aside0.mk hl
  have HI := Aside0.mk hi
  obtain ⟨z, hz⟩ : ∃ z, z = zeros (L.drop i) 64 := ⟨_, rfl⟩
  have hsp := zeros_spec (L.drop i) 64
  rw [← hz] at hsp
  have HSP := Aside0.mk hsp
  have hz64 : z ≤ 64 := hsp.1
  have HG := Aside0.mk (show getG L i = if z = 64 then none else (numAt L ((i : Int) + (z : Int)) ((z : Int) + 1)).map fun x => (x, (i : Int) + 2 * (z : Int) + 1) by
    unfold getG
    rw [if_neg (by omega), Int.toNat_natCast, ← hz])
  have hi1 : decide ((i : Int) < 0) = false := decide_eq_false (by omega)
  have hi2 : decide (L.length ≤ i) = false := decide_eq_false (by omega)
  have hil : (i : Int) < 100000000000 := by omega
  have HLLL := Aside0.mk (show L.length < 1000000000000 by omega)
  have hll : (L.length : Int) < 100000000000 := by omega
  clear h hl hi hsp hz
  go_enter Try.func85, Try.ntmps85
  go_wp2_with (first | (go_at_call 90; refine (bits_Len HL.out).mono ?_; rintro e w' ⟨rfl, rfl⟩))
  go_loop [7] (fun v7 => ∃ (k : Nat), v7 = .int .i64 k ∧ k ≤ z) (fun v => z - (intOf v).toNat)
  case atStart => exact ⟨0, by first | rfl | go_num, Nat.zero_le _⟩
  case round =>
    obtain ⟨k, rfl, hk⟩ := hrel
    have hdl : (L.drop i).length = L.length - i := List.length_drop
    by_cases hlt : k < z
    · have h1 : decide ((k : Int) < 64) = true := decide_eq_true (by omega)
      have h2 : decide ((i : Int) + (k : Int) < (L.length : Int)) = true := decide_eq_true (by have := HSP.out.2.1; omega)
      have hk64 : (k : Int) < 64 := by omega
      have HLT := Aside0.mk hlt
      have hat : atB L ((i : Int) + (k : Int)) = false := by
        have := HSP.out.2.2.1 k hlt
        rw [List.getD_eq_getElem?_getD, List.getElem?_drop, ← List.getD_eq_getElem?_getD] at this
        unfold atB
        rw [decide_eq_true (by omega), Bool.true_and]
        exact this
      clear hdl hlt
      go_wp2_with (first | (go_at_call 90; refine (bits_Len HL.out).mono ?_; rintro e w' ⟨rfl, rfl⟩) | (go_at_call 91; refine (bits_At _ HL.out HLLL.out).mono ?_; rw [hat]; rintro e w' ⟨rfl, rfl⟩))
      go_round
      case rel => exact ⟨k + 1, by go_num, HLT.out⟩
      case measure => have := HLT.out; simp [intOf]; omega
    · obtain rfl : k = z := by omega
      have hk64 : (k : Int) ≤ 64 := by omega
      clear hk hlt
      by_cases h64 : k = 64
      · have HE := Aside0.mk (show getG L i = none by rw [HG.out, if_pos h64])
        subst h64
        clear hdl
        go_wp2
        go_ret3
        rw [HE.out]
        exact ⟨rfl, rfl⟩
      · have h1 : decide ((k : Int) < 64) = true := decide_eq_true (by omega)
        have h3 : ((k : Int) == 64) = false := beq_eq_false_iff_ne.mpr (by omega)
        have HE := Aside0.mk (show getG L i = (numAt L ((i : Int) + (k : Int)) ((k : Int) + 1)).map fun x => (x, (i : Int) + 2 * (k : Int) + 1) by rw [HG.out, if_neg h64])
        obtain ⟨o, ho⟩ : ∃ o, o = numAt L ((i : Int) + (k : Int)) ((k : Int) + 1) := ⟨_, rfl⟩
        rw [← ho] at HE
        have HOO := Aside0.mk ho
        clear ho
        by_cases hend : L.length ≤ i + k
        · have h2 : decide ((i : Int) + (k : Int) < (L.length : Int)) = false := decide_eq_false (by omega)
          clear hdl h64 hend
          cases o
          · go_wp2_with (first | (go_at_call 90; refine (bits_Len HL.out).mono ?_; rintro e w' ⟨rfl, rfl⟩) | (go_at_call 92; refine (bits_Num _ _ HL.out HLL.out).mono ?_; rw [← HOO.out]; rintro e w' ⟨rfl, rfl⟩; simp only [numR, Option.getD_none, Option.isSome_none]))
            go_ret3
            rw [HE.out]
            exact ⟨rfl, rfl⟩
          · go_wp2_with (first | (go_at_call 90; refine (bits_Len HL.out).mono ?_; rintro e w' ⟨rfl, rfl⟩) | (go_at_call 92; refine (bits_Num _ _ HL.out HLL.out).mono ?_; rw [← HOO.out]; rintro e w' ⟨rfl, rfl⟩; simp only [numR, Option.getD_some, Option.isSome_some]))
            go_ret3
            rw [HE.out]
            exact ⟨rfl, rfl⟩
        · have h2 : decide ((i : Int) + (k : Int) < (L.length : Int)) = true := decide_eq_true (by omega)
          have hat : atB L ((i : Int) + (k : Int)) = true := by
            have := HSP.out.2.2.2 (by omega) (by omega)
            rw [List.getD_eq_getElem?_getD, List.getElem?_drop, ← List.getD_eq_getElem?_getD] at this
            unfold atB
            rw [decide_eq_true (by omega), Bool.true_and]
            exact this
          clear hdl h64 hend
          cases o
          · go_wp2_with (first | (go_at_call 90; refine (bits_Len HL.out).mono ?_; rintro e w' ⟨rfl, rfl⟩) | (go_at_call 91; refine (bits_At _ HL.out HLLL.out).mono ?_; rw [hat]; rintro e w' ⟨rfl, rfl⟩) | (go_at_call 92; refine (bits_Num _ _ HL.out HLL.out).mono ?_; rw [← HOO.out]; rintro e w' ⟨rfl, rfl⟩; simp only [numR, Option.getD_none, Option.isSome_none]))
            go_ret3
            rw [HE.out]
            exact ⟨rfl, rfl⟩
          · go_wp2_with (first | (go_at_call 90; refine (bits_Len HL.out).mono ?_; rintro e w' ⟨rfl, rfl⟩) | (go_at_call 91; refine (bits_At _ HL.out HLLL.out).mono ?_; rw [hat]; rintro e w' ⟨rfl, rfl⟩) | (go_at_call 92; refine (bits_Num _ _ HL.out HLL.out).mono ?_; rw [← HOO.out]; rintro e w' ⟨rfl, rfl⟩; simp only [numR, Option.getD_some, Option.isSome_some]))
            go_ret3
            rw [HE.out]
            exact ⟨rfl, rfl⟩
theorem numAt_none {L : List Bool} {i : Int} {n : Int} (h : (L.length : Int) < i + n) : numAt L i n = none := if_neg (fun hc => by omega)
set_option maxRecDepth 1000000 in
set_option maxHeartbeats 8000000 in
theorem gamma_Get {w : World} {P : Option Addr} {L : List Bool} (i : Int) (h : BitsP w P L) (hl : L.length < 100000000000) :
    Calls Try.prog 85 #[.pointer P, .int .i64 i] w fun e w' => e = .returned (getR i (getG L i)) ∧ w = w' := by
  by_cases h0 : i < 0
  · have h1 := decide_eq_true h0
    have HE := Aside0.mk (show getG L i = none from if_pos h0)
    clear h hl
    go_enter Try.func85, Try.ntmps85
    go_wp2
    go_ret3
    rw [HE.out]
    exact ⟨rfl, rfl⟩
  · by_cases hi : i < (L.length : Int)
    · obtain ⟨i, rfl⟩ := Int.eq_ofNat_of_zero_le (show 0 ≤ i by omega)
      exact gamma_Get_in i h hl (by omega)
    · have h1 := decide_eq_false h0
      have h2 : decide ((L.length : Int) ≤ i) = true := decide_eq_true (by omega)
      have HL := Aside0.mk h
      have HE := Aside0.mk (show getG L i = none by
        unfold getG
        rw [if_neg h0, List.drop_of_length_le (by omega)]
        have e : zeros ([] : List Bool) 64 = 0 := rfl
        rw [e, if_neg (by decide), numAt_none (by omega)]
        rfl)
      clear h hl
      go_enter Try.func85, Try.ntmps85
      go_wp2_with (first | (go_at_call 90; refine (bits_Len HL.out).mono ?_; rintro e w' ⟨rfl, rfl⟩))
      go_ret3
      rw [HE.out]
      exact ⟨rfl, rfl⟩
def gammaBits (x : Int) : List Bool := if x = 0 then [] else numBits 0 (Lib.bitLen x.toNat - 1) ++ numBits x (Lib.bitLen x.toNat)
theorem bitLen_pos {n : Nat} (h : n ≠ 0) : 0 < Lib.bitLen n := by
  rw [Lib.bitLen, show (64 : Nat) = 63 + 1 from rfl, Lib.bitLenAux, if_neg h]
  omega
def GPutPost (base : Nat) (w : World) (p : Nat) (M : List Bool) (e : Ending) (w' : World) : Prop := e = .returned (.bool true) ∧ BO base w' p M ∧ Below base w w' ∧ KeepT w w'
set_option maxRecDepth 1000000 in
set_option maxHeartbeats 8000000 in
theorem gamma_Put_in {base : Nat} {w : World} {p : Nat} {L : List Bool} (x : Int) (h : BO base w p L) (hb : base ≤ w.heap.size) (hl : L.length < 10000000000) (hx0 : 0 < x) (hx1 : x < 18446744073709551616) (h64 : Lib.bitLen x.toNat ≤ 64) :
    Calls Try.prog 76 #[.pointer (some ⟨p, 0, none⟩), .int .u64 x] w (GPutPost base w p (L ++ gammaBits x)) := by
  obtain ⟨k, hk⟩ : ∃ k, k = Lib.bitLen x.toNat := ⟨_, rfl⟩
  have hkp : 0 < k := by rw [hk]; exact bitLen_pos (by omega)
  rw [← hk] at h64
  have hx : ¬ x = 0 := by omega
  have hxb : (x == 0) = false := beq_eq_false_iff_ne.mpr hx
  have HE := Aside0.mk (show L ++ gammaBits x = (L ++ numBits 0 (k - 1)) ++ numBits x k by rw [gammaBits, if_neg hx, ← hk, List.append_assoc])
  have HLN := Aside0.mk (show bits_Len64.f x = some (k : Int) by rw [bits_Len64.f, if_pos ⟨by omega, by omega⟩, ← hk])
  have HO := Aside0.mk h
  have HBASE := Aside0.mk hb
  have HL := Aside0.mk hl
  have HB := Aside0.mk (Below.refl base w)
  have HK := Aside0.mk (KeepT.refl w)
  have hk1 : (k : Int) - 1 = ((k - 1 : Nat) : Int) := by omega
  have hk64 : (k : Int) ≤ 64 := by omega
  have HP0 := Aside0.mk (fun (W : World) (h : BO base W p L) (hb : base ≤ W.heap.size) => bits_PutNum_in (w := W) 0 (k - 1) h hb (by omega) (by omega) (by decide) (by decide))
  have HP1 := Aside0.mk (fun (W : World) (h : BO base W p (L ++ numBits 0 (k - 1))) (hb : base ≤ W.heap.size) => bits_PutNum_in (w := W) x k h hb (by rw [List.length_append, numBits_len]; omega) h64 (by omega) hx1)
  clear h hb hl hk h64 hx hx0 hx1
  go_enter Try.func76, Try.ntmps76
  go_wp2_with (first
    | (go_at_call 83; refine (bits_Len64.calls _ _ _ HLN.out).mono ?_; rintro e w' ⟨rfl, ⟨nd, rfl⟩⟩; have n0_ := Aside0.mk (HO.out.below (pw_below_drewN (Below.refl _ _) nd)); have n1_ := Aside0.mk (pw_below_drewN HB.out nd); have n2_ := Aside0.mk (HK.out.trans (KeepT.below (pw_below_drewN (Below.refl _ _) nd))); clear HO HB HK; have HO := n0_; have HB := n1_; have HK := n2_; clear n0_ n1_ n2_)
    | (go_at_call 84; (first
        | (refine (HP0.out _ HO.out (Nat.le_trans HBASE.out HB.out.size)).mono ?_; clear HP0; rintro e w2 ⟨rfl, hO, hb, hkk⟩)
        | (refine (HP1.out _ HO.out (Nat.le_trans HBASE.out HB.out.size)).mono ?_; rintro e w2 ⟨rfl, hO, hb, hkk⟩)); have n0_ := Aside0.mk hO; have n1_ := Aside0.mk (HB.out.trans hb); have n2_ := Aside0.mk (HK.out.trans hkk); clear HO HB HK; have HO := n0_; have HB := n1_; have HK := n2_; clear n0_ n1_ n2_ hO hb hkk))
  go_ret
  refine ⟨rfl, ?_, HB.out, HK.out⟩
  rw [HE.out]
  exact HO.out
theorem gamma_Put {base : Nat} {w : World} {p : Nat} {L : List Bool} (x : Int) (h : BO base w p L) (hb : base ≤ w.heap.size) (hl : L.length < 10000000000) (hx0 : 0 < x) (hx1 : x < 18446744073709551616) :
    Calls Try.prog 76 #[.pointer (some ⟨p, 0, none⟩), .int .u64 x] w (GPutPost base w p (L ++ gammaBits x)) :=
  gamma_Put_in x h hb hl hx0 hx1 (Lib.bitLen_le x.toNat 64 (Nat.le_refl _) (by omega))
end Go.Proofs.Ytkhcmddeeodbkaa.GL
namespace Go.Proofs.Ytkhcmddeeodbkaa.XSor
open Go.RowKit Go.Proofs.Ytkhcmddeeodbkaa.G Go.Proofs.YtkhcmddeeodbkaaW.PrintWords Go.Proofs.YtkhcmddeeodbkaaW.PrintLast Go.Proofs.YtkhcmddeeodbkaaW.PrintMore
attribute [local go_sem] max2_int min2_int max_two min_two max_three min_three max_four min_four
mutual
def loessref6_Bits_Num.j0 : Nat → List Bool → Int → Int → Bool → Option (Int × Bool)
  | 0, _, _, _, _ => none
  | k + 1, x0, x1, x2, x33 => if x33 = true then (some (0, false)) else (loessref6_Bits_Num.l0 k x0 x1 x2 0 0)
def loessref6_Bits_Num.l0 : Nat → List Bool → Int → Int → Int → Int → Option (Int × Bool)
  | 0, _, _, _, _, _ => none
  | k + 1, x0, x1, x2, x8, x9 => if x9 < x2 then (if 0 ≤ (wrap64 (x1 + x9)) then (if (wrap64 (x1 + x9)) < (x0.length : Int) then (if rdOf false x0 (wrap64 (x1 + x9)) = true then (loessref6_Bits_Num.l0 k x0 x1 x2 (IntKind.u64.wrap ((IntKind.u64.wrap (x8 * 2)) + 1)) (wrap64 (x9 + 1))) else (loessref6_Bits_Num.l0 k x0 x1 x2 (IntKind.u64.wrap (x8 * 2)) (wrap64 (x9 + 1)))) else (none)) else (none)) else (some (x8, true))
end
def loessref6_Bits_Num.f (k : Nat) (l0 : List Bool) (a1 : Int) (a2 : Int) : Option (Int × Bool) := if a1 < 0 then (loessref6_Bits_Num.j0 k l0 a1 a2 true) else (if a2 < 0 then (loessref6_Bits_Num.j0 k l0 a1 a2 true) else (if a2 > 64 then (loessref6_Bits_Num.j0 k l0 a1 a2 true) else (if a1 > (l0.length : Int) then (loessref6_Bits_Num.j0 k l0 a1 a2 true) else (loessref6_Bits_Num.j0 k l0 a1 a2 (decide (a2 > (wrap64 ((l0.length : Int) - a1))))))))
theorem loessref6_Bits_Num.mono_l : ∀ k, (∀ y0 y1 y2 y3, LeO (loessref6_Bits_Num.j0 k y0 y1 y2 y3) (loessref6_Bits_Num.j0 (k + 1) y0 y1 y2 y3)) ∧ (∀ y0 y1 y2 y3 y4, LeO (loessref6_Bits_Num.l0 k y0 y1 y2 y3 y4) (loessref6_Bits_Num.l0 (k + 1) y0 y1 y2 y3 y4))
  | 0 => ⟨fun _ _ _ _ r h => by simp [loessref6_Bits_Num.j0] at h, fun _ _ _ _ _ r h => by simp [loessref6_Bits_Num.l0] at h⟩
  | k + 1 => by
    obtain ⟨ih0, ih1⟩ := loessref6_Bits_Num.mono_l k
    refine ⟨?_, ?_⟩
    · intro y0 y1 y2 y3
      unfold loessref6_Bits_Num.j0
      repeat' first
      | (with_reducible exact ih0 _ _ _ _)
      | (with_reducible exact ih1 _ _ _ _ _)
      | (with_reducible exact LeO.refl _)
      | (with_reducible exact LeO.none _)
      | (with_reducible refine LeO.ite ?_ ?_)
      | (with_reducible refine LeO.bind ?_ (fun _ => ?_))
      | exact ih0 _ _ _ _
      | exact ih1 _ _ _ _ _
      | exact LeO.none _
      | refine LeO.ite ?_ ?_
      | refine LeO.bind ?_ (fun _ => ?_)
    · intro y0 y1 y2 y3 y4
      unfold loessref6_Bits_Num.l0
      repeat' first
      | (with_reducible exact ih0 _ _ _ _)
      | (with_reducible exact ih1 _ _ _ _ _)
      | (with_reducible exact LeO.refl _)
      | (with_reducible exact LeO.none _)
      | (with_reducible refine LeO.ite ?_ ?_)
      | (with_reducible refine LeO.bind ?_ (fun _ => ?_))
      | exact ih0 _ _ _ _
      | exact ih1 _ _ _ _ _
      | exact LeO.none _
      | refine LeO.ite ?_ ?_
      | refine LeO.bind ?_ (fun _ => ?_)
theorem loessref6_Bits_Num.mono : ∀ a0 a1 a2 k, LeO (loessref6_Bits_Num.f k a0 a1 a2) (loessref6_Bits_Num.f (k + 1) a0 a1 a2) := by
  intro a0 a1 a2 k
  obtain ⟨ih0, ih1⟩ := loessref6_Bits_Num.mono_l k
  unfold loessref6_Bits_Num.f
  repeat' first
      | (with_reducible exact ih0 _ _ _ _)
      | (with_reducible exact ih1 _ _ _ _ _)
      | (with_reducible exact LeO.refl _)
      | (with_reducible exact LeO.none _)
      | (with_reducible refine LeO.ite ?_ ?_)
      | (with_reducible refine LeO.bind ?_ (fun _ => ?_))
      | exact ih0 _ _ _ _
      | exact ih1 _ _ _ _ _
      | exact LeO.none _
      | refine LeO.ite ?_ ?_
      | refine LeO.bind ?_ (fun _ => ?_)
set_option maxHeartbeats 8000000 in
set_option maxRecDepth 100000 in
theorem loessref6_Bits_Num.calls (k : Nat) (A0 : Option Addr) (c0 : Nat) (l0 : List Bool) (a1 : Int) (a2 : Int) (r1 : Int) (r2 : Bool) (w : World) (hr0 : Kd.C Kd.bool w A0 l0.length l0) (hc0 : l0.length ≤ c0) (h : loessref6_Bits_Num.f k l0 a1 a2 = some (r1, r2)) :
    Calls Try.prog 86 #[.slice A0 l0.length c0, .int .i64 a1, .int .i64 a2] w fun e w' => e = .returned (.tuple #[.int .u64 r1, .bool r2]) ∧ Drawn0 w w' := by
  have HR0 := Aside0.mk hr0
  have HC0 := Aside0.mk hc0
  clear hr0 hc0
  have H : (if a1 < 0 then (loessref6_Bits_Num.j0 k l0 a1 a2 true) else (if a2 < 0 then (loessref6_Bits_Num.j0 k l0 a1 a2 true) else (if a2 > 64 then (loessref6_Bits_Num.j0 k l0 a1 a2 true) else (if a1 > (l0.length : Int) then (loessref6_Bits_Num.j0 k l0 a1 a2 true) else (loessref6_Bits_Num.j0 k l0 a1 a2 (decide (a2 > (wrap64 ((l0.length : Int) - a1))))))))) = some (r1, r2) := h
  clear h
  have HC4 := Aside0.mk H
  clear H
  go_enter Try.func86, Try.ntmps86
  go_upto_region 1 with (fail)
  go_cut [33] (fun v33 wc => ∃ (kq : Nat) (x33_3 : Bool), v33 = .bool x33_3 ∧ Aside0 (loessref6_Bits_Num.j0 kq l0 a1 a2 x33_3 = some (r1, r2)) ∧ Aside0 (kq ≤ k) ∧ Drawn0 w wc)
  case first =>
    have H := HC4.out
    clear HC4
    by_cases c5 : a1 < 0
    · rw [if_pos c5] at H
      have c5b0 : decide (a1 < 0) = true := decide_eq_true c5
      clear c5
      (first | rw [c5b0] | (simp only [i64_w, i32_w]; rw [c5b0]) | skip)
      have H' := Aside0.mk H
      clear H
      go_wp2
      go_meet
      case rel => exact ⟨_, (true), (by first | rfl | (simp; done) | (simp [*]; done)), H', ⟨by first | omega | exact Nat.le_refl _⟩, by repeat (first | exact Drawn0.refl _ | apply Drawn0.step)⟩
    · rw [if_neg c5] at H
      have c5b0 : decide (a1 < 0) = false := decide_eq_false c5
      clear c5
      (first | rw [c5b0] | (simp only [i64_w, i32_w]; rw [c5b0]) | skip)
      by_cases c6 : a2 < 0
      · rw [if_pos c6] at H
        have c6b0 : decide (a2 < 0) = true := decide_eq_true c6
        clear c6
        have H' := Aside0.mk H
        clear H
        go_wp2
        go_meet
        case rel => exact ⟨_, (true), (by first | rfl | (simp; done) | (simp [*]; done)), H', ⟨by first | omega | exact Nat.le_refl _⟩, by repeat (first | exact Drawn0.refl _ | apply Drawn0.step)⟩
      · rw [if_neg c6] at H
        have c6b0 : decide (a2 < 0) = false := decide_eq_false c6
        clear c6
        by_cases c7 : a2 > 64
        · rw [if_pos c7] at H
          have c7b0 : decide (64 < a2) = true := decide_eq_true c7
          clear c7
          have H' := Aside0.mk H
          clear H
          go_wp2
          go_meet
          case rel => exact ⟨_, (true), (by first | rfl | (simp; done) | (simp [*]; done)), H', ⟨by first | omega | exact Nat.le_refl _⟩, by repeat (first | exact Drawn0.refl _ | apply Drawn0.step)⟩
        · rw [if_neg c7] at H
          have c7b0 : decide (64 < a2) = false := decide_eq_false c7
          clear c7
          by_cases c8 : a1 > (l0.length : Int)
          · rw [if_pos c8] at H
            have c8b0 : decide ((l0.length : Int) < a1) = true := decide_eq_true c8
            clear c8
            have H' := Aside0.mk H
            clear H
            go_wp2
            go_meet
            case rel => exact ⟨_, (true), (by first | rfl | (simp; done) | (simp [*]; done)), H', ⟨by first | omega | exact Nat.le_refl _⟩, by repeat (first | exact Drawn0.refl _ | apply Drawn0.step)⟩
          · rw [if_neg c8] at H
            have c8b0 : decide ((l0.length : Int) < a1) = false := decide_eq_false c8
            clear c8
            have H' := Aside0.mk H
            clear H
            go_wp2
            go_meet
            case rel => exact ⟨_, (decide (a2 > (wrap64 ((l0.length : Int) - a1)))), (by first | rfl | (simp; done) | (simp [*]; done)), H', ⟨by first | omega | exact Nat.le_refl _⟩, by repeat (first | exact Drawn0.refl _ | apply Drawn0.step)⟩
  case rest =>
    clear HC4
    try clear p2
    try clear c5
    try clear c5b0
    try clear c6
    try clear c6b0
    try clear p6
    try clear c7
    try clear c7b0
    try clear c8
    try clear c8b0
    obtain ⟨kq, x33_3, rfl, HA, HJ3, ⟨mc3, rfl⟩⟩ := hcut
    cases kq with
    | zero => exact absurd HA.out (by simp [loessref6_Bits_Num.j0])
    | succ kj3 =>
      have H := HA.out
      clear HA
      simp only [loessref6_Bits_Num.j0] at H
      by_cases c9 : x33_3 = true
      · subst c9
        have H1 : (some (0, false)) = some (r1, r2) := by rw [if_pos rfl] at H; exact H
        clear H
        have H := H1
        clear H1
        simp only [Option.some.injEq, Prod.mk.injEq] at H
        obtain ⟨rfl, rfl⟩ := H
        go_wp2
        go_ret2
        exact ⟨by first | rfl | (simp; done) | (simp [*]; done), by repeat (first | exact Drawn0.refl _ | apply Drawn0.step)⟩
      · replace c9 := Bool.eq_false_iff.mpr c9
        subst c9
        have H1 : (loessref6_Bits_Num.l0 kj3 l0 a1 a2 0 0) = some (r1, r2) := by rw [if_neg (show ¬ (false = true) by decide)] at H; exact H
        clear H
        have H := H1
        clear H1
        have H' := Aside0.mk H
        clear H
        go_wp2
        go_loopg [8, 9] kj3 (fun kq v8 v9 w' => ∃ (x8_2 : Int) (x9_2 : Int), v8 = .int .u64 x8_2 ∧ v9 = .int .i64 x9_2 ∧ Aside0 (loessref6_Bits_Num.l0 kq l0 a1 a2 x8_2 x9_2 = some (r1, r2)) ∧ Aside0 (kq ≤ kj3) ∧ Drawn0 w w')
        case atStart => exact ⟨(0), (0), (by first | rfl | (simp; done) | (simp [*]; done)), (by first | rfl | (simp; done) | (simp [*]; done)), H', ⟨Nat.le_refl _⟩, by repeat (first | exact Drawn0.refl _ | apply Drawn0.step)⟩
        case round =>
          clear H'
          try clear p2
          try clear c3
          try clear c5
          try clear c5b0
          try clear c6
          try clear c6b0
          try clear p6
          try clear c7
          try clear c7b0
          try clear c8
          try clear c8b0
          try clear c9
          try clear p2
          try clear p6
          obtain ⟨x8_2, x9_2, rfl, rfl, HA, HK2, ⟨m2, rfl⟩⟩ := hrel
          cases gk with
          | zero => exact absurd HA.out (by simp [loessref6_Bits_Num.l0])
          | succ k2 =>
            have H := HA.out
            clear HA
            simp only [loessref6_Bits_Num.l0] at H
            by_cases c10 : x9_2 < a2
            · rw [if_pos c10] at H
              have c10b0 : decide (x9_2 < a2) = true := decide_eq_true c10
              clear c10
              obtain ⟨ji11, hji11⟩ : ∃ j_ : Int, (wrap64 (a1 + x9_2)) = j_ := ⟨_, rfl⟩
              replace H : (if 0 ≤ (ji11) then (if (ji11) < (l0.length : Int) then (if rdOf false l0 (ji11) = true then (loessref6_Bits_Num.l0 k2 l0 a1 a2 (IntKind.u64.wrap ((IntKind.u64.wrap (x8_2 * 2)) + 1)) (wrap64 (x9_2 + 1))) else (loessref6_Bits_Num.l0 k2 l0 a1 a2 (IntKind.u64.wrap (x8_2 * 2)) (wrap64 (x9_2 + 1)))) else (none)) else (none)) = some (r1, r2) := by first | (rw [hji11] at H; exact H) | (simp only [hji11] at H ⊢; exact H)
              have hji11w : (IntKind.i64.wrap (a1 + x9_2)) = ji11 := (i64_w _).trans hji11
              by_cases c12 : 0 ≤ (ji11)
              · rw [if_pos c12] at H
                have c12b0 : decide (0 ≤ (ji11)) = true := decide_eq_true c12
                clear c12
                by_cases c13 : (ji11) < (l0.length : Int)
                · rw [if_pos c13] at H
                  have c13b0 : decide ((ji11) < (l0.length : Int)) = true := decide_eq_true c13
                  clear c13
                  obtain ⟨bq14, hbq14⟩ : ∃ b_ : Bool, b_ = (rdOf false l0 (ji11)) := ⟨_, rfl⟩
                  replace H : (if bq14 = true then (loessref6_Bits_Num.l0 k2 l0 a1 a2 (IntKind.u64.wrap ((IntKind.u64.wrap (x8_2 * 2)) + 1)) (wrap64 (x9_2 + 1))) else (loessref6_Bits_Num.l0 k2 l0 a1 a2 (IntKind.u64.wrap (x8_2 * 2)) (wrap64 (x9_2 + 1)))) = some (r1, r2) := by rw [← hbq14] at H; exact H
                  have Nbq14 := Aside0.mk hbq14
                  clear hbq14
                  by_cases c15 : bq14 = true
                  · subst c15
                    have H1 : (loessref6_Bits_Num.l0 k2 l0 a1 a2 (IntKind.u64.wrap ((IntKind.u64.wrap (x8_2 * 2)) + 1)) (wrap64 (x9_2 + 1))) = some (r1, r2) := by rw [if_pos rfl] at H; exact H
                    clear H
                    have H := H1
                    clear H1
                    have H' := Aside0.mk H
                    clear H
                    have p384 : 0 ≤ ((ji11) : Int) := of_decide_eq_true (by first | (with_reducible assumption) | assumption)
                    have q384 : (ji11) < (l0.length : Int) := of_decide_eq_true (by first | (with_reducible assumption) | assumption)
                    obtain ⟨ad384, e384, hx384_0⟩ := Kd.at_bool HR0.out (ji11) p384 q384
                    (try rw [← Nbq14.out] at hx384_0)
                    cases e384
                    replace p384 := eq_true p384
                    replace q384 := eq_true q384
                    go_wp2
                    go_roundg k2
                    case measure => have := HJ3.out; have := HK2.out; omega
                    case rel => exact ⟨(IntKind.u64.wrap ((IntKind.u64.wrap (x8_2 * 2)) + 1)), (wrap64 (x9_2 + 1)), (by first | rfl | (simp; done) | (simp [*]; done)), (by first | rfl | (simp; done) | (simp [*]; done)), H', ⟨by have := HJ3.out; have := HK2.out; omega⟩, by repeat (first | exact Drawn0.refl _ | apply Drawn0.step)⟩
                  · replace c15 := Bool.eq_false_iff.mpr c15
                    subst c15
                    have H1 : (loessref6_Bits_Num.l0 k2 l0 a1 a2 (IntKind.u64.wrap (x8_2 * 2)) (wrap64 (x9_2 + 1))) = some (r1, r2) := by rw [if_neg (show ¬ (false = true) by decide)] at H; exact H
                    clear H
                    have H := H1
                    clear H1
                    have H' := Aside0.mk H
                    clear H
                    have p384 : 0 ≤ ((ji11) : Int) := of_decide_eq_true (by first | (with_reducible assumption) | assumption)
                    have q384 : (ji11) < (l0.length : Int) := of_decide_eq_true (by first | (with_reducible assumption) | assumption)
                    obtain ⟨ad384, e384, hx384_0⟩ := Kd.at_bool HR0.out (ji11) p384 q384
                    (try rw [← Nbq14.out] at hx384_0)
                    cases e384
                    replace p384 := eq_true p384
                    replace q384 := eq_true q384
                    go_wp2
                    go_roundg k2
                    case measure => have := HJ3.out; have := HK2.out; omega
                    case rel => exact ⟨(IntKind.u64.wrap (x8_2 * 2)), (wrap64 (x9_2 + 1)), (by first | rfl | (simp; done) | (simp [*]; done)), (by first | rfl | (simp; done) | (simp [*]; done)), H', ⟨by have := HJ3.out; have := HK2.out; omega⟩, by repeat (first | exact Drawn0.refl _ | apply Drawn0.step)⟩
                · rw [if_neg c13] at H
                  exact absurd H (by simp)
              · rw [if_neg c12] at H
                exact absurd H (by simp)
            · rw [if_neg c10] at H
              have c10b0 : decide (x9_2 < a2) = false := decide_eq_false c10
              clear c10
              simp only [Option.some.injEq, Prod.mk.injEq] at H
              obtain ⟨rfl, rfl⟩ := H
              go_wp2
              go_ret2
              exact ⟨by first | rfl | (simp; done) | (simp [*]; done), by repeat (first | exact Drawn0.refl _ | apply Drawn0.step)⟩
end Go.Proofs.Ytkhcmddeeodbkaa.XSor
namespace Go.Proofs.Ytkhcmddeeodbkaa.XSor
open Go.RowKit Go.Proofs.Ytkhcmddeeodbkaa.G Go.Proofs.YtkhcmddeeodbkaaW.PrintWords Go.Proofs.YtkhcmddeeodbkaaW.PrintLast Go.Proofs.YtkhcmddeeodbkaaW.PrintMore
attribute [local go_sem] max2_int min2_int max_two min_two max_three min_three max_four min_four
mutual
def loessref6_GetGamma.j1 : Nat → List Bool → Int → Int → Option (Int × Int × Bool)
  | 0, _, _, _ => none
  | k + 1, x0, x1, x7 => if x7 = 64 then (some (0, x1, false)) else ((loessref6_Bits_Num.f k x0 (wrap64 (x1 + x7)) (wrap64 (x7 + 1))).bind fun bt386 => (if bt386.2 = true then (if bt386.1 = 0 then (some (0, x1, false)) else (some (bt386.1, wrap64 ((wrap64 (x1 + (wrap64 (2 * x7)))) + 1), true))) else (some (0, x1, false))))
def loessref6_GetGamma.l0 : Nat → List Bool → Int → Int → Option (Int × Int × Bool)
  | 0, _, _, _ => none
  | k + 1, x0, x1, x7 => if x7 < 64 then (if (wrap64 (x1 + x7)) < (x0.length : Int) then (if 0 ≤ (wrap64 (x1 + x7)) then (if (rdOf false x0 (wrap64 (x1 + x7)) = true) then (loessref6_GetGamma.j1 k x0 x1 x7) else (loessref6_GetGamma.l0 k x0 x1 (wrap64 (x7 + 1)))) else (none)) else (loessref6_GetGamma.j1 k x0 x1 x7)) else (loessref6_GetGamma.j1 k x0 x1 x7)
end
def loessref6_GetGamma.f (k : Nat) (l0 : List Bool) (a1 : Int) : Option (Int × Int × Bool) := if a1 < 0 then (some (0, a1, false)) else (loessref6_GetGamma.l0 k l0 a1 0)
theorem loessref6_GetGamma.mono_l : ∀ k, (∀ y0 y1 y2, LeO (loessref6_GetGamma.j1 k y0 y1 y2) (loessref6_GetGamma.j1 (k + 1) y0 y1 y2)) ∧ (∀ y0 y1 y2, LeO (loessref6_GetGamma.l0 k y0 y1 y2) (loessref6_GetGamma.l0 (k + 1) y0 y1 y2))
  | 0 => ⟨fun _ _ _ r h => by simp [loessref6_GetGamma.j1] at h, fun _ _ _ r h => by simp [loessref6_GetGamma.l0] at h⟩
  | k + 1 => by
    obtain ⟨ih0, ih1⟩ := loessref6_GetGamma.mono_l k
    refine ⟨?_, ?_⟩
    · intro y0 y1 y2
      unfold loessref6_GetGamma.j1
      repeat' first
      | (with_reducible exact ih0 _ _ _)
      | (with_reducible exact ih1 _ _ _)
      | (with_reducible exact loessref6_Bits_Num.mono _ _ _ _)
      | (with_reducible exact LeO.refl _)
      | (with_reducible exact LeO.none _)
      | (with_reducible refine LeO.ite ?_ ?_)
      | (with_reducible refine LeO.bind ?_ (fun _ => ?_))
      | exact ih0 _ _ _
      | exact ih1 _ _ _
      | exact loessref6_Bits_Num.mono _ _ _ _
      | exact LeO.none _
      | refine LeO.ite ?_ ?_
      | refine LeO.bind ?_ (fun _ => ?_)
    · intro y0 y1 y2
      unfold loessref6_GetGamma.l0
      repeat' first
      | (with_reducible exact ih0 _ _ _)
      | (with_reducible exact ih1 _ _ _)
      | (with_reducible exact loessref6_Bits_Num.mono _ _ _ _)
      | (with_reducible exact LeO.refl _)
      | (with_reducible exact LeO.none _)
      | (with_reducible refine LeO.ite ?_ ?_)
      | (with_reducible refine LeO.bind ?_ (fun _ => ?_))
      | exact ih0 _ _ _
      | exact ih1 _ _ _
      | exact loessref6_Bits_Num.mono _ _ _ _
      | exact LeO.none _
      | refine LeO.ite ?_ ?_
      | refine LeO.bind ?_ (fun _ => ?_)
theorem loessref6_GetGamma.mono : ∀ a0 a1 k, LeO (loessref6_GetGamma.f k a0 a1) (loessref6_GetGamma.f (k + 1) a0 a1) := by
  intro a0 a1 k
  obtain ⟨ih0, ih1⟩ := loessref6_GetGamma.mono_l k
  unfold loessref6_GetGamma.f
  repeat' first
      | (with_reducible exact ih0 _ _ _)
      | (with_reducible exact ih1 _ _ _)
      | (with_reducible exact loessref6_Bits_Num.mono _ _ _ _)
      | (with_reducible exact LeO.refl _)
      | (with_reducible exact LeO.none _)
      | (with_reducible refine LeO.ite ?_ ?_)
      | (with_reducible refine LeO.bind ?_ (fun _ => ?_))
      | exact ih0 _ _ _
      | exact ih1 _ _ _
      | exact loessref6_Bits_Num.mono _ _ _ _
      | exact LeO.none _
      | refine LeO.ite ?_ ?_
      | refine LeO.bind ?_ (fun _ => ?_)
set_option maxHeartbeats 8000000 in
set_option maxRecDepth 100000 in
theorem loessref6_GetGamma.calls (k : Nat) (A0 : Option Addr) (c0 : Nat) (l0 : List Bool) (a1 : Int) (r1 : Int) (r2 : Int) (r3 : Bool) (w : World) (hr0 : Kd.C Kd.bool w A0 l0.length l0) (hc0 : l0.length ≤ c0) (h : loessref6_GetGamma.f k l0 a1 = some (r1, r2, r3)) :
    Calls Try.prog 80 #[.slice A0 l0.length c0, .int .i64 a1] w fun e w' => e = .returned (.tuple #[.int .u64 r1, .int .i64 r2, .bool r3]) ∧ Drawn0 w w' := by
  have HR0 := Aside0.mk hr0
  have HC0 := Aside0.mk hc0
  clear hr0 hc0
  have H : (if a1 < 0 then (some (0, a1, false)) else (loessref6_GetGamma.l0 k l0 a1 0)) = some (r1, r2, r3) := h
  clear h
  by_cases c3 : a1 < 0
  · rw [if_pos c3] at H
    have c3b0 : decide (a1 < 0) = true := decide_eq_true c3
    clear c3
    simp only [Option.some.injEq, Prod.mk.injEq] at H
    obtain ⟨rfl, rfl, rfl⟩ := H
    go_enter Try.func80, Try.ntmps80
    go_wp2
    go_ret3
    exact ⟨by first | rfl | (simp; done) | (simp [*]; done), by repeat (first | exact Drawn0.refl _ | apply Drawn0.step)⟩
  · rw [if_neg c3] at H
    have c3b0 : decide (a1 < 0) = false := decide_eq_false c3
    clear c3
    have HC4 := Aside0.mk H
    clear H
    go_enter Try.func80, Try.ntmps80
    go_upto_block 0 with (fail)
    go_cut [7] (fun v7 wc => ∃ (kq : Nat) (x7_3 : Int), v7 = .int .i64 x7_3 ∧ Aside0 (loessref6_GetGamma.j1 kq l0 a1 x7_3 = some (r1, r2, r3)) ∧ Aside0 (kq ≤ k) ∧ Drawn0 w wc)
    case first =>
      have H := HC4.out
      clear HC4
      have H' := Aside0.mk H
      clear H
      go_wp2
      go_loopg [7] k (fun kq v7 w' => ∃ (x7_1 : Int), v7 = .int .i64 x7_1 ∧ Aside0 (loessref6_GetGamma.l0 kq l0 a1 x7_1 = some (r1, r2, r3)) ∧ Aside0 (kq ≤ k) ∧ Drawn0 w w')
      case atStart => exact ⟨(0), (by first | rfl | (simp; done) | (simp [*]; done)), H', ⟨Nat.le_refl _⟩, by repeat (first | exact Drawn0.refl _ | apply Drawn0.step)⟩
      case round =>
        clear H'
        try clear p2
        try clear c3
        try clear c3b0
        obtain ⟨x7_1, rfl, HA, HK1, ⟨m1, rfl⟩⟩ := hrel
        cases gk with
        | zero => exact absurd HA.out (by simp [loessref6_GetGamma.l0])
        | succ k1 =>
          have H := HA.out
          clear HA
          simp only [loessref6_GetGamma.l0] at H
          by_cases c5 : x7_1 < 64
          · rw [if_pos c5] at H
            have c5b0 : decide (x7_1 < 64) = true := decide_eq_true c5
            clear c5
            (first | rw [c5b0] | (simp only [i64_w, i32_w]; rw [c5b0]) | skip)
            by_cases c6 : (wrap64 (a1 + x7_1)) < (l0.length : Int)
            · rw [if_pos c6] at H
              have c6b0 : decide ((wrap64 (a1 + x7_1)) < (l0.length : Int)) = true := decide_eq_true c6
              clear c6
              obtain ⟨ji7, hji7⟩ : ∃ j_ : Int, (wrap64 (a1 + x7_1)) = j_ := ⟨_, rfl⟩
              replace H : (if 0 ≤ (ji7) then (if (rdOf false l0 (ji7) = true) then (loessref6_GetGamma.j1 k1 l0 a1 x7_1) else (loessref6_GetGamma.l0 k1 l0 a1 (wrap64 (x7_1 + 1)))) else (none)) = some (r1, r2, r3) := by first | (rw [hji7] at H; exact H) | (simp only [hji7] at H ⊢; exact H)
              (try rw [hji7] at c6b0)
              have hji7w : (IntKind.i64.wrap (a1 + x7_1)) = ji7 := (i64_w _).trans hji7
              by_cases c8 : 0 ≤ (ji7)
              · rw [if_pos c8] at H
                have c8b0 : decide (0 ≤ (ji7)) = true := decide_eq_true c8
                clear c8
                obtain ⟨bq9, hbq9⟩ : ∃ b_ : Bool, b_ = (rdOf false l0 (ji7)) := ⟨_, rfl⟩
                replace H : (if (bq9 = true) then (loessref6_GetGamma.j1 k1 l0 a1 x7_1) else (loessref6_GetGamma.l0 k1 l0 a1 (wrap64 (x7_1 + 1)))) = some (r1, r2, r3) := by rw [← hbq9] at H; exact H
                have Nbq9 := Aside0.mk hbq9
                clear hbq9
                by_cases c10 : (bq9 = true)
                · subst c10
                  have H1 : (loessref6_GetGamma.j1 k1 l0 a1 x7_1) = some (r1, r2, r3) := by rw [if_pos rfl] at H; exact H
                  clear H
                  have H := H1
                  clear H1
                  have H' := Aside0.mk H
                  clear H
                  have p385 : 0 ≤ ((ji7) : Int) := of_decide_eq_true (by first | (with_reducible assumption) | assumption)
                  have q385 : (ji7) < (l0.length : Int) := of_decide_eq_true (by first | (with_reducible assumption) | assumption)
                  obtain ⟨ad385, e385, hx385_0⟩ := Kd.at_bool HR0.out (ji7) p385 q385
                  (try rw [← Nbq9.out] at hx385_0)
                  cases e385
                  replace p385 := eq_true p385
                  replace q385 := eq_true q385
                  go_wp2
                  go_meet
                  case rel => exact ⟨_, (x7_1), (by first | rfl | (simp; done) | (simp [*]; done)), H', ⟨by have := HK1.out; first | omega | exact Nat.le_refl _⟩, by repeat (first | exact Drawn0.refl _ | apply Drawn0.step)⟩
                · replace c10 := Bool.eq_false_iff.mpr c10
                  subst c10
                  have H1 : (loessref6_GetGamma.l0 k1 l0 a1 (wrap64 (x7_1 + 1))) = some (r1, r2, r3) := by rw [if_neg (show ¬ (false = true) by decide)] at H; exact H
                  clear H
                  have H := H1
                  clear H1
                  have H' := Aside0.mk H
                  clear H
                  have p385 : 0 ≤ ((ji7) : Int) := of_decide_eq_true (by first | (with_reducible assumption) | assumption)
                  have q385 : (ji7) < (l0.length : Int) := of_decide_eq_true (by first | (with_reducible assumption) | assumption)
                  obtain ⟨ad385, e385, hx385_0⟩ := Kd.at_bool HR0.out (ji7) p385 q385
                  (try rw [← Nbq9.out] at hx385_0)
                  cases e385
                  replace p385 := eq_true p385
                  replace q385 := eq_true q385
                  go_wp2
                  go_roundg k1
                  case measure => have := HK1.out; omega
                  case rel => exact ⟨(wrap64 (x7_1 + 1)), (by first | rfl | (simp; done) | (simp [*]; done)), H', ⟨by have := HK1.out; omega⟩, by repeat (first | exact Drawn0.refl _ | apply Drawn0.step)⟩
              · rw [if_neg c8] at H
                exact absurd H (by simp)
            · rw [if_neg c6] at H
              have c6b0 : decide ((wrap64 (a1 + x7_1)) < (l0.length : Int)) = false := decide_eq_false c6
              clear c6
              have H' := Aside0.mk H
              clear H
              go_wp2
              go_meet
              case rel => exact ⟨_, (x7_1), (by first | rfl | (simp; done) | (simp [*]; done)), H', ⟨by have := HK1.out; first | omega | exact Nat.le_refl _⟩, by repeat (first | exact Drawn0.refl _ | apply Drawn0.step)⟩
          · rw [if_neg c5] at H
            have c5b0 : decide (x7_1 < 64) = false := decide_eq_false c5
            clear c5
            (first | rw [c5b0] | (simp only [i64_w, i32_w]; rw [c5b0]) | skip)
            have H' := Aside0.mk H
            clear H
            go_wp2
            go_meet
            case rel => exact ⟨_, (x7_1), (by first | rfl | (simp; done) | (simp [*]; done)), H', ⟨by have := HK1.out; first | omega | exact Nat.le_refl _⟩, by repeat (first | exact Drawn0.refl _ | apply Drawn0.step)⟩
    case rest =>
      clear HC4
      try clear c1
      try clear p2
      try clear c3
      try clear c3b0
      try clear p3
      try clear q3
      try clear hx3
      try clear c5
      try clear c5b0
      try clear c6
      try clear c6b0
      try clear p6
      try clear c8
      try clear c8b0
      try clear q9
      try clear c10
      try clear hx385_0
      try clear p2
      try clear p385
      try clear q385
      obtain ⟨kq, x7_3, rfl, HA, HJ3, ⟨mc3, rfl⟩⟩ := hcut
      cases kq with
      | zero => exact absurd HA.out (by simp [loessref6_GetGamma.j1])
      | succ kj3 =>
        have H := HA.out
        clear HA
        simp only [loessref6_GetGamma.j1] at H
        by_cases c11 : x7_3 = 64
        · rw [if_pos c11] at H
          have c11b0 : (x7_3 == 64) = true := beq_iff_eq.mpr c11
          have c11b1 : (x7_3 != 64) = false := bne_eq_false_iff_eq.mpr c11
          clear c11
          simp only [Option.some.injEq, Prod.mk.injEq] at H
          obtain ⟨rfl, rfl, rfl⟩ := H
          go_wp2
          go_ret3
          exact ⟨by first | rfl | (simp; done) | (simp [*]; done), by repeat (first | exact Drawn0.refl _ | apply Drawn0.step)⟩
        · rw [if_neg c11] at H
          have c11b0 : (x7_3 == 64) = false := beq_eq_false_iff_ne.mpr c11
          have c11b1 : (x7_3 != 64) = true := bne_iff_ne.mpr c11
          replace H := Option.bind_eq_some_iff.mp H
          obtain ⟨⟨t386, t387⟩, A120, H⟩ := H
          replace H : (if t387 = true then (if t386 = 0 then (some (0, a1, false)) else (some (t386, wrap64 ((wrap64 (a1 + (wrap64 (2 * x7_3)))) + 1), true))) else (some (0, a1, false))) = some (r1, r2, r3) := H
          have A12 := Aside0.mk A120
          clear A120
          by_cases c13 : t387 = true
          · subst c13
            have H1 : (if t386 = 0 then (some (0, a1, false)) else (some (t386, wrap64 ((wrap64 (a1 + (wrap64 (2 * x7_3)))) + 1), true))) = some (r1, r2, r3) := by rw [if_pos rfl] at H; exact H
            clear H
            have H := H1
            clear H1
            by_cases c14 : t386 = 0
            · rw [if_pos c14] at H
              have c14b0 : (t386 == 0) = true := beq_iff_eq.mpr c14
              have c14b1 : (t386 != 0) = false := bne_eq_false_iff_eq.mpr c14
              clear c14
              simp only [Option.some.injEq, Prod.mk.injEq] at H
              obtain ⟨rfl, rfl, rfl⟩ := H
              go_wp2_with (first | ((with_reducible refine gate_callee (f := 86) rfl ?_); refine goesL_ (some 44) rfl rfl Try.func86 (by kernel_rfl) rfl #[.slice A0 l0.length c0, .int .i64 (wrap64 (a1 + x7_3)), .int .i64 (wrap64 (x7_3 + 1))] rfl (by (try simp only [List.map_toArray, List.map_cons, List.map_nil]); first | done | rfl | (simp only [List.length_drop, List.length_take]; rfl)) ?_; (with_reducible refine (loessref6_Bits_Num.calls kj3 _ _ l0 (wrap64 (a1 + x7_3)) (wrap64 (x7_3 + 1)) t386 true _ ?side1 ?side2 A12.out).mono ?_); (case side1 => repeat (first | exact HR0.out | (with_reducible refine Kd.C_alloc ?_ _) | (with_reducible refine Kd.C_drewN ?_ _) | (with_reducible refine Kd.C_drew ?_))); (case side2 => exact HC0.out); rintro e w' ⟨rfl, ⟨nd, rfl⟩⟩; refine ⟨_, rfl, ?_⟩))
              go_ret3
              exact ⟨by first | rfl | (simp; done) | (simp [*]; done), by repeat (first | exact Drawn0.refl _ | apply Drawn0.step)⟩
            · rw [if_neg c14] at H
              have c14b0 : (t386 == 0) = false := beq_eq_false_iff_ne.mpr c14
              have c14b1 : (t386 != 0) = true := bne_iff_ne.mpr c14
              simp only [Option.some.injEq, Prod.mk.injEq] at H
              obtain ⟨rfl, rfl, rfl⟩ := H
              go_wp2_with (first | ((with_reducible refine gate_callee (f := 86) rfl ?_); refine goesL_ (some 44) rfl rfl Try.func86 (by kernel_rfl) rfl #[.slice A0 l0.length c0, .int .i64 (wrap64 (a1 + x7_3)), .int .i64 (wrap64 (x7_3 + 1))] rfl (by (try simp only [List.map_toArray, List.map_cons, List.map_nil]); first | done | rfl | (simp only [List.length_drop, List.length_take]; rfl)) ?_; (with_reducible refine (loessref6_Bits_Num.calls kj3 _ _ l0 (wrap64 (a1 + x7_3)) (wrap64 (x7_3 + 1)) t386 true _ ?side1 ?side2 A12.out).mono ?_); (case side1 => repeat (first | exact HR0.out | (with_reducible refine Kd.C_alloc ?_ _) | (with_reducible refine Kd.C_drewN ?_ _) | (with_reducible refine Kd.C_drew ?_))); (case side2 => exact HC0.out); rintro e w' ⟨rfl, ⟨nd, rfl⟩⟩; refine ⟨_, rfl, ?_⟩))
              go_ret3
              exact ⟨by first | rfl | (simp; done) | (simp [*]; done), by repeat (first | exact Drawn0.refl _ | apply Drawn0.step)⟩
          · replace c13 := Bool.eq_false_iff.mpr c13
            subst c13
            have H1 : (some (0, a1, false)) = some (r1, r2, r3) := by rw [if_neg (show ¬ (false = true) by decide)] at H; exact H
            clear H
            have H := H1
            clear H1
            simp only [Option.some.injEq, Prod.mk.injEq] at H
            obtain ⟨rfl, rfl, rfl⟩ := H
            go_wp2_with (first | ((with_reducible refine gate_callee (f := 86) rfl ?_); refine goesL_ (some 44) rfl rfl Try.func86 (by kernel_rfl) rfl #[.slice A0 l0.length c0, .int .i64 (wrap64 (a1 + x7_3)), .int .i64 (wrap64 (x7_3 + 1))] rfl (by (try simp only [List.map_toArray, List.map_cons, List.map_nil]); first | done | rfl | (simp only [List.length_drop, List.length_take]; rfl)) ?_; (with_reducible refine (loessref6_Bits_Num.calls kj3 _ _ l0 (wrap64 (a1 + x7_3)) (wrap64 (x7_3 + 1)) t386 false _ ?side1 ?side2 A12.out).mono ?_); (case side1 => repeat (first | exact HR0.out | (with_reducible refine Kd.C_alloc ?_ _) | (with_reducible refine Kd.C_drewN ?_ _) | (with_reducible refine Kd.C_drew ?_))); (case side2 => exact HC0.out); rintro e w' ⟨rfl, ⟨nd, rfl⟩⟩; refine ⟨_, rfl, ?_⟩))
            go_ret3
            exact ⟨by first | rfl | (simp; done) | (simp [*]; done), by repeat (first | exact Drawn0.refl _ | apply Drawn0.step)⟩
end Go.Proofs.Ytkhcmddeeodbkaa.XSor
namespace Go.Proofs.Ytkhcmddeeodbkaa.GL
open Go.RowKit Go.Proofs.YtkhcmddeeodbkaaW.PrintWords Go.Proofs.YtkhcmddeeodbkaaW.PrintMore Go.Proofs.Ytkhcmddeeodbkaa.Q Go.Proofs.Ytkhcmddeeodbkaa.XSor
theorem numOf_pos (L : List Bool) (i n : Nat) (hn : 0 < n) (hb : L.getD i false = true) (hi : i < L.length) : 0 < numOf ((L.drop i).take n) := by
  obtain ⟨m, rfl⟩ : ∃ m, n = m + 1 := ⟨n - 1, by omega⟩
  clear hn
  induction m with
  | zero =>
    rw [List.drop_eq_getElem_cons hi]
    rw [List.getD_eq_getElem?_getD, List.getElem?_eq_getElem hi] at hb
    simp at hb
    simp [numOf, hb]
  | succ m ih =>
    by_cases h : m + 1 < (L.drop i).length
    · rw [List.take_succ_eq_append_getElem h, numOf_snoc]
      split <;> omega
    · rw [List.take_of_length_le (by omega)]
      rw [List.take_of_length_le (by omega)] at ih
      exact ih
end Go.Proofs.Ytkhcmddeeodbkaa.GL
