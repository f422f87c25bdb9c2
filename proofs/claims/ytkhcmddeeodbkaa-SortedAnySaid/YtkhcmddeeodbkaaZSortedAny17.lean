import Derived.Test.YtkhcmddeeodbkaaZSortedAny16
-- Own texts and, of the words that the kit's print program wrote for this claim, those that are needed here: put together by wip/prune.py.
set_option linter.unusedSimpArgs false
set_option linter.unusedVariables false
namespace Go.Proofs.Ytkhcmddeeodbkaa.GL
open Go.RowKit Go.Proofs.YtkhcmddeeodbkaaW.PrintWords Go.Proofs.YtkhcmddeeodbkaaW.PrintLast Go.Proofs.YtkhcmddeeodbkaaW.PrintMore Go.Proofs.Ytkhcmddeeodbkaa.Q Go.Proofs.Ytkhcmddeeodbkaa.XSor
def numBits (x : Int) : Nat → List Bool
  | 0 => []
  | n + 1 => (x / 2 ^ n % 2 == 1) :: numBits x n
theorem numBits_len (x : Int) : ∀ n, (numBits x n).length = n
  | 0 => rfl
  | n + 1 => by rw [numBits, List.length_cons, numBits_len x n]
theorem and1_u64 {c : Int} (h0 : 0 ≤ c) (h1 : c < 18446744073709551616) : Go.bits .and .u64 c 1 = c % 2 := bits_mask .u64 64 (by decide) wraps_u64 1 (by decide) c h0 (by omega)
theorem and1_shr {x : Int} (n : Nat) (h0 : 0 ≤ x) (h1 : x < 18446744073709551616) : Go.bits .and .u64 (x / 2 ^ n) 1 = x / 2 ^ n % 2 := by
  have h2 : 0 ≤ x / 2 ^ n := Int.ediv_nonneg h0 (Int.le_of_lt (Int.pow_pos (by decide)))
  have h3 : x / 2 ^ n ≤ x := Int.ediv_le_self _ h0
  exact and1_u64 h2 (by omega)
def NumPost (base : Nat) (w : World) (p : Nat) (M : List Bool) (e : Ending) (w' : World) : Prop := e = .returned (.tuple #[]) ∧ BO base w' p M ∧ Below base w w' ∧ KeepT w w'
set_option maxRecDepth 1000000 in
set_option maxHeartbeats 8000000 in
theorem bits_PutNum_in {base : Nat} {w : World} {p : Nat} {L : List Bool} (x : Int) (n : Nat) (h : BO base w p L) (hb : base ≤ w.heap.size) (hl : L.length < 100000000000) (hn : n ≤ 64) (hx0 : 0 ≤ x) (hx1 : x < 18446744073709551616) :
    Calls Try.prog 84 #[.pointer (some ⟨p, 0, none⟩), .int .u64 x, .int .i64 n] w (NumPost base w p (L ++ numBits x n)) := by
  have HO := Aside0.mk h
  have HBASE := Aside0.mk hb
  have HL := Aside0.mk hl
  have HB := Aside0.mk (Below.refl base w)
  have HK := Aside0.mk (KeepT.refl w)
  clear h hb hl
  have hn1 : decide ((n : Int) < 0) = false := decide_eq_false (by omega)
  have hn2 : decide ((64 : Int) < (n : Int)) = false := decide_eq_false (by omega)
  go_enter Try.func84, Try.ntmps84
  go_wp2
  go_loopw [6] (fun v6 wr => ∃ (k : Nat) (D : List Bool), v6 = .int .i64 ((k : Int) - 1) ∧ k ≤ n ∧ Aside0 (numBits x n = D ++ numBits x k) ∧ Aside0 (BO base wr p (L ++ D)) ∧ Aside0 (Below base w wr) ∧ Aside0 (KeepT w wr)) (fun v _ => (intOf v + 1).toNat)
  case atStart => exact ⟨n, [], by first | rfl | go_num, Nat.le_refl _, ⟨rfl⟩, ⟨by rw [List.append_nil]; exact HO.out⟩, HB, HK⟩
  case round =>
    clear HO HB HK
    obtain ⟨k, D, rfl, hk, HD, HO, HB, HK⟩ := hrel
    cases k with
    | zero =>
      have h1 : decide ((0 : Int) ≤ ((0 : Nat) : Int) - 1) = false := rfl
      go_wp2
      go_end0
      refine ⟨rfl, ?_, HB.out, HK.out⟩
      rw [HD.out, numBits, List.append_nil]
      exact HO.out
    | succ k =>
      have h0 : ((k + 1 : Nat) : Int) - 1 = (k : Int) := by omega
      rw [h0]
      clear h0
      have hlen := Aside0.mk (show (L ++ D).length < 1000000000000 by
        have h1 := HL.out
        have h2 := congrArg List.length HD.out
        rw [numBits_len, List.length_append, numBits_len] at h2
        rw [List.length_append]
        omega)
      have hand := and1_shr k hx0 hx1
      go_wp2_with (first | (go_at_call 89; refine (bits_Put _ HO.out (Nat.le_trans HBASE.out HB.out.size) hlen.out).mono ?_; rintro e w2 ⟨rfl, hO, hb, hkk⟩))
      refine ⟨⟨k, D ++ [x / 2 ^ k % 2 == 1], rfl, Nat.le_of_succ_le hk, ⟨by rw [HD.out, numBits, List.append_assoc]; rfl⟩, ⟨by rw [← List.append_assoc]; exact hO⟩, ⟨HB.out.trans hb⟩, ⟨HK.out.trans hkk⟩⟩, ?_⟩
      simp [intOf]
def numOf (L : List Bool) : Int := L.foldl (fun a b => 2 * a + if b = true then 1 else 0) 0
theorem numOf_snoc (L : List Bool) (b : Bool) : numOf (L ++ [b]) = 2 * numOf L + if b = true then 1 else 0 := by simp [numOf]
theorem numOf_bd : ∀ (n : Nat) (L : List Bool), L.length = n → 0 ≤ numOf L ∧ numOf L < 2 ^ n := by
  intro n
  induction n with
  | zero => intro L h; rw [List.length_eq_zero_iff.1 h]; simp [numOf]
  | succ n ih =>
    intro L h
    have hne : L ≠ [] := by intro e; rw [e] at h; cases h
    rw [← List.dropLast_concat_getLast hne, numOf_snoc]
    obtain ⟨h0, h1⟩ := ih L.dropLast (by rw [List.length_dropLast]; omega)
    rw [Int.pow_succ]
    split <;> omega
def numAt (L : List Bool) (at_ n : Int) : Option Int := if 0 ≤ n ∧ n ≤ 64 ∧ 0 ≤ at_ ∧ at_ + n ≤ L.length then some (numOf ((L.drop at_.toNat).take n.toNat)) else none
theorem or1_u64 {c : Int} (h0 : 0 ≤ c) (h1 : c < 18446744073709551616) (h2 : c % 2 = 0) : Go.bits .or .u64 c 1 = c + 1 :=
  bits_join .u64 64 (by decide) wraps_u64 1 c 1 h0 h2 h1 (by decide) (by decide) (by decide)
set_option maxRecDepth 1000000 in
set_option maxHeartbeats 8000000 in
theorem bits_Num_in {w : World} {P : Option Addr} {L : List Bool} (i n : Nat) (h : BitsP w P L) (hl : L.length < 100000000000) (hn : n ≤ 64) (hi : i + n ≤ L.length) :
    Calls Try.prog 92 #[.pointer P, .int .i64 i, .int .i64 n] w fun e w' => e = .returned (.tuple #[.int .u64 (numOf ((L.drop i).take n)), .bool true]) ∧ w = w' := by
  have HL := Aside0.mk h
  have HLL := Aside0.mk (show L.length < 1000000000000 by omega)
  have HI := Aside0.mk hi
  have hn1 : decide ((n : Int) < 0) = false := decide_eq_false (by omega)
  have hn2 : decide ((64 : Int) < (n : Int)) = false := decide_eq_false (by omega)
  have hi1 : decide ((i : Int) < 0) = false := decide_eq_false (by omega)
  have hi2 : decide ((L.length : Int) - (n : Int) < (i : Int)) = false := decide_eq_false (by omega)
  have hil : (i : Int) < 100000000000 := by omega
  have hll : (L.length : Int) < 100000000000 := by omega
  clear h hl hi
  go_enter Try.func92, Try.ntmps92
  go_wp2_with (first | (go_at_call 90; refine (bits_Len HL.out).mono ?_; rintro e w' ⟨rfl, rfl⟩))
  go_loop [8, 29] (fun v8 v29 => ∃ (k : Nat), v29 = .int .i64 k ∧ v8 = .int .u64 (numOf ((L.drop i).take k)) ∧ k ≤ n) (fun _ v => n - (intOf v).toNat)
  case atStart => exact ⟨0, by first | rfl | go_num, by first | rfl | simp [numOf], Nat.zero_le _⟩
  case round =>
    obtain ⟨k, rfl, rfl, hk⟩ := hrel
    obtain ⟨x, hx⟩ : ∃ x, x = numOf ((L.drop i).take k) := ⟨_, rfl⟩
    rw [← hx]
    by_cases hlt : k < n
    · have hbd := numOf_bd k ((L.drop i).take k) (by rw [List.length_take, List.length_drop]; have := HI.out; omega)
      rw [← hx] at hbd
      have h2p : (2 : Int) ^ k ≤ 2 ^ 63 := by have := Nat.pow_le_pow_right (n := 2) (by decide) (show k ≤ 63 by omega); exact_mod_cast this
      have e63 : (2 : Int) ^ 63 = 9223372036854775808 := rfl
      have hx0 : 0 ≤ x := hbd.1
      have hx1 : x * 2 < 18446744073709551616 := by omega
      have hat : atB L ((i : Int) + (k : Int)) = L.getD (i + k) false := by
        unfold atB
        rw [decide_eq_true (by omega), Bool.true_and]
        congr 1
      have HS := Aside0.mk (show numOf ((L.drop i).take (k + 1)) = 2 * x + if L.getD (i + k) false = true then 1 else 0 by
        have hkl : k < (L.drop i).length := by rw [List.length_drop]; have := HI.out; omega
        rw [List.take_succ_eq_append_getElem hkl, numOf_snoc, ← hx]
        congr 2
        rw [List.getElem_drop, List.getD_eq_getElem?_getD, List.getElem?_eq_getElem (by have := HI.out; omega)]
        rfl)
      clear hbd h2p e63
      have HX := Aside0.mk hx
      clear hx
      by_cases hb : L.getD (i + k) false = true
      · rw [hb] at hat HS
        clear hb
        go_wp2_with (first | (go_at_call 91; refine (bits_At _ HL.out HLL.out).mono ?_; rw [hat]; rintro e w' ⟨rfl, rfl⟩))
        go_round
        case rel =>
          refine ⟨k + 1, by go_num, ?_, by omega⟩
          rw [HS.out, or1_u64 (by omega) hx1 (by omega)]
          simp only [if_true]
          rw [Int.mul_comm]
        case measure => simp [intOf]; omega
      · have hb := Bool.eq_false_iff.2 hb
        rw [hb] at hat HS
        clear hb
        go_wp2_with (first | (go_at_call 91; refine (bits_At _ HL.out HLL.out).mono ?_; rw [hat]; rintro e w' ⟨rfl, rfl⟩))
        go_round
        case rel =>
          refine ⟨k + 1, by go_num, ?_, by omega⟩
          rw [HS.out]
          simp only [Bool.false_eq_true, if_false, Int.add_zero]
          rw [Int.mul_comm]
        case measure => simp [intOf]; omega
    · obtain rfl : k = n := by omega
      go_wp2
      go_ret2
      exact ⟨rfl, rfl⟩
set_option maxRecDepth 1000000 in
set_option maxHeartbeats 8000000 in
theorem bits_Num_out {w : World} {P : Option Addr} {L : List Bool} (i n : Int) (h : BitsP w P L) (hl : L.length < 100000000000) (hbad : ¬ (0 ≤ n ∧ n ≤ 64 ∧ 0 ≤ i ∧ i + n ≤ L.length)) :
    Calls Try.prog 92 #[.pointer P, .int .i64 i, .int .i64 n] w fun e w' => e = .returned (.tuple #[.int .u64 0, .bool false]) ∧ w = w' := by
  have HL := Aside0.mk h
  by_cases h0 : n < 0
  · have h1 := decide_eq_true h0
    clear hbad h hl
    go_enter Try.func92, Try.ntmps92
    go_wp2
    go_ret2
    exact ⟨rfl, rfl⟩
  · have h1 := decide_eq_false h0
    by_cases h2 : 64 < n
    · have h3 := decide_eq_true h2
      clear hbad h hl
      go_enter Try.func92, Try.ntmps92
      go_wp2
      go_ret2
      exact ⟨rfl, rfl⟩
    · have h3 := decide_eq_false h2
      by_cases h4 : i < 0
      · have h5 := decide_eq_true h4
        clear hbad h hl
        go_enter Try.func92, Try.ntmps92
        go_wp2
        go_ret2
        exact ⟨rfl, rfl⟩
      · have h5 := decide_eq_false h4
        have h6 : decide ((L.length : Int) - n < i) = true := decide_eq_true (by omega)
        have hll : (L.length : Int) < 100000000000 := by omega
        have hn0 : 0 ≤ n := by omega
        have hn6 : n ≤ 64 := by omega
        clear hbad h hl h0 h2 h4
        go_enter Try.func92, Try.ntmps92
        go_wp2_with (first | (go_at_call 90; refine (bits_Len HL.out).mono ?_; rintro e w' ⟨rfl, rfl⟩))
        go_ret2
        exact ⟨rfl, rfl⟩
def numR (o : Option Int) : Value := .tuple #[.int .u64 (o.getD 0), .bool o.isSome]
theorem bits_Num {w : World} {P : Option Addr} {L : List Bool} (i n : Int) (h : BitsP w P L) (hl : L.length < 100000000000) :
    Calls Try.prog 92 #[.pointer P, .int .i64 i, .int .i64 n] w fun e w' => e = .returned (numR (numAt L i n)) ∧ w = w' := by
  by_cases hg : 0 ≤ n ∧ n ≤ 64 ∧ 0 ≤ i ∧ i + n ≤ L.length
  · have e : numAt L i n = some (numOf ((L.drop i.toNat).take n.toNat)) := if_pos hg
    rw [e]
    obtain ⟨i, rfl⟩ := Int.eq_ofNat_of_zero_le hg.2.2.1
    obtain ⟨n, rfl⟩ := Int.eq_ofNat_of_zero_le hg.1
    exact bits_Num_in i n h hl (by omega) (by omega)
  · have e : numAt L i n = none := if_neg hg
    rw [e]
    exact bits_Num_out i n h hl hg
end Go.Proofs.Ytkhcmddeeodbkaa.GL
namespace Go.Proofs.Ytkhcmddeeodbkaa.XSor
open Go.RowKit Go.Proofs.Ytkhcmddeeodbkaa.G Go.Proofs.YtkhcmddeeodbkaaW.PrintWords Go.Proofs.YtkhcmddeeodbkaaW.PrintLast Go.Proofs.YtkhcmddeeodbkaaW.PrintMore
attribute [local go_sem] max2_int min2_int max_two min_two max_three min_three max_four min_four
def bytes_Equal.f (l0 : List Int) (l1 : List Int) : Option (Bool) := some ((strOfNums l0).toList == (strOfNums l1).toList)
set_option maxHeartbeats 8000000 in
set_option maxRecDepth 100000 in
theorem bytes_Equal.calls (A0 : Option Addr) (c0 : Nat) (l0 : List Int) (A1 : Option Addr) (c1 : Nat) (l1 : List Int) (r : Bool) (w : World) (hr0 : Kd.C (Kd.int .u8) w A0 l0.length l0) (hc0 : l0.length ≤ c0) (hr1 : Kd.C (Kd.int .u8) w A1 l1.length l1) (hc1 : l1.length ≤ c1) (h : bytes_Equal.f l0 l1 = some r) :
    Calls Try.prog 50 #[.slice A0 l0.length c0, .slice A1 l1.length c1] w fun e w' => e = .returned (.bool r) ∧ Drawn0 w w' := by
  have HR0 := Aside0.mk hr0
  have HC0 := Aside0.mk hc0
  clear hr0 hc0
  have HR1 := Aside0.mk hr1
  have HC1 := Aside0.mk hc1
  clear hr1 hc1
  have H : (some ((strOfNums l0).toList == (strOfNums l1).toList)) = some r := h
  clear h
  obtain rfl := Option.some.inj H
  have hcv3 := Kd.C_string (P := Try.prog) (A := A0) (c := c0) Try.underlying40 Try.underlying5 Try.underlying9 HR0.out
  have hcvz3 := fun m_ : Nat => Kd.C_string (P := Try.prog) (A := A0) (c := c0) Try.underlying40 Try.underlying5 Try.underlying9 (Kd.C_drewN HR0.out m_)
  have hcv4 := Kd.C_string (P := Try.prog) (A := A1) (c := c1) Try.underlying40 Try.underlying5 Try.underlying9 HR1.out
  have hcvz4 := fun m_ : Nat => Kd.C_string (P := Try.prog) (A := A1) (c := c1) Try.underlying40 Try.underlying5 Try.underlying9 (Kd.C_drewN HR1.out m_)
  go_enter Try.func50, Try.ntmps50
  go_wp2
  go_ret
  exact ⟨by first | rfl | (simp; done) | (simp [*]; done), by repeat (first | exact Drawn0.refl _ | apply Drawn0.step)⟩
end Go.Proofs.Ytkhcmddeeodbkaa.XSor
namespace Go.Proofs.Ytkhcmddeeodbkaa.GL
open Go.RowKit Go.Proofs.YtkhcmddeeodbkaaW.PrintWords Go.Proofs.YtkhcmddeeodbkaaW.PrintLast Go.Proofs.YtkhcmddeeodbkaaW.PrintMore Go.Proofs.Ytkhcmddeeodbkaa.Q Go.Proofs.Ytkhcmddeeodbkaa.XSor
theorem BO.new {base : Nat} {w : World} {p : Nat} (h : w.heap[p]? = some (.cells #[.slice none 0 0, .int .i64 0] 101 (0, 0))) (hp : base ≤ p) : BO base w p [] := ⟨_, h, hp, Kd.R_nil _ _ _ _ _⟩
end Go.Proofs.Ytkhcmddeeodbkaa.GL
namespace Go.Proofs.Ytkhcmddeeodbkaa.GL
open Go.RowKit Go.Proofs.YtkhcmddeeodbkaaW.PrintWords Go.Proofs.YtkhcmddeeodbkaaW.PrintLast Go.Proofs.YtkhcmddeeodbkaaW.PrintMore Go.Proofs.Ytkhcmddeeodbkaa.Q Go.Proofs.Ytkhcmddeeodbkaa.XSor Go.Proofs.Ytkhcmddeeodbkaa.G
def zeros : List Bool → Nat → Nat
  | _, 0 => 0
  | [], _ => 0
  | b :: r, m + 1 => if b = true then 0 else zeros r m + 1
theorem zeros_spec : ∀ (l : List Bool) (m : Nat), zeros l m ≤ m ∧ zeros l m ≤ l.length ∧ (∀ k, k < zeros l m → l.getD k false = false) ∧ (zeros l m < m → zeros l m < l.length → l.getD (zeros l m) false = true) := by
  intro l
  induction l with
  | nil => intro m; cases m <;> simp [zeros]
  | cons b r ih =>
    intro m
    cases m with
    | zero => simp [zeros]
    | succ m =>
      obtain ⟨h1, h2, h3, h4⟩ := ih m
      cases b
      · simp only [zeros, Bool.false_eq_true, if_false, List.length_cons]
        refine ⟨by omega, by omega, fun k hk => ?_, fun ha hb => ?_⟩
        · cases k with
          | zero => rfl
          | succ k => rw [List.getD_cons_succ]; exact h3 k (by omega)
        · rw [List.getD_cons_succ]
          exact h4 (by omega) (by omega)
      · simp [zeros]
def getG (L : List Bool) (at_ : Int) : Option (Int × Int) :=
  if at_ < 0 then none else
  if zeros (L.drop at_.toNat) 64 = 64 then none else
  (numAt L (at_ + zeros (L.drop at_.toNat) 64) (zeros (L.drop at_.toNat) 64 + 1)).map fun x => (x, at_ + 2 * zeros (L.drop at_.toNat) 64 + 1)
def getR (at_ : Int) : Option (Int × Int) → Value
  | some (x, e) => .tuple #[.int .u64 x, .int .i64 e, .bool true]
  | none => .tuple #[.int .u64 0, .int .i64 at_, .bool false]
set_option maxRecDepth 1000000 in
set_option maxHeartbeats 8000000 in
theorem gamma_Get_in {w : World} {P : Option Addr} {L : List Bool} (i : Nat) (h : BitsP w P L) (hl : L.length < 100000000000) (hi : i < L.length) :
    Calls Try.prog 85 #[.pointer P, .int .i64 i] w fun e w' => e = .returned (getR i (getG L i)) ∧ w = w' := by
  have HL := Aside0.mk h
  have HLL := Aside0.mk hl
  have HI := Aside0.mk hi
  obtain ⟨z, hz⟩ : ∃ z, z = zeros (L.drop i) 64 := ⟨_, rfl⟩
  have hsp := zeros_spec (L.drop i) 64
  rw [← hz] at hsp
  have HSP := Aside0.mk hsp
  have hz64 : z ≤ 64 := hsp.1
  have HG := Aside0.mk (show getG L i = if z = 64 then none else (numAt L ((i : Int) + (z : Int)) ((z : Int) + 1)).map fun x => (x, (i : Int) + 2 * (z : Int) + 1) by
    unfold getG
    rw [if_neg (by omega), Int.toNat_natCast, ← hz])
  have hi1 : decide ((i : Int) < 0) = false := decide_eq_false (by omega)
  have hi2 : decide (L.length ≤ i) = false := decide_eq_false (by omega)
  have hil : (i : Int) < 100000000000 := by omega
  have HLLL := Aside0.mk (show L.length < 1000000000000 by omega)
  have hll : (L.length : Int) < 100000000000 := by omega
  clear h hl hi hsp hz
  go_enter Try.func85, Try.ntmps85
  go_wp2_with (first | (go_at_call 90; refine (bits_Len HL.out).mono ?_; rintro e w' ⟨rfl, rfl⟩))
  go_loop [7] (fun v7 => ∃ (k : Nat), v7 = .int .i64 k ∧ k ≤ z) (fun v => z - (intOf v).toNat)
  case atStart => exact ⟨0, by first | rfl | go_num, Nat.zero_le _⟩
  case round =>
    obtain ⟨k, rfl, hk⟩ := hrel
    have hdl : (L.drop i).length = L.length - i := List.length_drop
    by_cases hlt : k < z
    · have h1 : decide ((k : Int) < 64) = true := decide_eq_true (by omega)
      have h2 : decide ((i : Int) + (k : Int) < (L.length : Int)) = true := decide_eq_true (by have := HSP.out.2.1; omega)
      have hk64 : (k : Int) < 64 := by omega
      have HLT := Aside0.mk hlt
      have hat : atB L ((i : Int) + (k : Int)) = false := by
        have := HSP.out.2.2.1 k hlt
        rw [List.getD_eq_getElem?_getD, List.getElem?_drop, ← List.getD_eq_getElem?_getD] at this
        unfold atB
        rw [decide_eq_true (by omega), Bool.true_and]
        exact this
      clear hdl hlt
      go_wp2_with (first | (go_at_call 90; refine (bits_Len HL.out).mono ?_; rintro e w' ⟨rfl, rfl⟩) | (go_at_call 91; refine (bits_At _ HL.out HLLL.out).mono ?_; rw [hat]; rintro e w' ⟨rfl, rfl⟩))
      go_round
      case rel => exact ⟨k + 1, by go_num, HLT.out⟩
      case measure => have := HLT.out; simp [intOf]; omega
    · obtain rfl : k = z := by omega
      have hk64 : (k : Int) ≤ 64 := by omega
      clear hk hlt
      by_cases h64 : k = 64
      · have HE := Aside0.mk (show getG L i = none by rw [HG.out, if_pos h64])
        subst h64
        clear hdl
        go_wp2
        go_ret3
        rw [HE.out]
        exact ⟨rfl, rfl⟩
      · have h1 : decide ((k : Int) < 64) = true := decide_eq_true (by omega)
        have h3 : ((k : Int) == 64) = false := beq_eq_false_iff_ne.mpr (by omega)
        have HE := Aside0.mk (show getG L i = (numAt L ((i : Int) + (k : Int)) ((k : Int) + 1)).map fun x => (x, (i : Int) + 2 * (k : Int) + 1) by rw [HG.out, if_neg h64])
        obtain ⟨o, ho⟩ : ∃ o, o = numAt L ((i : Int) + (k : Int)) ((k : Int) + 1) := ⟨_, rfl⟩
        rw [← ho] at HE
        have HOO := Aside0.mk ho
        clear ho
        by_cases hend : L.length ≤ i + k
        · have h2 : decide ((i : Int) + (k : Int) < (L.length : Int)) = false := decide_eq_false (by omega)
          clear hdl h64 hend
          cases o
          · go_wp2_with (first | (go_at_call 90; refine (bits_Len HL.out).mono ?_; rintro e w' ⟨rfl, rfl⟩) | (go_at_call 92; refine (bits_Num _ _ HL.out HLL.out).mono ?_; rw [← HOO.out]; rintro e w' ⟨rfl, rfl⟩; simp only [numR, Option.getD_none, Option.isSome_none]))
            go_ret3
            rw [HE.out]
            exact ⟨rfl, rfl⟩
          · go_wp2_with (first | (go_at_call 90; refine (bits_Len HL.out).mono ?_; rintro e w' ⟨rfl, rfl⟩) | (go_at_call 92; refine (bits_Num _ _ HL.out HLL.out).mono ?_; rw [← HOO.out]; rintro e w' ⟨rfl, rfl⟩; simp only [numR, Option.getD_some, Option.isSome_some]))
            go_ret3
            rw [HE.out]
            exact ⟨rfl, rfl⟩
        · have h2 : decide ((i : Int) + (k : Int) < (L.length : Int)) = true := decide_eq_true (by omega)
          have hat : atB L ((i : Int) + (k : Int)) = true := by
            have := HSP.out.2.2.2 (by omega) (by omega)
            rw [List.getD_eq_getElem?_getD, List.getElem?_drop, ← List.getD_eq_getElem?_getD] at this
            unfold atB
            rw [decide_eq_true (by omega), Bool.true_and]
            exact this
          clear hdl h64 hend
          cases o
          · go_wp2_with (first | (go_at_call 90; refine (bits_Len HL.out).mono ?_; rintro e w' ⟨rfl, rfl⟩) | (go_at_call 91; refine (bits_At _ HL.out HLLL.out).mono ?_; rw [hat]; rintro e w' ⟨rfl, rfl⟩) | (go_at_call 92; refine (bits_Num _ _ HL.out HLL.out).mono ?_; rw [← HOO.out]; rintro e w' ⟨rfl, rfl⟩; simp only [numR, Option.getD_none, Option.isSome_none]))
            go_ret3
            rw [HE.out]
            exact ⟨rfl, rfl⟩
          · go_wp2_with (first | (go_at_call 90; refine (bits_Len HL.out).mono ?_; rintro e w' ⟨rfl, rfl⟩) | (go_at_call 91; refine (bits_At _ HL.out HLLL.out).mono ?_; rw [hat]; rintro e w' ⟨rfl, rfl⟩) | (go_at_call 92; refine (bits_Num _ _ HL.out HLL.out).mono ?_; rw [← HOO.out]; rintro e w' ⟨rfl, rfl⟩; simp only [numR, Option.getD_some, Option.isSome_some]))
            go_ret3
            rw [HE.out]
            exact ⟨rfl, rfl⟩
theorem numAt_none {L : List Bool} {i : Int} {n : Int} (h : (L.length : Int) < i + n) : numAt L i n = none := if_neg (fun hc => by omega)
set_option maxRecDepth 1000000 in
set_option maxHeartbeats 8000000 in
theorem gamma_Get {w : World} {P : Option Addr} {L : List Bool} (i : Int) (h : BitsP w P L) (hl : L.length < 100000000000) :
    Calls Try.prog 85 #[.pointer P, .int .i64 i] w fun e w' => e = .returned (getR i (getG L i)) ∧ w = w' := by
  by_cases h0 : i < 0
  · have h1 := decide_eq_true h0
    have HE := Aside0.mk (show getG L i = none from if_pos h0)
    clear h hl
    go_enter Try.func85, Try.ntmps85
    go_wp2
    go_ret3
    rw [HE.out]
    exact ⟨rfl, rfl⟩
  · by_cases hi : i < (L.length : Int)
    · obtain ⟨i, rfl⟩ := Int.eq_ofNat_of_zero_le (show 0 ≤ i by omega)
      exact gamma_Get_in i h hl (by omega)
    · have h1 := decide_eq_false h0
      have h2 : decide ((L.length : Int) ≤ i) = true := decide_eq_true (by omega)
      have HL := Aside0.mk h
      have HE := Aside0.mk (show getG L i = none by
        unfold getG
        rw [if_neg h0, List.drop_of_length_le (by omega)]
        have e : zeros ([] : List Bool) 64 = 0 := rfl
        rw [e, if_neg (by decide), numAt_none (by omega)]
        rfl)
      clear h hl
      go_enter Try.func85, Try.ntmps85
      go_wp2_with (first | (go_at_call 90; refine (bits_Len HL.out).mono ?_; rintro e w' ⟨rfl, rfl⟩))
      go_ret3
      rw [HE.out]
      exact ⟨rfl, rfl⟩
def gammaBits (x : Int) : List Bool := if x = 0 then [] else numBits 0 (Lib.bitLen x.toNat - 1) ++ numBits x (Lib.bitLen x.toNat)
theorem bitLen_pos {n : Nat} (h : n ≠ 0) : 0 < Lib.bitLen n := by
  rw [Lib.bitLen, show (64 : Nat) = 63 + 1 from rfl, Lib.bitLenAux, if_neg h]
  omega
def GPutPost (base : Nat) (w : World) (p : Nat) (M : List Bool) (e : Ending) (w' : World) : Prop := e = .returned (.bool true) ∧ BO base w' p M ∧ Below base w w' ∧ KeepT w w'
set_option maxRecDepth 1000000 in
set_option maxHeartbeats 8000000 in
theorem gamma_Put_in {base : Nat} {w : World} {p : Nat} {L : List Bool} (x : Int) (h : BO base w p L) (hb : base ≤ w.heap.size) (hl : L.length < 10000000000) (hx0 : 0 < x) (hx1 : x < 18446744073709551616) (h64 : Lib.bitLen x.toNat ≤ 64) :
    Calls Try.prog 76 #[.pointer (some ⟨p, 0, none⟩), .int .u64 x] w (GPutPost base w p (L ++ gammaBits x)) := by
  obtain ⟨k, hk⟩ : ∃ k, k = Lib.bitLen x.toNat := ⟨_, rfl⟩
  have hkp : 0 < k := by rw [hk]; exact bitLen_pos (by omega)
  rw [← hk] at h64
  have hx : ¬ x = 0 := by omega
  have hxb : (x == 0) = false := beq_eq_false_iff_ne.mpr hx
  have HE := Aside0.mk (show L ++ gammaBits x = (L ++ numBits 0 (k - 1)) ++ numBits x k by rw [gammaBits, if_neg hx, ← hk, List.append_assoc])
  have HLN := Aside0.mk (show bits_Len64.f x = some (k : Int) by rw [bits_Len64.f, if_pos ⟨by omega, by omega⟩, ← hk])
  have HO := Aside0.mk h
  have HBASE := Aside0.mk hb
  have HL := Aside0.mk hl
  have HB := Aside0.mk (Below.refl base w)
  have HK := Aside0.mk (KeepT.refl w)
  have hk1 : (k : Int) - 1 = ((k - 1 : Nat) : Int) := by omega
  have hk64 : (k : Int) ≤ 64 := by omega
  have HP0 := Aside0.mk (fun (W : World) (h : BO base W p L) (hb : base ≤ W.heap.size) => bits_PutNum_in (w := W) 0 (k - 1) h hb (by omega) (by omega) (by decide) (by decide))
  have HP1 := Aside0.mk (fun (W : World) (h : BO base W p (L ++ numBits 0 (k - 1))) (hb : base ≤ W.heap.size) => bits_PutNum_in (w := W) x k h hb (by rw [List.length_append, numBits_len]; omega) h64 (by omega) hx1)
  clear h hb hl hk h64 hx hx0 hx1
  go_enter Try.func76, Try.ntmps76
  go_wp2_with (first
    | (go_at_call 83; refine (bits_Len64.calls _ _ _ HLN.out).mono ?_; rintro e w' ⟨rfl, ⟨nd, rfl⟩⟩; have n0_ := Aside0.mk (HO.out.below (pw_below_drewN (Below.refl _ _) nd)); have n1_ := Aside0.mk (pw_below_drewN HB.out nd); have n2_ := Aside0.mk (HK.out.trans (KeepT.below (pw_below_drewN (Below.refl _ _) nd))); clear HO HB HK; have HO := n0_; have HB := n1_; have HK := n2_; clear n0_ n1_ n2_)
    | (go_at_call 84; (first
        | (refine (HP0.out _ HO.out (Nat.le_trans HBASE.out HB.out.size)).mono ?_; clear HP0; rintro e w2 ⟨rfl, hO, hb, hkk⟩)
        | (refine (HP1.out _ HO.out (Nat.le_trans HBASE.out HB.out.size)).mono ?_; rintro e w2 ⟨rfl, hO, hb, hkk⟩)); have n0_ := Aside0.mk hO; have n1_ := Aside0.mk (HB.out.trans hb); have n2_ := Aside0.mk (HK.out.trans hkk); clear HO HB HK; have HO := n0_; have HB := n1_; have HK := n2_; clear n0_ n1_ n2_ hO hb hkk))
  go_ret
  refine ⟨rfl, ?_, HB.out, HK.out⟩
  rw [HE.out]
  exact HO.out
theorem gamma_Put {base : Nat} {w : World} {p : Nat} {L : List Bool} (x : Int) (h : BO base w p L) (hb : base ≤ w.heap.size) (hl : L.length < 10000000000) (hx0 : 0 < x) (hx1 : x < 18446744073709551616) :
    Calls Try.prog 76 #[.pointer (some ⟨p, 0, none⟩), .int .u64 x] w (GPutPost base w p (L ++ gammaBits x)) :=
  gamma_Put_in x h hb hl hx0 hx1 (Lib.bitLen_le x.toNat 64 (Nat.le_refl _) (by omega))
end Go.Proofs.Ytkhcmddeeodbkaa.GL
namespace Go.Proofs.Ytkhcmddeeodbkaa.GL
open Go.RowKit Go.Proofs.YtkhcmddeeodbkaaW.PrintWords Go.Proofs.YtkhcmddeeodbkaaW.PrintMore Go.Proofs.Ytkhcmddeeodbkaa.Q Go.Proofs.Ytkhcmddeeodbkaa.XSor
theorem numOf_pos (L : List Bool) (i n : Nat) (hn : 0 < n) (hb : L.getD i false = true) (hi : i < L.length) : 0 < numOf ((L.drop i).take n) := by
  obtain ⟨m, rfl⟩ : ∃ m, n = m + 1 := ⟨n - 1, by omega⟩
  clear hn
  induction m with
  | zero =>
    rw [List.drop_eq_getElem_cons hi]
    rw [List.getD_eq_getElem?_getD, List.getElem?_eq_getElem hi] at hb
    simp at hb
    simp [numOf, hb]
  | succ m ih =>
    by_cases h : m + 1 < (L.drop i).length
    · rw [List.take_succ_eq_append_getElem h, numOf_snoc]
      split <;> omega
    · rw [List.take_of_length_le (by omega)]
      rw [List.take_of_length_le (by omega)] at ih
      exact ih
end Go.Proofs.Ytkhcmddeeodbkaa.GL
namespace Go.Proofs.Ytkhcmddeeodbkaa.GL
open Go.RowKit Go.Proofs.YtkhcmddeeodbkaaW.PrintWords Go.Proofs.YtkhcmddeeodbkaaW.PrintLast Go.Proofs.YtkhcmddeeodbkaaW.PrintMore Go.Proofs.Ytkhcmddeeodbkaa.Q Go.Proofs.Ytkhcmddeeodbkaa.XSor Go.Proofs.Ytkhcmddeeodbkaa.G
def bitT (h : Int) (k : Nat) : Bool := h / 2 ^ k % 2 == 1
set_option maxRecDepth 1000000 in
set_option maxHeartbeats 8000000 in
theorem trie_bit {w : World} {h : Int} (k : Nat) (hk : k ≤ 63) (h0 : 0 ≤ h) (h1 : h < 18446744073709551616) :
    Calls Try.prog 75 #[.int .u64 h, .int .i64 (63 - (k : Int))] w fun e w' => e = .returned (.bool (bitT h k)) ∧ w = w' := by
  have hand := and1_shr k h0 h1
  obtain ⟨b, hb⟩ : ∃ b, b = bitT h k := ⟨_, rfl⟩
  have HBB := Aside0.mk hb
  have he : (h / 2 ^ k % 2 == 1) = b := hb.symm
  rw [← hb]
  have hsub : (63 : Int) - (63 - (k : Int)) = (k : Int) := by omega
  clear hb
  go_enter Try.func75, Try.ntmps75
  go_wp2
  go_ret
  exact ⟨rfl, rfl⟩
theorem getG_spec {L : List Bool} {at_ x e : Int} (h : getG L at_ = some (x, e)) : 0 < x ∧ x < 18446744073709551616 ∧ e ≤ L.length ∧ 0 ≤ at_ ∧ at_ < e := by
  unfold getG at h
  split at h
  · cases h
  · rename_i h0
    split at h
    · cases h
    · rename_i h64
      have hsp := zeros_spec (L.drop at_.toNat) 64
      obtain ⟨z, hz⟩ : ∃ z, z = zeros (L.drop at_.toNat) 64 := ⟨_, rfl⟩
      rw [← hz] at h hsp h64
      unfold numAt at h
      split at h
      · rename_i hc
        simp only [Option.map_some, Option.some.injEq, Prod.mk.injEq] at h
        obtain ⟨hx, he⟩ := h
        have ha : (at_ + (z : Int)).toNat = at_.toNat + z := by omega
        have hn : ((z : Int) + 1).toNat = z + 1 := by omega
        rw [ha, hn] at hx
        have hbit := hsp.2.2.2 (by omega) (by rw [List.length_drop]; omega)
        rw [List.getD_eq_getElem?_getD, List.getElem?_drop, ← List.getD_eq_getElem?_getD] at hbit
        have hpos : 0 < numOf ((L.drop (at_.toNat + z)).take (z + 1)) := numOf_pos L (at_.toNat + z) (z + 1) (by omega) hbit (by omega)
        have hbd := numOf_bd (z + 1) ((L.drop (at_.toNat + z)).take (z + 1)) (by rw [List.length_take, List.length_drop]; omega)
        have h2p : (2 : Int) ^ (z + 1) ≤ 2 ^ 64 := by have := Nat.pow_le_pow_right (n := 2) (by decide) (show z + 1 ≤ 64 by omega); exact_mod_cast this
        have e64 : (2 : Int) ^ 64 = 18446744073709551616 := rfl
        refine ⟨?_, ?_, ?_, ?_, ?_⟩
        · omega
        · omega
        · omega
        · omega
        · omega
      · cases h
def readT (L : List Bool) (at_ n : Int) : Option (Int × Int) := match getG L at_ with
  | none => none
  | some (x, e) => if n < x - 1 then none else some (x - 1, e)
theorem readT_spec {L : List Bool} {at_ n l e : Int} (h : readT L at_ n = some (l, e)) : 0 ≤ l ∧ l ≤ n ∧ e ≤ L.length ∧ 0 ≤ at_ ∧ at_ < e := by
  unfold readT at h
  split at h
  · cases h
  · rename_i x e' hg
    have := getG_spec hg
    split at h
    · cases h
    · simp only [Option.some.injEq, Prod.mk.injEq] at h
      omega
def readR : Option (Int × Int) → Value
  | some (x, e) => .tuple #[.int .i64 x, .int .i64 e, .bool true]
  | none => .tuple #[.int .i64 0, .int .i64 0, .bool false]
set_option maxRecDepth 1000000 in
set_option maxHeartbeats 8000000 in
theorem trie_read {w : World} {P : Option Addr} {L : List Bool} (at_ n d : Int) (h : BitsP w P L) (hl : L.length < 100000000000) (hn0 : 0 ≤ n) (hn : n ≤ 4096) (hd : d < 64) :
    Calls Try.prog 78 #[.pointer P, .int .i64 at_, .int .i64 n, .int .i64 d] w fun e w' => e = .returned (readR (readT L at_ n)) ∧ w = w' := by
  have HL := Aside0.mk h
  have HLL := Aside0.mk hl
  obtain ⟨g, hg⟩ : ∃ g, g = getG L at_ := ⟨_, rfl⟩
  have HG := Aside0.mk hg
  have hdd : decide (64 ≤ d) = false := decide_eq_false (by omega)
  cases g with
  | none =>
    have HE := Aside0.mk (show readT L at_ n = none by unfold readT; rw [← hg])
    clear h hl hg
    go_enter Try.func78, Try.ntmps78
    go_wp2_with (first | (go_at_call 85; refine (gamma_Get _ HL.out HLL.out).mono ?_; rw [← HG.out]; rintro e w' ⟨rfl, rfl⟩; simp only [getR]))
    go_ret3
    rw [HE.out]
    exact ⟨rfl, rfl⟩
  | some xe =>
    obtain ⟨x, e⟩ := xe
    have hsp := getG_spec hg.symm
    have hx0 : 0 < x := hsp.1
    have hx1 : x < 18446744073709551616 := hsp.2.1
    clear h hl hsp
    by_cases hlt : n < x - 1
    · have HE := Aside0.mk (show readT L at_ n = none by unfold readT; rw [← hg]; exact if_pos hlt)
      have h1 := decide_eq_true hlt
      clear hg
      go_enter Try.func78, Try.ntmps78
      go_wp2_with (first | (go_at_call 85; refine (gamma_Get _ HL.out HLL.out).mono ?_; rw [← HG.out]; rintro e w' ⟨rfl, rfl⟩; simp only [getR]))
      go_ret3
      rw [HE.out]
      exact ⟨rfl, rfl⟩
    · have HE := Aside0.mk (show readT L at_ n = some (x - 1, e) by unfold readT; rw [← hg]; exact if_neg hlt)
      have h1 := decide_eq_false hlt
      clear hg
      go_enter Try.func78, Try.ntmps78
      go_wp2_with (first | (go_at_call 85; refine (gamma_Get _ HL.out HLL.out).mono ?_; rw [← HG.out]; rintro e w' ⟨rfl, rfl⟩; simp only [getR]))
      go_ret3
      rw [HE.out]
      exact ⟨rfl, rfl⟩
set_option maxRecDepth 1000000 in
set_option maxHeartbeats 8000000 in
theorem trie_read_deep {w : World} {P : Option Addr} {L : List Bool} (at_ n : Int) (h : BitsP w P L) (hl : L.length < 100000000000) (hn0 : 0 ≤ n) (hn : n ≤ 4096) :
    Calls Try.prog 78 #[.pointer P, .int .i64 at_, .int .i64 n, .int .i64 64] w fun e w' => e = .returned (readR none) ∧ w = w' := by
  have HL := Aside0.mk h
  have HLL := Aside0.mk hl
  obtain ⟨g, hg⟩ : ∃ g, g = getG L at_ := ⟨_, rfl⟩
  have HG := Aside0.mk hg
  clear h hl
  cases g with
  | none =>
    clear hg
    go_enter Try.func78, Try.ntmps78
    go_wp2_with (first | (go_at_call 85; refine (gamma_Get _ HL.out HLL.out).mono ?_; rw [← HG.out]; rintro e w' ⟨rfl, rfl⟩; simp only [getR]))
    go_ret3
    exact ⟨rfl, rfl⟩
  | some xe =>
    obtain ⟨x, e⟩ := xe
    clear hg
    go_enter Try.func78, Try.ntmps78
    go_wp2_with (first | (go_at_call 85; refine (gamma_Get _ HL.out HLL.out).mono ?_; rw [← HG.out]; rintro e w' ⟨rfl, rfl⟩; simp only [getR]))
    go_ret3
    exact ⟨rfl, rfl⟩
def skipT (L : List Bool) : Nat → Int → Int → Option Int
  | 0, at_, n => if n < 2 then some at_ else none
  | k + 1, at_, n => if n < 2 then some at_ else match readT L at_ n with
    | none => none
    | some (l, e) => match skipT L k e l with
      | none => none
      | some t => skipT L k t (n - l)
def skipR : Option Int → Value
  | some t => .tuple #[.int .i64 t, .bool true]
  | none => .tuple #[.int .i64 0, .bool false]
set_option maxRecDepth 1000000 in
set_option maxHeartbeats 8000000 in
theorem trie_skip {w : World} {P : Option Addr} {L : List Bool} (h : BitsP w P L) (hl : L.length < 100000000000) : ∀ (k : Nat) (at_ n d : Int), k ≤ 64 → d = 64 - (k : Int) → 0 ≤ n → n ≤ 4096 →
    Calls Try.prog 79 #[.pointer P, .int .i64 at_, .int .i64 n, .int .i64 d] w fun e w' => e = .returned (skipR (skipT L k at_ n)) ∧ w = w' := by
  have HL := Aside0.mk h
  have HLL := Aside0.mk hl
  clear h hl
  intro k
  induction k with
  | zero =>
    intro at_ n d _ hd hn0 hn
    obtain rfl : d = 64 := by omega
    clear hd
    by_cases h2 : n < 2
    · have HE := Aside0.mk (show skipT L 0 at_ n = some at_ from if_pos h2)
      have h1 := decide_eq_true h2
      clear h2
      go_enter Try.func79, Try.ntmps79
      go_wp2
      go_ret2
      rw [HE.out]
      exact ⟨rfl, rfl⟩
    · have HE := Aside0.mk (show skipT L 0 at_ n = none from if_neg h2)
      have h1 := decide_eq_false h2
      have HN0 := Aside0.mk hn0
      have HN := Aside0.mk hn
      clear h2 hn0 hn
      go_enter Try.func79, Try.ntmps79
      go_wp2_with (first | (go_at_call 78; refine (trie_read_deep _ _ HL.out HLL.out HN0.out HN.out).mono ?_; rintro e w' ⟨rfl, rfl⟩; simp only [readR]))
      go_ret2
      rw [HE.out]
      exact ⟨rfl, rfl⟩
  | succ k ih =>
    intro at_ n d hk hd hn0 hn
    by_cases h2 : n < 2
    · have HE := Aside0.mk (show skipT L (k + 1) at_ n = some at_ from if_pos h2)
      have h1 := decide_eq_true h2
      clear h2 ih hd hk
      go_enter Try.func79, Try.ntmps79
      go_wp2
      go_ret2
      rw [HE.out]
      exact ⟨rfl, rfl⟩
    · have h1 := decide_eq_false h2
      have HE := Aside0.mk (show skipT L (k + 1) at_ n = match readT L at_ n with
        | none => none
        | some (l, e) => match skipT L k e l with
          | none => none
          | some t => skipT L k t (n - l) from if_neg h2)
      obtain ⟨r, hr⟩ : ∃ r, r = readT L at_ n := ⟨_, rfl⟩
      rw [← hr] at HE
      have HR := Aside0.mk hr
      have HN0 := Aside0.mk hn0
      have HN := Aside0.mk hn
      have HD := Aside0.mk (show d < 64 by omega)
      have hd1 : d + 1 = 64 - (k : Int) := by omega
      have hdl : d < 64 := HD.out
      have hdg : 0 ≤ d := by omega
      have HI := Aside0.mk (fun (at_ n : Int) (h0 : 0 ≤ n) (h1 : n ≤ 4096) => ih at_ n (64 - (k : Int)) (by omega) rfl h0 h1)
      clear ih h2 hd hk
      cases r with
      | none =>
        have HE := Aside0.mk (show skipT L (k + 1) at_ n = none from HE.out)
        clear hr hn0 hn
        go_enter Try.func79, Try.ntmps79
        go_wp2_with (first | (go_at_call 78; refine (trie_read _ _ _ HL.out HLL.out HN0.out HN.out HD.out).mono ?_; rw [← HR.out]; rintro e w' ⟨rfl, rfl⟩; simp only [readR]))
        go_ret2
        rw [HE.out]
        exact ⟨rfl, rfl⟩
      | some le =>
        obtain ⟨l, e⟩ := le
        have hsp := readT_spec hr.symm
        have hl0 : 0 ≤ l := hsp.1
        have hln : l ≤ n := hsp.2.1
        have HL0 := Aside0.mk hl0
        have HL1 := Aside0.mk (show l ≤ 4096 by omega)
        have HM0 := Aside0.mk (show 0 ≤ n - l by omega)
        have HM1 := Aside0.mk (show n - l ≤ 4096 by omega)
        obtain ⟨s, hs⟩ : ∃ s, s = skipT L k e l := ⟨_, rfl⟩
        replace HE : Aside0 (skipT L (k + 1) at_ n = match skipT L k e l with
          | none => none
          | some t => skipT L k t (n - l)) := ⟨HE.out⟩
        rw [← hs] at HE
        have HS := Aside0.mk hs
        clear hr hsp hs
        cases s with
        | none =>
          replace HE : Aside0 (skipT L (k + 1) at_ n = none) := ⟨HE.out⟩
          go_enter Try.func79, Try.ntmps79
          go_wp2_with (first
            | (go_at_call 78; refine (trie_read _ _ _ HL.out HLL.out HN0.out HN.out HD.out).mono ?_; rw [← HR.out]; rintro e w' ⟨rfl, rfl⟩; simp only [readR])
            | (go_at_call 79; (try rw [hd1]); refine (HI.out _ _ HL0.out HL1.out).mono ?_; rw [← HS.out]; rintro e w' ⟨rfl, rfl⟩; simp only [skipR]))
          go_ret2
          rw [HE.out]
          exact ⟨rfl, rfl⟩
        | some t =>
          replace HE : Aside0 (skipT L (k + 1) at_ n = skipT L k t (n - l)) := ⟨HE.out⟩
          obtain ⟨q, hq⟩ : ∃ q, q = skipT L k t (n - l) := ⟨_, rfl⟩
          rw [← hq] at HE
          have HQ := Aside0.mk hq
          clear hq
          cases q with
          | none =>
            go_enter Try.func79, Try.ntmps79
            go_wp2_with (first
              | (go_at_call 78; refine (trie_read _ _ _ HL.out HLL.out HN0.out HN.out HD.out).mono ?_; rw [← HR.out]; rintro e w' ⟨rfl, rfl⟩; simp only [readR])
              | (go_at_call 79; (try rw [hd1]); (first | ((with_reducible refine (HI.out e l HL0.out HL1.out).mono ?_); rw [← HS.out]) | ((with_reducible refine (HI.out t (n - l) HM0.out HM1.out).mono ?_); rw [← HQ.out])); rintro e w' ⟨rfl, rfl⟩; simp only [skipR]))
            go_ret2
            rw [HE.out]
            exact ⟨rfl, rfl⟩
          | some y =>
            go_enter Try.func79, Try.ntmps79
            go_wp2_with (first
              | (go_at_call 78; refine (trie_read _ _ _ HL.out HLL.out HN0.out HN.out HD.out).mono ?_; rw [← HR.out]; rintro e w' ⟨rfl, rfl⟩; simp only [readR])
              | (go_at_call 79; (try rw [hd1]); (first | ((with_reducible refine (HI.out e l HL0.out HL1.out).mono ?_); rw [← HS.out]) | ((with_reducible refine (HI.out t (n - l) HM0.out HM1.out).mono ?_); rw [← HQ.out])); rintro e w' ⟨rfl, rfl⟩; simp only [skipR]))
            go_ret2
            rw [HE.out]
            exact ⟨rfl, rfl⟩
end Go.Proofs.Ytkhcmddeeodbkaa.GL
namespace Go.Proofs.Ytkhcmddeeodbkaa.GL
open Go.RowKit Go.Proofs.YtkhcmddeeodbkaaW.PrintWords Go.Proofs.YtkhcmddeeodbkaaW.PrintLast Go.Proofs.YtkhcmddeeodbkaaW.PrintMore Go.Proofs.Ytkhcmddeeodbkaa.Q Go.Proofs.Ytkhcmddeeodbkaa.XSor Go.Proofs.Ytkhcmddeeodbkaa.G
def rankT (L : List Bool) (h : Int) : Nat → Int → Int → Int → Option Int
  | 0, at_, n, a => if n = 0 then none else if n < 2 then some a else none
  | k + 1, at_, n, a => if n = 0 then none else if n < 2 then some a else match readT L at_ n with
    | none => none
    | some (l, e) => if bitT h k = true then (match skipT L k e l with
      | none => none
      | some t => rankT L h k t (n - l) (a + l)) else rankT L h k e l a
theorem rankT_0 (L : List Bool) (h : Int) (k : Nat) (at_ a : Int) : rankT L h k at_ 0 a = none := by cases k <;> rfl
theorem rankT_1 (L : List Bool) (h : Int) (k : Nat) (at_ a : Int) : rankT L h k at_ 1 a = some a := by cases k <;> rfl
theorem rankT_s {L : List Bool} {h : Int} {k : Nat} {at_ n a : Int} (hn : 2 ≤ n) : rankT L h (k + 1) at_ n a = match readT L at_ n with
    | none => none
    | some (l, e) => if bitT h k = true then (match skipT L k e l with
      | none => none
      | some t => rankT L h k t (n - l) (a + l)) else rankT L h k e l a := by
  rw [rankT, if_neg (by omega), if_neg (by omega)]
theorem rankT_e {L : List Bool} {h : Int} {at_ n a : Int} (hn : 2 ≤ n) : rankT L h 0 at_ n a = none := by
  rw [rankT, if_neg (by omega), if_neg (by omega)]
set_option maxRecDepth 1000000 in
set_option maxHeartbeats 8000000 in
theorem trie_Rank_in {w : World} {P : Option Addr} {L : List Bool} {h : Int} (n : Int) (hL : BitsP w P L) (hl : L.length < 100000000000) (hn0 : 0 ≤ n) (hn : n ≤ 4096) (h0 : 0 ≤ h) (h1 : h < 18446744073709551616) :
    Calls Try.prog 64 #[.pointer P, .int .i64 n, .int .u64 h] w fun e w' => e = .returned (skipR (rankT L h 64 0 n 0)) ∧ w = w' := by
  have HL := Aside0.mk hL
  have HLL := Aside0.mk hl
  have HH0 := Aside0.mk h0
  have HH1 := Aside0.mk h1
  obtain ⟨R, hR⟩ : ∃ R, R = rankT L h 64 0 n 0 := ⟨_, rfl⟩
  rw [← hR]
  have HRR := Aside0.mk hR
  have hc0 : decide (n < 0) = false := decide_eq_false (by omega)
  have hc1 : decide (4096 < n) = false := decide_eq_false (by omega)
  have HA := Aside0.mk (And.intro hn0 hn)
  clear hL hl h0 h1 hR hn0 hn
  go_enter Try.func64, Try.ntmps64
  go_wp2
  go_loop [1, 8, 9, 10] (fun v1 v8 v9 v10 => ∃ (k : Nat) (at_ n a : Int), v10 = .int .i64 (64 - (k : Int)) ∧ v1 = .int .i64 n ∧ v8 = .int .i64 at_ ∧ v9 = .int .i64 a ∧ k ≤ 64 ∧ 0 ≤ n ∧ n ≤ 4096 ∧ 0 ≤ a ∧ a + n ≤ 4096 ∧ Aside0 (R = rankT L h k at_ n a)) (fun _ _ _ v => (64 - intOf v).toNat)
  case atStart => exact ⟨64, 0, n, 0, by first | rfl | go_num, rfl, rfl, rfl, Nat.le_refl _, HA.out.1, HA.out.2, by decide, by have := HA.out.2; omega, HRR⟩
  case round =>
    clear HRR hc0 hc1 HA
    obtain ⟨k, at_, n, a, rfl, rfl, rfl, rfl, hk, hn0, hn1, ha0, ha1, HE⟩ := hrel
    by_cases hlt : 2 ≤ n
    · have hd := decide_eq_true (show 1 < n by omega)
      have HN0 := Aside0.mk hn0
      have HN1 := Aside0.mk hn1
      cases k with
      | zero =>
        rw [rankT_e hlt] at HE
        clear hlt
        have h64 : (64 : Int) - ((0 : Nat) : Int) = 64 := rfl
        rw [h64]
        clear h64
        go_wp2_with (first | (go_at_call 78; refine (trie_read_deep _ _ HL.out HLL.out HN0.out HN1.out).mono ?_; rintro e w' ⟨rfl, rfl⟩; simp only [readR]))
        go_ret2
        rw [HE.out]
        exact ⟨rfl, rfl⟩
      | succ k =>
        rw [rankT_s hlt] at HE
        have HLT := Aside0.mk hlt
        obtain ⟨r, hr⟩ : ∃ r, r = readT L at_ n := ⟨_, rfl⟩
        rw [← hr] at HE
        have HR := Aside0.mk hr
        have hd3 : (64 : Int) - ((k + 1 : Nat) : Int) = 63 - (k : Int) := by omega
        have hd1 : (63 : Int) - (k : Int) + 1 = 64 - (k : Int) := by omega
        have hk63 : (k : Int) ≤ 63 := by omega
        have HD := Aside0.mk (show (64 : Int) - ((k + 1 : Nat) : Int) < 64 by omega)
        have HD' := Aside0.mk (show (63 : Int) - (k : Int) < 64 by omega)
        have HK := Aside0.mk (show k ≤ 63 by omega)
        have HK64 := Aside0.mk (show k ≤ 64 by omega)
        clear hlt hk
        rw [hd3] at HD ⊢
        cases r with
        | none =>
          replace HE : Aside0 (R = none) := ⟨HE.out⟩
          clear hr
          go_wp2_with (first | (go_at_call 78; refine (trie_read _ _ _ HL.out HLL.out HN0.out HN1.out HD.out).mono ?_; rw [← HR.out]; rintro e w' ⟨rfl, rfl⟩; simp only [readR]))
          go_ret2
          rw [HE.out]
          exact ⟨rfl, rfl⟩
        | some le =>
          obtain ⟨l, e⟩ := le
          have hsp := readT_spec hr.symm
          have hl0 : 0 ≤ l := hsp.1
          have hln : l ≤ n := hsp.2.1
          have HL0 := Aside0.mk hl0
          have HL1 := Aside0.mk (show l ≤ 4096 by omega)
          replace HE : Aside0 (R = if bitT h k = true then (match skipT L k e l with
            | none => none
            | some t => rankT L h k t (n - l) (a + l)) else rankT L h k e l a) := ⟨HE.out⟩
          clear hr hsp
          cases hb : bitT h k with
          | false =>
            have HBT := Aside0.mk hb
            rw [if_neg (by rw [hb]; decide)] at HE
            clear hb
            go_wp2_with (first | (go_at_call 78; refine (trie_read _ _ _ HL.out HLL.out HN0.out HN1.out HD.out).mono ?_; rw [← HR.out]; rintro e w' ⟨rfl, rfl⟩; simp only [readR]) | (go_at_call 75; (try rw [hd3]); refine (trie_bit _ HK.out HH0.out HH1.out).mono ?_; rw [HBT.out]; rintro e w' ⟨rfl, rfl⟩))
            go_round
            case rel => exact ⟨k, e, l, a, by first | rfl | go_num, rfl, rfl, rfl, by omega, hl0, by omega, ha0, by omega, HE⟩
            case measure => have := HK.out; simp [intOf]; omega
          | true =>
            have HBT := Aside0.mk hb
            rw [if_pos hb] at HE
            obtain ⟨s, hs⟩ : ∃ s, s = skipT L k e l := ⟨_, rfl⟩
            rw [← hs] at HE
            have HS := Aside0.mk hs
            clear hb hs
            cases s with
            | none =>
              replace HE : Aside0 (R = none) := ⟨HE.out⟩
              go_wp2_with (first | (go_at_call 78; refine (trie_read _ _ _ HL.out HLL.out HN0.out HN1.out HD.out).mono ?_; rw [← HR.out]; rintro e w' ⟨rfl, rfl⟩; simp only [readR]) | (go_at_call 75; (try rw [hd3]); refine (trie_bit _ HK.out HH0.out HH1.out).mono ?_; rw [HBT.out]; rintro e w' ⟨rfl, rfl⟩) | (go_at_call 79; (try rw [hd1]); refine (trie_skip HL.out HLL.out _ _ _ _ HK64.out rfl HL0.out HL1.out).mono ?_; rw [← HS.out]; rintro e w' ⟨rfl, rfl⟩; simp only [skipR]))
              go_ret2
              rw [HE.out]
              exact ⟨rfl, rfl⟩
            | some t =>
              replace HE : Aside0 (R = rankT L h k t (n - l) (a + l)) := ⟨HE.out⟩
              go_wp2_with (first | (go_at_call 78; refine (trie_read _ _ _ HL.out HLL.out HN0.out HN1.out HD.out).mono ?_; rw [← HR.out]; rintro e w' ⟨rfl, rfl⟩; simp only [readR]) | (go_at_call 75; (try rw [hd3]); refine (trie_bit _ HK.out HH0.out HH1.out).mono ?_; rw [HBT.out]; rintro e w' ⟨rfl, rfl⟩) | (go_at_call 79; (try rw [hd1]); refine (trie_skip HL.out HLL.out _ _ _ _ HK64.out rfl HL0.out HL1.out).mono ?_; rw [← HS.out]; rintro e w' ⟨rfl, rfl⟩; simp only [skipR]))
              go_round
              case rel => exact ⟨k, t, n - l, a + l, by first | rfl | go_num, by first | rfl | go_num, rfl, by first | rfl | go_num, by omega, by omega, by omega, by omega, by omega, HE⟩
              case measure => have := HK.out; simp [intOf]; omega
    · have hd := decide_eq_false (show ¬ 1 < n by omega)
      by_cases hz : n = 0
      · subst hz
        rw [rankT_0] at HE
        clear hlt
        go_wp2
        go_ret2
        rw [HE.out]
        exact ⟨rfl, rfl⟩
      · obtain rfl : n = 1 := by omega
        rw [rankT_1] at HE
        clear hlt hz
        go_wp2
        go_ret2
        rw [HE.out]
        exact ⟨rfl, rfl⟩
def rankI (L : List Bool) (h n : Int) : Option Int := if n < 0 ∨ 4096 < n then none else rankT L h 64 0 n 0
set_option maxRecDepth 1000000 in
set_option maxHeartbeats 8000000 in
theorem trie_Rank {w : World} {P : Option Addr} {L : List Bool} {h : Int} (n : Int) (hL : BitsP w P L) (hl : L.length < 100000000000) (h0 : 0 ≤ h) (h1 : h < 18446744073709551616) :
    Calls Try.prog 64 #[.pointer P, .int .i64 n, .int .u64 h] w fun e w' => e = .returned (skipR (rankI L h n)) ∧ w = w' := by
  by_cases hn : n < 0 ∨ 4096 < n
  · have e : rankI L h n = none := if_pos hn
    rw [e]
    have hc : decide (n < 0) = true ∨ (decide (n < 0) = false ∧ decide (4096 < n) = true) := by
      by_cases h : n < 0
      · exact .inl (decide_eq_true h)
      · exact .inr ⟨decide_eq_false h, decide_eq_true (by omega)⟩
    clear hL hl hn e
    rcases hc with h | ⟨h, h'⟩
    all_goals
      go_enter Try.func64, Try.ntmps64
      go_wp2
      go_ret2
      exact ⟨rfl, rfl⟩
  · have e : rankI L h n = rankT L h 64 0 n 0 := if_neg hn
    rw [e]
    exact trie_Rank_in n hL hl (by omega) (by omega) h0 h1
end Go.Proofs.Ytkhcmddeeodbkaa.GL
