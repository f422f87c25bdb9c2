import Derived.Test.YtkhcmddeeodbkaaZSortedAll14
-- Own texts and, of the words that the kit's print program wrote for this claim, those that are needed here: put together by wip/prune.py.
set_option linter.unusedSimpArgs false
set_option linter.unusedVariables false
namespace Go.Proofs.Ytkhcmddeeodbkaa.GL
open Go.RowKit Go.Proofs.YtkhcmddeeodbkaaW.PrintWords Go.Proofs.YtkhcmddeeodbkaaW.PrintLast Go.Proofs.YtkhcmddeeodbkaaW.PrintMore Go.Proofs.Ytkhcmddeeodbkaa.Q Go.Proofs.Ytkhcmddeeodbkaa.XSor Go.Proofs.Ytkhcmddeeodbkaa.G
def rankT (L : List Bool) (h : Int) : Nat → Int → Int → Int → Option Int
 | 0, at_, n, a => if n = 0 then none else if n < 2 then some a else none
 | k + 1, at_, n, a => if n = 0 then none else if n < 2 then some a else match readT L at_ n with
   | none => none
   | some (l, e) => if bitT h k = true then (match skipT L k e l with
     | none => none
     | some t => rankT L h k t (n - l) (a + l)) else rankT L h k e l a
theorem rankT_0 (L : List Bool) (h : Int) (k : Nat) (at_ a : Int) : rankT L h k at_ 0 a = none := by cases k <;> rfl
theorem rankT_1 (L : List Bool) (h : Int) (k : Nat) (at_ a : Int) : rankT L h k at_ 1 a = some a := by cases k <;> rfl
theorem rankT_s {L : List Bool} {h : Int} {k : Nat} {at_ n a : Int} (hn : 2 ≤ n) : rankT L h (k + 1) at_ n a = match readT L at_ n with
    | none => none
    | some (l, e) => if bitT h k = true then (match skipT L k e l with
      | none => none
      | some t => rankT L h k t (n - l) (a + l)) else rankT L h k e l a := by
 rw [rankT, if_neg (by omega), if_neg (by omega)]
theorem rankT_e {L : List Bool} {h : Int} {at_ n a : Int} (hn : 2 ≤ n) : rankT L h 0 at_ n a = none := by
 rw [rankT, if_neg (by omega), if_neg (by omega)]
set_option maxRecDepth 1000000 in
set_option maxHeartbeats 8000000 in
theorem trie_Rank_in {w : World} {P : Option Addr} {L : List Bool} {h : Int} (n : Int) (hL : BitsP w P L) (hl : L.length < 100000000000) (hn0 : 0 ≤ n) (hn : n ≤ 4096) (h0 : 0 ≤ h) (h1 : h < 18446744073709551616) :
    Calls Try.prog 64 #[.pointer P, .int .i64 n, .int .u64 h] w fun e w' => e = .returned (skipR (rankT L h 64 0 n 0)) ∧ w = w' := by
 have HL := Aside0.mk hL
 have HLL := Aside0.mk hl
 have HH0 := Aside0.mk h0
 have HH1 := Aside0.mk h1
 obtain ⟨R, hR⟩ : ∃ R, R = rankT L h 64 0 n 0 := ⟨_, rfl⟩
 rw [← hR]
 have HRR := Aside0.mk hR
 have hc0 : decide (n < 0) = false := decide_eq_false (by omega)
 have hc1 : decide (4096 < n) = false := decide_eq_false (by omega)
 have HA := Aside0.mk (And.intro hn0 hn)
 clear hL hl h0 h1 hR hn0 hn
 go_enter Try.func64, Try.ntmps64
 go_wp2
 go_loop [1, 8, 9, 10] (fun v1 v8 v9 v10 => ∃ (k : Nat) (at_ n a : Int), v10 = .int .i64 (64 - (k : Int)) ∧ v1 = .int .i64 n ∧ v8 = .int .i64 at_ ∧ v9 = .int .i64 a ∧ k ≤ 64 ∧ 0 ≤ n ∧ n ≤ 4096 ∧ 0 ≤ a ∧ a + n ≤ 4096 ∧ Aside0 (R = rankT L h k at_ n a)) (fun _ _ _ v => (64 - intOf v).toNat)
 case atStart => exact ⟨64, 0, n, 0, by first | rfl | go_num, rfl, rfl, rfl, Nat.le_refl _, HA.out.1, HA.out.2, by decide, by have := HA.out.2; omega, HRR⟩
 case round =>
  clear HRR hc0 hc1 HA
  obtain ⟨k, at_, n, a, rfl, rfl, rfl, rfl, hk, hn0, hn1, ha0, ha1, HE⟩ := hrel
  by_cases hlt : 2 ≤ n
  · have hd := decide_eq_true (show 1 < n by omega)
    have HN0 := Aside0.mk hn0
    have HN1 := Aside0.mk hn1
    cases k with
    | zero =>
      rw [rankT_e hlt] at HE
      clear hlt
      have h64 : (64 : Int) - ((0 : Nat) : Int) = 64 := rfl
      rw [h64]
      clear h64
      go_wp2_with (first | (go_at_call 78; refine (trie_read_deep _ _ HL.out HLL.out HN0.out HN1.out).mono ?_; rintro e w' ⟨rfl, rfl⟩; simp only [readR]))
      go_ret2
      rw [HE.out]
      exact ⟨rfl, rfl⟩
    | succ k =>
      rw [rankT_s hlt] at HE
      have HLT := Aside0.mk hlt
      obtain ⟨r, hr⟩ : ∃ r, r = readT L at_ n := ⟨_, rfl⟩
      rw [← hr] at HE
      have HR := Aside0.mk hr
      have hd3 : (64 : Int) - ((k + 1 : Nat) : Int) = 63 - (k : Int) := by omega
      have hd1 : (63 : Int) - (k : Int) + 1 = 64 - (k : Int) := by omega
      have hk63 : (k : Int) ≤ 63 := by omega
      have HD := Aside0.mk (show (64 : Int) - ((k + 1 : Nat) : Int) < 64 by omega)
      have HD' := Aside0.mk (show (63 : Int) - (k : Int) < 64 by omega)
      have HK := Aside0.mk (show k ≤ 63 by omega)
      have HK64 := Aside0.mk (show k ≤ 64 by omega)
      clear hlt hk
      rw [hd3] at HD ⊢
      cases r with
      | none =>
        replace HE : Aside0 (R = none) := ⟨HE.out⟩
        clear hr
        go_wp2_with (first | (go_at_call 78; refine (trie_read _ _ _ HL.out HLL.out HN0.out HN1.out HD.out).mono ?_; rw [← HR.out]; rintro e w' ⟨rfl, rfl⟩; simp only [readR]))
        go_ret2
        rw [HE.out]
        exact ⟨rfl, rfl⟩
      | some le =>
        obtain ⟨l, e⟩ := le
        have hsp := readT_spec hr.symm
        have hl0 : 0 ≤ l := hsp.1
        have hln : l ≤ n := hsp.2.1
        have HL0 := Aside0.mk hl0
        have HL1 := Aside0.mk (show l ≤ 4096 by omega)
        replace HE : Aside0 (R = if bitT h k = true then (match skipT L k e l with
         | none => none
         | some t => rankT L h k t (n - l) (a + l)) else rankT L h k e l a) := ⟨HE.out⟩
        clear hr hsp
        cases hb : bitT h k with
        | false =>
          have HBT := Aside0.mk hb
          rw [if_neg (by rw [hb]; decide)] at HE
          clear hb
          go_wp2_with (first | (go_at_call 78; refine (trie_read _ _ _ HL.out HLL.out HN0.out HN1.out HD.out).mono ?_; rw [← HR.out]; rintro e w' ⟨rfl, rfl⟩; simp only [readR]) | (go_at_call 75; (try rw [hd3]); refine (trie_bit _ HK.out HH0.out HH1.out).mono ?_; rw [HBT.out]; rintro e w' ⟨rfl, rfl⟩))
          go_round
          case rel => exact ⟨k, e, l, a, by first | rfl | go_num, rfl, rfl, rfl, by omega, hl0, by omega, ha0, by omega, HE⟩
          case measure => have := HK.out; simp [intOf]; omega
        | true =>
          have HBT := Aside0.mk hb
          rw [if_pos hb] at HE
          obtain ⟨s, hs⟩ : ∃ s, s = skipT L k e l := ⟨_, rfl⟩
          rw [← hs] at HE
          have HS := Aside0.mk hs
          clear hb hs
          cases s with
          | none =>
            replace HE : Aside0 (R = none) := ⟨HE.out⟩
            go_wp2_with (first | (go_at_call 78; refine (trie_read _ _ _ HL.out HLL.out HN0.out HN1.out HD.out).mono ?_; rw [← HR.out]; rintro e w' ⟨rfl, rfl⟩; simp only [readR]) | (go_at_call 75; (try rw [hd3]); refine (trie_bit _ HK.out HH0.out HH1.out).mono ?_; rw [HBT.out]; rintro e w' ⟨rfl, rfl⟩) | (go_at_call 79; (try rw [hd1]); refine (trie_skip HL.out HLL.out _ _ _ _ HK64.out rfl HL0.out HL1.out).mono ?_; rw [← HS.out]; rintro e w' ⟨rfl, rfl⟩; simp only [skipR]))
            go_ret2
            rw [HE.out]
            exact ⟨rfl, rfl⟩
          | some t =>
            replace HE : Aside0 (R = rankT L h k t (n - l) (a + l)) := ⟨HE.out⟩
            go_wp2_with (first | (go_at_call 78; refine (trie_read _ _ _ HL.out HLL.out HN0.out HN1.out HD.out).mono ?_; rw [← HR.out]; rintro e w' ⟨rfl, rfl⟩; simp only [readR]) | (go_at_call 75; (try rw [hd3]); refine (trie_bit _ HK.out HH0.out HH1.out).mono ?_; rw [HBT.out]; rintro e w' ⟨rfl, rfl⟩) | (go_at_call 79; (try rw [hd1]); refine (trie_skip HL.out HLL.out _ _ _ _ HK64.out rfl HL0.out HL1.out).mono ?_; rw [← HS.out]; rintro e w' ⟨rfl, rfl⟩; simp only [skipR]))
            go_round
            case rel => exact ⟨k, t, n - l, a + l, by first | rfl | go_num, by first | rfl | go_num, rfl, by first | rfl | go_num, by omega, by omega, by omega, by omega, by omega, HE⟩
            case measure => have := HK.out; simp [intOf]; omega
  · have hd := decide_eq_false (show ¬ 1 < n by omega)
    by_cases hz : n = 0
    · subst hz
      rw [rankT_0] at HE
      clear hlt
      go_wp2
      go_ret2
      rw [HE.out]
      exact ⟨rfl, rfl⟩
    · obtain rfl : n = 1 := by omega
      rw [rankT_1] at HE
      clear hlt hz
      go_wp2
      go_ret2
      rw [HE.out]
      exact ⟨rfl, rfl⟩
def rankI (L : List Bool) (h n : Int) : Option Int := if n < 0 ∨ 4096 < n then none else rankT L h 64 0 n 0
set_option maxRecDepth 1000000 in
set_option maxHeartbeats 8000000 in
theorem trie_Rank {w : World} {P : Option Addr} {L : List Bool} {h : Int} (n : Int) (hL : BitsP w P L) (hl : L.length < 100000000000) (h0 : 0 ≤ h) (h1 : h < 18446744073709551616) :
    Calls Try.prog 64 #[.pointer P, .int .i64 n, .int .u64 h] w fun e w' => e = .returned (skipR (rankI L h n)) ∧ w = w' := by
 by_cases hn : n < 0 ∨ 4096 < n
 · have e : rankI L h n = none := if_pos hn
   rw [e]
   have hc : decide (n < 0) = true ∨ (decide (n < 0) = false ∧ decide (4096 < n) = true) := by
    by_cases h : n < 0
    · exact .inl (decide_eq_true h)
    · exact .inr ⟨decide_eq_false h, decide_eq_true (by omega)⟩
   clear hL hl hn e
   rcases hc with h | ⟨h, h'⟩
   all_goals
    go_enter Try.func64, Try.ntmps64
    go_wp2
    go_ret2
    exact ⟨rfl, rfl⟩
 · have e : rankI L h n = rankT L h 64 0 n 0 := if_neg hn
   rw [e]
   exact trie_Rank_in n hL hl (by omega) (by omega) h0 h1
end Go.Proofs.Ytkhcmddeeodbkaa.GL
namespace Go.Proofs.Ytkhcmddeeodbkaa.GL
open Go.RowKit Go.Proofs.YtkhcmddeeodbkaaW.PrintWords Go.Proofs.YtkhcmddeeodbkaaW.PrintLast Go.Proofs.YtkhcmddeeodbkaaW.PrintMore Go.Proofs.Ytkhcmddeeodbkaa.Q Go.Proofs.Ytkhcmddeeodbkaa.XSor Go.Proofs.Ytkhcmddeeodbkaa.G
def lead (k : Nat) : List Int → Nat
 | [] => 0
 | x :: r => if bitT x k = true then 0 else lead k r + 1
theorem lead_spec (k : Nat) : ∀ ls : List Int, lead k ls ≤ ls.length ∧ (∀ j, j < lead k ls → bitT (ls.getD j 0) k = false) ∧ (lead k ls < ls.length → bitT (ls.getD (lead k ls) 0) k = true) := by
 intro ls
 induction ls with
 | nil => simp [lead]
 | cons x r ih =>
   obtain ⟨h1, h2, h3⟩ := ih
   cases hb : bitT x k with
   | true =>
     have e : lead k (x :: r) = 0 := by rw [lead, if_pos hb]
     rw [e]
     refine ⟨by omega, fun j hj => by omega, fun _ => ?_⟩
     rw [List.getD_cons_zero]
     exact hb
   | false =>
     have e : lead k (x :: r) = lead k r + 1 := by rw [lead, if_neg (by rw [hb]; decide)]
     rw [e, List.length_cons]
     refine ⟨by omega, fun j hj => ?_, fun h => ?_⟩
     · cases j with
       | zero => rw [List.getD_cons_zero]; exact hb
       | succ j => rw [List.getD_cons_succ]; exact h2 j (by omega)
     · rw [List.getD_cons_succ]
       exact h3 (by omega)
def treeG : Nat → List Int → List Bool
 | 0, _ => []
 | k + 1, ls => if ls.length < 2 then [] else gammaBits ((lead k ls : Int) + 1) ++ treeG k (ls.take (lead k ls)) ++ treeG k (ls.drop (lead k ls))
theorem treeG_short (k : Nat) {ls : List Int} (h : ls.length < 2) : treeG k ls = [] := by
 cases k with
 | zero => rfl
 | succ k => rw [treeG, if_pos h]
def OkT (k : Nat) (ls : List Int) : Prop := ls.Pairwise (· < ·) ∧ ∃ c : Int, ∀ x ∈ ls, x / 2 ^ k = c
theorem OkT.zero {ls : List Int} (h : OkT 0 ls) : ls.length < 2 := by
 obtain ⟨hp, c, hc⟩ := h
 match ls, hp, hc with
 | [], _, _ => simp
 | [_], _, _ => simp
 | x :: y :: r, hp, hc =>
   have h1 := hc x (by simp)
   have h2 := hc y (by simp)
   have h3 : x < y := (List.pairwise_cons.1 hp).1 y (by simp)
   rw [Int.pow_zero, Int.ediv_one] at h1 h2
   omega
theorem half (x : Int) (k : Nat) : x / 2 ^ (k + 1) = x / 2 ^ k / 2 := by
 rw [Int.pow_succ, Int.ediv_ediv_of_nonneg (Int.le_of_lt (Int.pow_pos (by decide)))]
theorem bitT_true {x : Int} {k : Nat} (h : bitT x k = true) : x / 2 ^ k = 2 * (x / 2 ^ (k + 1)) + 1 := by
 have h1 : x / 2 ^ k % 2 = 1 := by simpa [bitT] using h
 rw [half]
 omega
theorem bitT_false {x : Int} {k : Nat} (h : bitT x k = false) : x / 2 ^ k = 2 * (x / 2 ^ (k + 1)) := by
 have h1 : ¬ x / 2 ^ k % 2 = 1 := by simpa [bitT] using h
 rw [half]
 omega
theorem mono_div {x y : Int} (k : Nat) (h : x ≤ y) : x / 2 ^ k ≤ y / 2 ^ k := Int.ediv_le_ediv (Int.pow_pos (by decide)) h
theorem OkT.take {k : Nat} {ls : List Int} (h : OkT (k + 1) ls) : OkT k (ls.take (lead k ls)) := by
 obtain ⟨hp, c, hc⟩ := h
 obtain ⟨h1, h2, h3⟩ := lead_spec k ls
 refine ⟨hp.sublist (List.take_sublist _ _), 2 * c, fun x hx => ?_⟩
 obtain ⟨j, hj, rfl⟩ := List.getElem_of_mem hx
 rw [List.length_take] at hj
 rw [List.getElem_take]
 have hb := h2 j (by omega)
 rw [List.getD_eq_getElem?_getD, List.getElem?_eq_getElem (by omega), Option.getD_some] at hb
 rw [bitT_false hb, hc _ (List.getElem_mem _)]
theorem OkT.drop {k : Nat} {ls : List Int} (h : OkT (k + 1) ls) : OkT k (ls.drop (lead k ls)) := by
 obtain ⟨hp, c, hc⟩ := h
 obtain ⟨h1, h2, h3⟩ := lead_spec k ls
 refine ⟨hp.sublist (List.drop_sublist _ _), 2 * c + 1, fun x hx => ?_⟩
 obtain ⟨j, hj, rfl⟩ := List.getElem_of_mem hx
 rw [List.length_drop] at hj
 rw [List.getElem_drop]
 have hb := h3 (by omega)
 rw [List.getD_eq_getElem?_getD, List.getElem?_eq_getElem (by omega), Option.getD_some] at hb
 have h4 := bitT_true hb
 rw [hc _ (List.getElem_mem _)] at h4
 have h5 := hc (ls[lead k ls + j]'(by omega)) (List.getElem_mem _)
 have h6 : ls[lead k ls]'(by omega) ≤ ls[lead k ls + j]'(by omega) := by
  rcases Nat.eq_zero_or_pos j with rfl | hj0
  · exact Int.le_refl _
  · exact Int.le_of_lt (List.pairwise_iff_getElem.1 hp _ _ (by omega) (by omega) (by omega))
 have h7 := mono_div k h6
 rw [half] at h5
 omega
def U64s (ls : List Int) : Prop := ∀ x ∈ ls, 0 ≤ x ∧ x < 18446744073709551616
theorem gammaBits_le1 {x : Int} (h0 : 0 < x) (h1 : x < 18446744073709551616) : (gammaBits x).length ≤ 127 := by
 have hb := Lib.bitLen_le x.toNat 64 (Nat.le_refl _) (by omega)
 rw [gammaBits, if_neg (by omega), List.length_append, numBits_len, numBits_len]
 omega
theorem treeG_le : ∀ (k : Nat) (ls : List Int), ls.length ≤ 4096 → (treeG k ls).length ≤ 127 * (k * ls.length) := by
 intro k
 induction k with
 | zero => intro ls _; simp [treeG]
 | succ k ih =>
   intro ls hl
   rw [treeG]
   by_cases h : ls.length < 2
   · rw [if_pos h]; simp
   · rw [if_neg h]
     have hs := (lead_spec k ls).1
     have h1 := ih (ls.take (lead k ls)) (by rw [List.length_take]; omega)
     have h2 := ih (ls.drop (lead k ls)) (by rw [List.length_drop]; omega)
     have hg := gammaBits_le1 (x := (lead k ls : Int) + 1) (by omega) (by omega)
     rw [List.length_take, Nat.min_eq_left hs] at h1
     rw [List.length_drop] at h2
     rw [List.length_append, List.length_append]
     have e : (k + 1) * ls.length = k * lead k ls + k * (ls.length - lead k ls) + ls.length := by
      rw [Nat.add_mul, Nat.one_mul, ← Nat.mul_add, Nat.add_sub_cancel' hs]
     omega
def BuildPost (base : Nat) (w : World) (p : Nat) (M : List Bool) (e : Ending) (w' : World) : Prop := e = .returned (.tuple #[]) ∧ BO base w' p M ∧ Below base w w'
theorem cutL (A0 : Option Addr) (c0 m : Nat) (ls : List Int) (j : Nat) (hm : m = ls.length) (hj : j ≤ m) (hc : m ≤ c0) :
    ∀ W : World, (Instr.slice 60 (.slice A0 m c0) none (some (.int .i64 j)) none).run Try.prog W = .ok (.slice A0 j c0) W := by
 intro W
 obtain ⟨i0, hi, hi1, hi2, hi3⟩ := info_parts info67
 exact cut_to (P := Try.prog) 60 67 .i64 Try.underlying60 hi A0 m c0 j (by omega) (by omega) hc W
theorem cutR (A0 : Option Addr) (c0 m : Nat) (ls : List Int) (j : Nat) (hm : m = ls.length) (hj : j ≤ m) (hc : m ≤ c0) : ∃ A1 c1 q, q = m - j ∧
    (∀ W : World, (Instr.slice 60 (.slice A0 m c0) (some (.int .i64 j)) none none).run Try.prog W = .ok (.slice A1 q c1) W) ∧
    (∀ W : World, Kd.C (Kd.int .u64) W A0 m ls → Kd.C (Kd.int .u64) W A1 q (ls.drop j)) ∧ q ≤ c1 := by
 subst hm
 obtain ⟨i0, hi0, _, hsz, _⟩ := info_parts info67
 have hcut := cut_from (P := Try.prog) 60 67 .i64 Try.underlying60 hi0 1 hsz A0 ls.length c0 j (by omega) (by omega)
 refine ⟨(if c0 = j then A0 else A0.map (·.add (j * 1))), c0 - j, ls.length - j, rfl, hcut, fun W h => ?_, by omega⟩
 have := Kd.C_drop (m := j) (c := c0) h (by omega) hc
 rw [List.length_drop] at this
 exact this
set_option maxRecDepth 1000000 in
set_option maxHeartbeats 8000000 in
theorem trie_build {w0 : World} {p : Nat} : ∀ (k : Nat) (ls : List Int) (L : List Bool) (w : World) (A : Option Addr) (m c : Nat) (d : Int), k ≤ 64 → d = 64 - (k : Int) → m = ls.length → Kd.C (Kd.int .u64) w0 A m ls → m ≤ c → m ≤ 4096 →
    Below w0.heap.size w0 w → BO w0.heap.size w p L → L.length + 127 * (k * m) < 10000000000 → OkT k ls → U64s ls →
    Calls Try.prog 58 #[.pointer (some ⟨p, 0, none⟩), .slice A m c, .int .i64 d] w (BuildPost w0.heap.size w p (L ++ treeG k ls)) := by
 intro k
 induction k with
 | zero =>
   intro ls L w A m c d _ _ hm _ _ hm4 _ hO _ hok _
   have hsh := hok.zero
   have HE := Aside0.mk (show L ++ treeG 0 ls = L from List.append_nil _)
   have HO := Aside0.mk hO
   have h1 : decide ((m : Int) < 2) = true := decide_eq_true (by omega)
   have h1n : decide (m < 2) = true := decide_eq_true (by omega)
   clear hO hok hsh hm
   go_enter Try.func58, Try.ntmps58
   go_wp2
   refine bodyPost_ret (results_none rfl _ _ _) rfl ?_
   refine ⟨rfl, ?_, Below.refl _ _⟩
   rw [HE.out]
   exact HO.out
 | succ k ih =>
   intro ls L w A m c d hk hd hm hC hc hm4 hB hO hl hok hu
   by_cases hsh : ls.length < 2
   · have HE := Aside0.mk (show L ++ treeG (k + 1) ls = L by rw [treeG_short _ hsh, List.append_nil])
     have HO := Aside0.mk hO
     have h1 : decide ((m : Int) < 2) = true := decide_eq_true (by omega)
     have h1n : decide (m < 2) = true := decide_eq_true (by omega)
     clear hO hok hsh hm hC hB hu ih hl
     go_enter Try.func58, Try.ntmps58
     go_wp2
     refine bodyPost_ret (results_none rfl _ _ _) rfl ?_
     refine ⟨rfl, ?_, Below.refl _ _⟩
     rw [HE.out]
     exact HO.out
   · have h1 : decide ((m : Int) < 2) = false := decide_eq_false (by omega)
     have h1n : decide (m < 2) = false := decide_eq_false (by omega)
     obtain ⟨n, hn⟩ : ∃ n, n = lead k ls := ⟨_, rfl⟩
     have hsp := lead_spec k ls
     rw [← hn] at hsp
     have hnm : n ≤ m := by rw [hm]; exact hsp.1
     have HE := Aside0.mk (show L ++ treeG (k + 1) ls = L ++ gammaBits ((n : Int) + 1) ++ treeG k (ls.take n) ++ treeG k (ls.drop n) by rw [treeG, if_neg hsh, ← hn]; simp [List.append_assoc])
     have HSP := Aside0.mk hsp
     have HC := Aside0.mk hC
     have hct := cutL A c m ls n hm hnm hc
     obtain ⟨A1, c1, q, hq, hcr, hcc, hc1⟩ := cutR A c m ls n hm hnm hc
     have HCR := Aside0.mk (hcc w0 hC)
     have HCL := Aside0.mk (show Kd.C (Kd.int .u64) w0 A n (ls.take n) by
      have := Kd.C_take (k := Kd.int .u64) (m := n) (by rw [hm] at hC; exact hC) (by omega)
      rw [List.length_take, Nat.min_eq_left (by omega)] at this
      exact this)
     have hgl := gammaBits_le1 (x := (n : Int) + 1) (by omega) (by omega)
     have e1 : (k + 1) * m = k * n + k * (m - n) + m := by rw [Nat.add_mul, Nat.one_mul, ← Nat.mul_add, Nat.add_sub_cancel' hnm]
     have htl := treeG_le k (ls.take n) (by rw [List.length_take]; omega)
     rw [List.length_take, Nat.min_eq_left (by omega)] at htl
     have HI1 := Aside0.mk (fun (W : World) (hB : Below w0.heap.size w0 W) (hO : BO w0.heap.size W p (L ++ gammaBits ((n : Int) + 1))) => ih (ls.take n) (L ++ gammaBits ((n : Int) + 1)) W A n c (64 - (k : Int)) (by omega) rfl (by rw [List.length_take]; omega) HCL.out (by omega) (by omega) hB hO (by rw [List.length_append]; omega) (by rw [hn]; exact hok.take) (fun x hx => hu x (List.mem_of_mem_take hx)))
     have HI2 := Aside0.mk (fun (W : World) (hB : Below w0.heap.size w0 W) (hO : BO w0.heap.size W p (L ++ gammaBits ((n : Int) + 1) ++ treeG k (ls.take n))) => ih (ls.drop n) (L ++ gammaBits ((n : Int) + 1) ++ treeG k (ls.take n)) W A1 q c1 (64 - (k : Int)) (by omega) rfl (by rw [List.length_drop]; omega) HCR.out hc1 (by omega) hB hO (by rw [List.length_append, List.length_append, hq]; omega) (by rw [hn]; exact hok.drop) (fun x hx => hu x (List.mem_of_mem_drop hx)))
     have HLL := Aside0.mk (show L.length < 10000000000 by omega)
     have HB := Aside0.mk hB
     have HB2 := Aside0.mk (Below.refl w0.heap.size w)
     have HO := Aside0.mk hO
     have HU := Aside0.mk hu
     have HM := Aside0.mk hm
     have hd0 : d = 63 - (k : Int) := by omega
     have hd1 : (63 : Int) - (k : Int) + 1 = 64 - (k : Int) := by omega
     have hk63 : (k : Int) ≤ 63 := by omega
     have HK := Aside0.mk (show k ≤ 63 by omega)
     have hn4 : (n : Int) ≤ 4096 := by omega
     have hm4' : (m : Int) ≤ 4096 := by omega
     subst hd0
     clear ih hq hok hsh hm hC hO hu hB hsp hl hgl htl e1 hcc hn hk hd
     go_enter Try.func58, Try.ntmps58
     go_wp2
     go_loop [6] (fun v6 => ∃ (j : Nat), v6 = .int .i64 j ∧ j ≤ n) (fun v => n - (intOf v).toNat)
     case atStart => exact ⟨0, by first | rfl | go_num, Nat.zero_le _⟩
     case round =>
      obtain ⟨j, rfl, hj⟩ := hrel
      by_cases hjm : j < m
      · have hjz : (j : Int) < (m : Int) := by omega
        have hjd : decide ((j : Int) < (m : Int)) = true := decide_eq_true hjz
        obtain ⟨ad, e, hx⟩ := Kd.at_int (Kd.C_below HC.out HB.out) (j : Int) (Int.natCast_nonneg _) hjz
        cases e
        obtain ⟨x, hxe⟩ : ∃ x, x = ls.getD j 0 := ⟨_, rfl⟩
        replace hx : w.cell? (ad.add j) = some (.int .u64 x) := by rw [hxe]; exact hx
        have hxu : 0 ≤ x ∧ x < 18446744073709551616 := by
         have hjl : j < ls.length := by rw [← HM.out]; exact hjm
         rw [hxe, List.getD_eq_getElem?_getD, List.getElem?_eq_getElem hjl, Option.getD_some]
         exact HU.out _ (List.getElem_mem _)
        have HX0 := Aside0.mk hxu.1
        have HX1 := Aside0.mk hxu.2
        by_cases hjn : j < n
        · have HBT := Aside0.mk (show bitT x k = false by rw [hxe]; exact HSP.out.2.1 j hjn)
          have HJN := Aside0.mk hjn
          clear hxe hjm hjn hj hxu
          go_wp2_with (first | (go_at_call 75; refine (trie_bit _ HK.out HX0.out HX1.out).mono ?_; rw [HBT.out]; rintro e w' ⟨rfl, rfl⟩))
          go_round
          case rel => exact ⟨j + 1, by first | rfl | go_num, HJN.out⟩
          case measure => have := HJN.out; simp [intOf]; omega
        · obtain rfl : j = n := by omega
          have HBT := Aside0.mk (show bitT x k = true by rw [hxe]; exact HSP.out.2.2 (by rw [← HM.out]; exact hjm))
          clear hxe hjm hjn hj hxu
          go_wp2_with (first
           | (go_at_call 75; refine (trie_bit _ HK.out HX0.out HX1.out).mono ?_; rw [HBT.out]; rintro e w' ⟨rfl, rfl⟩)
           | (go_at_call 76; refine (gamma_Put _ HO.out HB.out.size HLL.out (by omega) (by omega)).mono ?_; rintro e w2 ⟨rfl, hO, hb, hkk⟩; have n0_ := Aside0.mk hO; have n1_ := Aside0.mk (HB.out.trans hb); have n2_ := Aside0.mk (HB2.out.trans hb); clear HO HB HB2; have HO := n0_; have HB := n1_; have HB2 := n2_; clear n0_ n1_ n2_ hO hb hkk)
           | (go_at_call 58; (try rw [hd1]); (first
 | ((with_reducible refine (HI2.out _ HB.out HO.out).mono ?_))
 | ((with_reducible refine (HI1.out _ HB.out HO.out).mono ?_))); rintro e w2 ⟨rfl, hO, hb⟩; have n0_ := Aside0.mk hO; have n1_ := Aside0.mk (HB.out.trans hb); have n2_ := Aside0.mk (HB2.out.trans hb); clear HO HB HB2; have HO := n0_; have HB := n1_; have HB2 := n2_; clear n0_ n1_ n2_ hO hb))
          go_end0
          refine ⟨rfl, ?_, HB2.out⟩
          rw [HE.out]
          exact HO.out
      · obtain rfl : j = m := by omega
        obtain rfl : j = n := by omega
        have hjd : decide ((j : Int) < (j : Int)) = false := decide_eq_false (by omega)
        have hjd2 : decide (j < j) = false := decide_eq_false (by omega)
        clear hjm hj
        go_wp2_with (first
         | (go_at_call 76; refine (gamma_Put _ HO.out HB.out.size HLL.out (by omega) (by omega)).mono ?_; rintro e w2 ⟨rfl, hO, hb, hkk⟩; have n0_ := Aside0.mk hO; have n1_ := Aside0.mk (HB.out.trans hb); have n2_ := Aside0.mk (HB2.out.trans hb); clear HO HB HB2; have HO := n0_; have HB := n1_; have HB2 := n2_; clear n0_ n1_ n2_ hO hb hkk)
         | (go_at_call 58; (try rw [hd1]); (first
 | ((with_reducible refine (HI2.out _ HB.out HO.out).mono ?_))
 | ((with_reducible refine (HI1.out _ HB.out HO.out).mono ?_))); rintro e w2 ⟨rfl, hO, hb⟩; have n0_ := Aside0.mk hO; have n1_ := Aside0.mk (HB.out.trans hb); have n2_ := Aside0.mk (HB2.out.trans hb); clear HO HB HB2; have HO := n0_; have HB := n1_; have HB2 := n2_; clear n0_ n1_ n2_ hO hb))
        go_end0
        refine ⟨rfl, ?_, HB2.out⟩
        rw [HE.out]
        exact HO.out
def buildT (ls : List Int) : Option (List Bool) := if ls.length ≤ 4096 ∧ ls.Pairwise (· < ·) then some (treeG 64 ls) else none
def BuildsPost (w : World) (o : Option (List Bool)) (e : Ending) (w' : World) : Prop :=
 Below w.heap.size w w' ∧ match o with
 | some L => ∃ p, e = .returned (.tuple #[.pointer (some ⟨p, 0, none⟩), .bool true]) ∧ BO w.heap.size w' p L
 | none => e = .returned (.tuple #[.pointer none, .bool false])
theorem pairwise_more {ls : List Int} {i : Nat} (h : (ls.take (i + 1)).Pairwise (· < ·)) (hi : i + 1 < ls.length) (hx : ls.getD i 0 < ls.getD (i + 1) 0) : (ls.take (i + 2)).Pairwise (· < ·) := by
 rw [List.take_succ_eq_append_getElem hi, List.pairwise_append]
 refine ⟨h, by simp, fun a ha b hb => ?_⟩
 simp only [List.mem_singleton] at hb
 subst hb
 rw [List.getD_eq_getElem?_getD, List.getD_eq_getElem?_getD, List.getElem?_eq_getElem (by omega), List.getElem?_eq_getElem hi, Option.getD_some, Option.getD_some] at hx
 obtain ⟨j, hj, rfl⟩ := List.getElem_of_mem ha
 rw [List.length_take] at hj
 rw [List.getElem_take]
 by_cases hji : j = i
 · subst hji; exact hx
 · have := List.pairwise_iff_getElem.1 h j i (by rw [List.length_take]; omega) (by rw [List.length_take]; omega) (by omega)
   rw [List.getElem_take, List.getElem_take] at this
   omega
theorem OkT.all {ls : List Int} (hp : ls.Pairwise (· < ·)) (hu : U64s ls) : OkT 64 ls := by
 refine ⟨hp, 0, fun x hx => ?_⟩
 have := hu x hx
 exact Int.ediv_eq_zero_of_lt this.1 (by have e : (2 : Int) ^ 64 = 18446744073709551616 := rfl; omega)
set_option maxRecDepth 1000000 in
set_option maxHeartbeats 8000000 in
theorem trie_Build {w : World} {A : Option Addr} {m c : Nat} {ls : List Int} (hm : m = ls.length) (hC : Kd.C (Kd.int .u64) w A m ls) (hc : m ≤ c) (hml : m < 1000000000) (hu : U64s ls) :
    Calls Try.prog 33 #[.slice A m c] w (BuildsPost w (buildT ls)) := by
 have hub := Try.underlying101
 have hmz : (m : Int) < 1000000000 := by omega
 by_cases hmost : 4096 < m
 · have e : buildT ls = none := if_neg (fun h => by omega)
   rw [e]
   have h1 : decide ((4096 : Int) < (m : Int)) = true := decide_eq_true (by omega)
   have h1n : decide (4096 < m) = true := decide_eq_true hmost
   clear hm hC hu hmost e hml
   go_enter Try.func33, Try.ntmps33
   go_wp2
   go_ret2
   exact ⟨Below.refl _ _, rfl⟩
 · have h1 : decide ((4096 : Int) < (m : Int)) = false := decide_eq_false (by omega)
   have h1n : decide (4096 < m) = false := decide_eq_false hmost
   obtain ⟨R, hR⟩ : ∃ R, R = buildT ls := ⟨_, rfl⟩
   rw [← hR]
   have HR := Aside0.mk hR
   have HC := Aside0.mk hC
   have HM := Aside0.mk hm
   have HU := Aside0.mk hu
   have HCC := Aside0.mk hc
   have HM4 := Aside0.mk (show m ≤ 4096 by omega)
   have HPW0 := Aside0.mk (show (ls.take 1).Pairwise (· < ·) by cases ls <;> simp)
   clear hR hC hm hu hc hmost hml
   go_enter Try.func33, Try.ntmps33
   go_wp2
   go_loopw [4] (fun v4 wr => ∃ (i : Nat), v4 = .int .i64 ((i : Int) + 1) ∧ i ≤ m ∧ Aside0 ((ls.take (i + 1)).Pairwise (· < ·)) ∧ Aside0 (Drawn0 w wr)) (fun v _ => m + 1 - (intOf v).toNat)
   case atStart => exact ⟨0, by first | rfl | go_num, Nat.zero_le _, HPW0, ⟨Drawn0.refl _⟩⟩
   case round =>
    clear HPW0
    obtain ⟨i, rfl, hi, HPW, HD⟩ := hrel
    obtain ⟨nd, rfl⟩ := HD.out.out
    clear HD
    have hi4 : (i : Int) ≤ 4096 := by have := HM4.out; omega
    by_cases hlt : i + 1 < m
    · have hlz : (i : Int) + 1 < (m : Int) := by omega
      have hld := decide_eq_true hlz
      obtain ⟨ad, e, hx⟩ := Kd.at_int HC.out (i : Int) (Int.natCast_nonneg _) (by omega)
      cases e
      obtain ⟨ad2, e2, hy⟩ := Kd.at_int HC.out ((i : Int) + 1) (by omega) hlz
      cases e2
      obtain ⟨x, hxe⟩ : ∃ x, x = ls.getD i 0 := ⟨_, rfl⟩
      obtain ⟨y, hye⟩ : ∃ y, y = ls.getD (i + 1) 0 := ⟨_, rfl⟩
      have hti : ((i : Int) + 1).toNat = i + 1 := by omega
      replace hx : w.cell? (ad.add i) = some (.int .u64 x) := by rw [hxe]; exact hx
      replace hy : w.cell? (ad.add (i + 1)) = some (.int .u64 y) := by rw [hti] at hy; rw [hye, hy]; unfold rd; rw [hti]
      have hil : i + 1 < ls.length := by rw [← HM.out]; exact hlt
      obtain ⟨j, hj⟩ : ∃ j : Nat, j = i + 1 := ⟨_, rfl⟩
      have hjz : (i : Int) + 1 = (j : Int) := by omega
      have hjm : (j : Int) < (m : Int) := by omega
      have hj1 : (j : Int) - 1 = (i : Int) := by omega
      have hw1 : IntKind.i64.wrap ((j : Int) - 1) = (i : Int) := by rw [hj1]; exact (i64_w _).trans (w64 (by omega) (by omega))
      have him : (i : Int) < (m : Int) := by omega
      rw [hjz] at hld ⊢
      rw [← hj] at hy
      have HJ := Aside0.mk hjz
      clear hti hlz hj hjz hj1
      by_cases hge : y ≤ x
      · have hgd := decide_eq_true hge
        have HE := Aside0.mk (show R = none by
         rw [HR.out]
         refine if_neg (fun h => ?_)
         have := List.pairwise_iff_getElem.1 h.2 i (i + 1) (by omega) hil (by omega)
         rw [List.getD_eq_getElem?_getD, List.getElem?_eq_getElem (by omega), Option.getD_some] at hxe
         rw [List.getD_eq_getElem?_getD, List.getElem?_eq_getElem hil, Option.getD_some] at hye
         omega)
        clear hxe hye hge hil hlt hi
        go_wp2
        go_quiet (fail)
        go_wp2
        go_ret2
        rw [HE.out]
        exact ⟨pw_below_drewN (pw_below_drewN (Below.refl _ _) _) _, rfl⟩
      · have hgd := decide_eq_false hge
        have HPW2 := Aside0.mk (pairwise_more HPW.out hil (by rw [← hxe, ← hye]; omega))
        have HLT := Aside0.mk hlt
        clear hxe hye hge hil hlt hi HPW
        go_wp2
        go_quiet (fail)
        go_wp2
        clear hw1
        have hij := HJ.out
        refine ⟨⟨i + 1, by first | rfl | go_num, by have := HLT.out; omega, HPW2, ⟨⟨_, rfl⟩⟩⟩, ?_⟩
        have := HLT.out
        simp [intOf]
        omega
    · have hld := decide_eq_false (show ¬ (i : Int) + 1 < (m : Int) by omega)
      have HPW2 := Aside0.mk (show ls.Pairwise (· < ·) by have := HPW.out; rw [List.take_of_length_le (by rw [← HM.out]; omega)] at this; exact this)
      have HE := Aside0.mk (show R = some (treeG 64 ls) by rw [HR.out]; exact if_pos ⟨by rw [← HM.out]; exact HM4.out, HPW2.out⟩)
      have HB := Aside0.mk (pw_below_drewN (Below.refl w.heap.size w) nd)
      clear hlt hi
      go_wp2_with (first
       | ((with_reducible refine gate_dst (N := 25) rfl ?_); refine box_event ?hg (N := 25) ?hd (cs := #[.slice none 0 0, .int .i64 0]) (t := 101) ?hr ?_; (case hd => rfl); (case hg => rfl); (case hr => first | (go_simp; done) | (go_simp; rfl)); intro p hg w5 hbox hb; have n0_ := Aside0.mk (BO.new (base := w.heap.size) hbox (by rw [hg]; exact HB.out.size)); have n1_ := Aside0.mk (below_step HB.out hb); clear HB; have HO := n0_; have HB := n1_; clear n0_ n1_; clear hb hbox hg)
       | ((with_reducible refine gate_dst (N := 26) rfl ?_); refine box_event ?hg (N := 26) ?hd (cs := #[.slice none 0 0, .int .i64 0]) (t := 101) ?hr ?_; (case hd => rfl); (case hg => rfl); (case hr => first | (go_simp; done) | (go_simp; rfl)); intro p hg w5 hbox hb; have n0_ := Aside0.mk (BO.new (base := w.heap.size) hbox (by rw [hg]; exact HB.out.size)); have n1_ := Aside0.mk (below_step HB.out hb); clear HB; have HO := n0_; have HB := n1_; clear n0_ n1_; clear hb hbox hg)
       | (go_at_call 58; refine (trie_build 64 ls [] _ A m c 0 (by omega) rfl HM.out HC.out HCC.out HM4.out HB.out HO.out (by have := HM4.out; rw [List.length_nil]; omega) (OkT.all HPW2.out HU.out) HU.out).mono ?_; rintro e w2 ⟨rfl, hO, hb⟩; rw [List.nil_append] at hO; have n0_ := Aside0.mk hO; have n1_ := Aside0.mk (HB.out.trans hb); clear HO HB; have HO := n0_; have HB := n1_; clear n0_ n1_ hO hb))
      go_ret2
      rw [HE.out]
      exact ⟨HB.out, _, rfl, HO.out⟩
end Go.Proofs.Ytkhcmddeeodbkaa.GL
namespace Go.Proofs.Ytkhcmddeeodbkaa.XSor
open Go.RowKit Go.Proofs.Ytkhcmddeeodbkaa.G Go.Proofs.YtkhcmddeeodbkaaW.PrintWords Go.Proofs.YtkhcmddeeodbkaaW.PrintLast Go.Proofs.YtkhcmddeeodbkaaW.PrintMore
attribute [local go_sem] max2_int min2_int max_two min_two max_three min_three max_four min_four
def loessref6_digits.l0 : Nat → Int → Int → Option (Int)
 | 0, _, _ => none
 | k + 1, x0, x3 => if x0 > 0 then (loessref6_digits.l0 k (x0 / 2) (wrap64 (x3 + 1))) else (some x3)
def loessref6_digits.f (k : Nat) (a0 : Int) : Option (Int) := loessref6_digits.l0 k a0 0
theorem loessref6_digits.mono_l : ∀ k, (∀ y0 y1, LeO (loessref6_digits.l0 k y0 y1) (loessref6_digits.l0 (k + 1) y0 y1))
 | 0 => fun _ _ r h => by simp [loessref6_digits.l0] at h
 | k + 1 => by
   have ih0 := loessref6_digits.mono_l k
   · intro y0 y1
     unfold loessref6_digits.l0
     repeat' first
     | (with_reducible exact ih0 _ _)
     | (with_reducible exact LeO.refl _)
     | (with_reducible exact LeO.none _)
     | (with_reducible refine LeO.ite ?_ ?_)
     | (with_reducible refine LeO.bind ?_ (fun _ => ?_))
     | exact ih0 _ _
     | exact LeO.none _
     | refine LeO.ite ?_ ?_
     | refine LeO.bind ?_ (fun _ => ?_)
theorem loessref6_digits.mono : ∀ a0 k, LeO (loessref6_digits.f k a0) (loessref6_digits.f (k + 1) a0) := by
 intro a0 k
 have ih0 := loessref6_digits.mono_l k
 unfold loessref6_digits.f
 repeat' first
     | (with_reducible exact ih0 _ _)
     | (with_reducible exact LeO.refl _)
     | (with_reducible exact LeO.none _)
     | (with_reducible refine LeO.ite ?_ ?_)
     | (with_reducible refine LeO.bind ?_ (fun _ => ?_))
     | exact ih0 _ _
     | exact LeO.none _
     | refine LeO.ite ?_ ?_
     | refine LeO.bind ?_ (fun _ => ?_)
set_option maxHeartbeats 8000000 in
set_option maxRecDepth 100000 in
theorem loessref6_digits.calls (k : Nat) (a0 : Int) (r : Int) (w : World) (h : loessref6_digits.f k a0 = some r) :
    Calls Try.prog 87 #[.int .u64 a0] w fun e w' => e = .returned (.int .i64 r) ∧ Drawn0 w w' := by
 have H : (loessref6_digits.l0 k a0 0) = some r := h
 clear h
 have H' := Aside0.mk H
 clear H
 go_enter Try.func87, Try.ntmps87
 go_wp2
 go_loopg [0, 3] k (fun kq v0 v3 w' => ∃ (x0_1 : Int) (x3_1 : Int), v0 = .int .u64 x0_1 ∧ v3 = .int .i64 x3_1 ∧ Aside0 (loessref6_digits.l0 kq x0_1 x3_1 = some r) ∧ Aside0 (kq ≤ k) ∧ Drawn0 w w')
 case atStart => exact ⟨(a0), (0), (by first | rfl | (simp; done) | (simp [*]; done)), (by first | rfl | (simp; done) | (simp [*]; done)), H', ⟨Nat.le_refl _⟩, by repeat (first | exact Drawn0.refl _ | apply Drawn0.step)⟩
 case round =>
  clear H'
  obtain ⟨x0_1, x3_1, rfl, rfl, HA, HK1, ⟨m1, rfl⟩⟩ := hrel
  cases gk with
  | zero => exact absurd HA.out (by simp [loessref6_digits.l0])
  | succ k1 =>
    have H := HA.out
    clear HA
    simp only [loessref6_digits.l0] at H
    by_cases c2 : x0_1 > 0
    · rw [if_pos c2] at H
      have c2b0 : decide (0 < x0_1) = true := decide_eq_true c2
      clear c2
      have H' := Aside0.mk H
      clear H
      go_wp2
      go_roundg k1
      case measure => have := HK1.out; omega
      case rel => exact ⟨(x0_1 / 2), (wrap64 (x3_1 + 1)), (by first | rfl | (simp; done) | (simp [*]; done)), (by first | rfl | (simp; done) | (simp [*]; done)), H', ⟨by have := HK1.out; omega⟩, by repeat (first | exact Drawn0.refl _ | apply Drawn0.step)⟩
    · rw [if_neg c2] at H
      have c2b0 : decide (0 < x0_1) = false := decide_eq_false c2
      clear c2
      obtain rfl := Option.some.inj H
      go_wp2
      go_ret
      exact ⟨by first | rfl | (simp; done) | (simp [*]; done), by repeat (first | exact Drawn0.refl _ | apply Drawn0.step)⟩
end Go.Proofs.Ytkhcmddeeodbkaa.XSor
namespace Go.Proofs.Ytkhcmddeeodbkaa.XSor
open Go.RowKit Go.Proofs.Ytkhcmddeeodbkaa.G Go.Proofs.YtkhcmddeeodbkaaW.PrintWords Go.Proofs.YtkhcmddeeodbkaaW.PrintLast Go.Proofs.YtkhcmddeeodbkaaW.PrintMore
attribute [local go_sem] max2_int min2_int max_two min_two max_three min_three max_four min_four
mutual
def loessref6_Bits_PutNum.j0 : Nat → Int → Int → List Bool → Bool → Option (List Bool)
 | 0, _, _, _, _ => none
 | k + 1, x1, x2, x7, x16 => if x16 = true then (some x7) else (loessref6_Bits_PutNum.l0 k x1 x7 (wrap64 (x2 - 1)))
def loessref6_Bits_PutNum.l0 : Nat → Int → List Bool → Int → Option (List Bool)
 | 0, _, _, _ => none
 | k + 1, x1, x7, x8 => if x8 ≥ 0 then (if 0 ≤ (IntKind.u64.wrap (x8)) then (if x7.length < 140737488355328 then (loessref6_Bits_PutNum.l0 k x1 (x7 ++ [((Go.bits .and .u64 (shr .u64 x1 (IntKind.u64.wrap (x8))) 1) == 1)]) (wrap64 (x8 - 1))) else (none)) else (none)) else (some x7)
end
def loessref6_Bits_PutNum.f (k : Nat) (l0 : List Bool) (a1 : Int) (a2 : Int) : Option (List Bool) := if ([] : List Bool).length + l0.length < 140737488355328 then ((some (([] : List Bool) ++ l0 : List Bool)).bind fun y400 => (if a2 < 0 then (loessref6_Bits_PutNum.j0 k a1 a2 y400 true) else (loessref6_Bits_PutNum.j0 k a1 a2 y400 (decide (a2 > 64))))) else (none)
theorem loessref6_Bits_PutNum.mono_l : ∀ k, (∀ y0 y1 y2 y3, LeO (loessref6_Bits_PutNum.j0 k y0 y1 y2 y3) (loessref6_Bits_PutNum.j0 (k + 1) y0 y1 y2 y3)) ∧ (∀ y0 y1 y2, LeO (loessref6_Bits_PutNum.l0 k y0 y1 y2) (loessref6_Bits_PutNum.l0 (k + 1) y0 y1 y2))
 | 0 => ⟨fun _ _ _ _ r h => by simp [loessref6_Bits_PutNum.j0] at h, fun _ _ _ r h => by simp [loessref6_Bits_PutNum.l0] at h⟩
 | k + 1 => by
   obtain ⟨ih0, ih1⟩ := loessref6_Bits_PutNum.mono_l k
   refine ⟨?_, ?_⟩
   · intro y0 y1 y2 y3
     unfold loessref6_Bits_PutNum.j0
     repeat' first
     | (with_reducible exact ih0 _ _ _ _)
     | (with_reducible exact ih1 _ _ _)
     | (with_reducible exact LeO.refl _)
     | (with_reducible exact LeO.none _)
     | (with_reducible refine LeO.ite ?_ ?_)
     | (with_reducible refine LeO.bind ?_ (fun _ => ?_))
     | exact ih0 _ _ _ _
     | exact ih1 _ _ _
     | exact LeO.none _
     | refine LeO.ite ?_ ?_
     | refine LeO.bind ?_ (fun _ => ?_)
   · intro y0 y1 y2
     unfold loessref6_Bits_PutNum.l0
     repeat' first
     | (with_reducible exact ih0 _ _ _ _)
     | (with_reducible exact ih1 _ _ _)
     | (with_reducible exact LeO.refl _)
     | (with_reducible exact LeO.none _)
     | (with_reducible refine LeO.ite ?_ ?_)
     | (with_reducible refine LeO.bind ?_ (fun _ => ?_))
     | exact ih0 _ _ _ _
     | exact ih1 _ _ _
     | exact LeO.none _
     | refine LeO.ite ?_ ?_
     | refine LeO.bind ?_ (fun _ => ?_)
theorem loessref6_Bits_PutNum.mono : ∀ a0 a1 a2 k, LeO (loessref6_Bits_PutNum.f k a0 a1 a2) (loessref6_Bits_PutNum.f (k + 1) a0 a1 a2) := by
 intro a0 a1 a2 k
 obtain ⟨ih0, ih1⟩ := loessref6_Bits_PutNum.mono_l k
 unfold loessref6_Bits_PutNum.f
 repeat' first
     | (with_reducible exact ih0 _ _ _ _)
     | (with_reducible exact ih1 _ _ _)
     | (with_reducible exact LeO.refl _)
     | (with_reducible exact LeO.none _)
     | (with_reducible refine LeO.ite ?_ ?_)
     | (with_reducible refine LeO.bind ?_ (fun _ => ?_))
     | exact ih0 _ _ _ _
     | exact ih1 _ _ _
     | exact LeO.none _
     | refine LeO.ite ?_ ?_
     | refine LeO.bind ?_ (fun _ => ?_)
set_option maxHeartbeats 8000000 in
set_option maxRecDepth 100000 in
theorem loessref6_Bits_PutNum.calls (k : Nat) (A0 : Option Addr) (c0 : Nat) (l0 : List Bool) (a1 : Int) (a2 : Int) (r : List Bool) (w : World) (hr0 : Kd.C Kd.bool w A0 l0.length l0) (hc0 : l0.length ≤ c0) (h : loessref6_Bits_PutNum.f k l0 a1 a2 = some r) :
    Calls Try.prog 88 #[.slice A0 l0.length c0, .int .u64 a1, .int .i64 a2] w fun e w' => ∃ v0_ : Value, e = .returned (v0_) ∧ Kd.R Kd.bool 4 w' w.heap.size (fun _ => True) v0_ r ∧ Below w.heap.size w w' := by
 have HR0 := Aside0.mk hr0
 have HC0 := Aside0.mk hc0
 clear hr0 hc0
 have HB := Aside0.mk (Below.refl w.heap.size w)
 have H : (if ([] : List Bool).length + l0.length < 140737488355328 then ((some (([] : List Bool) ++ l0 : List Bool)).bind fun y400 => (if a2 < 0 then (loessref6_Bits_PutNum.j0 k a1 a2 y400 true) else (loessref6_Bits_PutNum.j0 k a1 a2 y400 (decide (a2 > 64))))) else (none)) = some r := h
 clear h
 by_cases c4 : ([] : List Bool).length + l0.length < 140737488355328
 · rw [if_pos c4] at H
   have LMc4 := Aside0.mk c4
   clear c4
   obtain ⟨y400, hy400⟩ : ∃ y_ : List Bool, y_ = (([] : List Bool) ++ l0) := ⟨_, rfl⟩
   replace H : (if a2 < 0 then (loessref6_Bits_PutNum.j0 k a1 a2 y400 true) else (loessref6_Bits_PutNum.j0 k a1 a2 y400 (decide (a2 > 64)))) = some r := by first | (rw [hy400]; with_reducible exact H) | (have H2_ := (Option.bind_some _ _).symm.trans H; rw [hy400]; with_reducible exact H2_) | (have H2_ := (Option.bind_some _ _).symm.trans H; with_reducible exact H2_) | with_reducible exact H | (rw [hy400]; exact H) | exact H
   have Ny400 := Aside0.mk hy400
   clear hy400
   have HC5 := Aside0.mk H
   clear H
   go_enter Try.func88, Try.ntmps88
   go_upto_region 2 with (first | ((with_reducible refine gate_builtin (b := .append) (xs := #[.const (.slice none 0 0), .tmp 9]) rfl ?_); at_builtin; refine Kd.R_append_rows Kd.bool (w0 := w) w.heap.size rfl (.const (.slice none 0 0)) (.tmp 9) 113 4 (.bool false) 1 rfl Try.underlying113 info4 rfl (by decide) (by omega) (.slice none 0 0) ([] : List Bool) l0 _ _ _ (fun _ => True) (fun _ => False) rfl rfl ?aO ?aR (fun _ _ h => h) (fun _ h => h.elim) ?aF ?aB ?aS ?aL ?_; (case aR => repeat (first | exact HR0.out | (with_reducible refine Kd.C_alloc ?_ _) | (with_reducible refine Kd.C_drewN ?_ _) | (with_reducible refine Kd.C_drew ?_))); (case aB => exact (by repeat (first | (with_reducible first | exact HB.out | apply below_alloc | apply pw_below_drewN | apply below_drew1) | exact HB.out))); (case aF => exact (fun _ _ => trivial)); (case aO => exact ((Kd.R_nil _ _ _ _ (fun _ => True)))); (case aS => exact (below_size (by repeat (first | (with_reducible first | exact HB.out | apply below_alloc | apply pw_below_drewN | apply below_drew1) | exact HB.out)))); (case aL => have := LMc4.out; omega); intro v401 w6 ho hb hg hat; rw [← Ny400.out] at ho; have n0_ := Aside0.mk (hb); have n1_ := Aside0.mk (ho); clear HB; have HB := n0_; have HO402 := n1_; clear n0_ n1_; clear ho hb hg hat))
   (try simp only [Act.put, List.setIfInBounds_toArray, List.set_cons_zero, List.set_cons_succ])
   go_cut [16] (fun v16 wc => ∃ (kq : Nat) (x16_4 : Bool), v16 = .bool x16_4 ∧ Aside0 (loessref6_Bits_PutNum.j0 kq a1 a2 y400 x16_4 = some r) ∧ Aside0 (kq ≤ k) ∧ Aside0 (Kd.R Kd.bool 4 wc w.heap.size (fun _ => True) v401 y400) ∧ Aside0 (Below w.heap.size w wc))
   case first =>
    have H := HC5.out
    clear HC5
    by_cases c7 : a2 < 0
    · rw [if_pos c7] at H
      have c7b0 : decide (a2 < 0) = true := decide_eq_true c7
      clear c7
      (first | rw [c7b0] | (simp only [i64_w, i32_w]; rw [c7b0]) | skip)
      have H' := Aside0.mk H
      clear H
      go_wp2
      go_meet
      case rel => exact ⟨_, (true), (by first | rfl | (simp; done) | (simp [*]; done)), H', ⟨by first | omega | exact Nat.le_refl _⟩, ⟨by (with_reducible repeat (first | apply Kd.R_alloc | apply Kd.R_drewN | apply Kd.R_drew)); exact HO402.out⟩, ⟨by repeat (first | (with_reducible first | exact HB.out | apply below_alloc | apply pw_below_drewN | apply below_drew1) | exact HB.out)⟩⟩
    · rw [if_neg c7] at H
      have c7b0 : decide (a2 < 0) = false := decide_eq_false c7
      clear c7
      (first | rw [c7b0] | (simp only [i64_w, i32_w]; rw [c7b0]) | skip)
      have H' := Aside0.mk H
      clear H
      go_wp2
      go_meet
      case rel => exact ⟨_, (decide (a2 > 64)), (by first | rfl | (simp; done) | (simp [*]; done)), H', ⟨by first | omega | exact Nat.le_refl _⟩, ⟨by (with_reducible repeat (first | apply Kd.R_alloc | apply Kd.R_drewN | apply Kd.R_drew)); exact HO402.out⟩, ⟨by repeat (first | (with_reducible first | exact HB.out | apply below_alloc | apply pw_below_drewN | apply below_drew1) | exact HB.out)⟩⟩
   case rest =>
    clear HC5
    try clear p2
    try clear c4
    try clear c7
    try clear c7b0
    obtain ⟨kq, x16_4, rfl, HA, HJ4, HO_7, HB⟩ := hcut
    cases kq with
    | zero => exact absurd HA.out (by simp [loessref6_Bits_PutNum.j0])
    | succ kj4 =>
      have H := HA.out
      clear HA
      simp only [loessref6_Bits_PutNum.j0] at H
      by_cases c8 : x16_4 = true
      · subst c8
        have H1 : (some y400) = some r := by rw [if_pos rfl] at H; exact H
        clear H
        have H := H1
        clear H1
        obtain rfl := Option.some.inj H
        go_wp2
        go_ret
        exact ⟨_, by first | rfl | (simp [errW_none, errW_some] <;> rfl) | (simp [*, errW_none, errW_some] <;> rfl), by (with_reducible repeat (first | apply Kd.R_alloc | apply Kd.R_drewN | apply Kd.R_drew)); exact HO_7.out, by repeat (first | (with_reducible first | exact HB.out | apply below_alloc | apply pw_below_drewN | apply below_drew1) | exact HB.out)⟩
      · replace c8 := Bool.eq_false_iff.mpr c8
        subst c8
        have H1 : (loessref6_Bits_PutNum.l0 kj4 a1 y400 (wrap64 (a2 - 1))) = some r := by rw [if_neg (show ¬ (false = true) by decide)] at H; exact H
        clear H
        have H := H1
        clear H1
        have H' := Aside0.mk H
        clear H
        go_wp2
        go_loopg [7, 8] kj4 (fun kq v7 v8 w' => ∃ (x7_2 : List Bool) (x8_2 : Int), v8 = .int .i64 x8_2 ∧ Aside0 (loessref6_Bits_PutNum.l0 kq a1 x7_2 x8_2 = some r) ∧ Aside0 (kq ≤ kj4) ∧ Aside0 (Kd.R Kd.bool 4 w' w.heap.size (fun _ => True) v7 x7_2) ∧ Aside0 (Below w.heap.size w w'))
        case atStart => exact ⟨(y400), (wrap64 (a2 - 1)), (by first | rfl | (simp; done) | (simp [*]; done)), H', ⟨Nat.le_refl _⟩, ⟨by (with_reducible repeat (first | apply Kd.R_alloc | apply Kd.R_drewN | apply Kd.R_drew)); exact HO_7.out⟩, ⟨by repeat (first | (with_reducible first | exact HB.out | apply below_alloc | apply pw_below_drewN | apply below_drew1) | exact HB.out)⟩⟩
        case round =>
         clear H'
         try clear p2
         try clear c4
         try clear p6
         try clear c7
         try clear c7b0
         try clear c8
         try clear p2
         obtain ⟨x7_2, x8_2, rfl, HA, HK2, HO_7, HB⟩ := hrel
         cases gk with
         | zero => exact absurd HA.out (by simp [loessref6_Bits_PutNum.l0])
         | succ k2 =>
           have H := HA.out
           clear HA
           simp only [loessref6_Bits_PutNum.l0] at H
           by_cases c9 : x8_2 ≥ 0
           · rw [if_pos c9] at H
             have c9b0 : decide (0 ≤ x8_2) = true := decide_eq_true c9
             clear c9
             obtain ⟨ji10, hji10⟩ : ∃ j_ : Int, (IntKind.u64.wrap (x8_2)) = j_ := ⟨_, rfl⟩
             replace H : (if 0 ≤ (ji10) then (if x7_2.length < 140737488355328 then (loessref6_Bits_PutNum.l0 k2 a1 (x7_2 ++ [((Go.bits .and .u64 (shr .u64 a1 (ji10)) 1) == 1)]) (wrap64 (x8_2 - 1))) else (none)) else (none)) = some r := by first | (rw [hji10] at H; exact H) | (simp only [hji10] at H ⊢; exact H)
             by_cases c11 : 0 ≤ (ji10)
             · rw [if_pos c11] at H
               have c11b0 := eq_true c11
               have c11b1 : decide (0 ≤ (ji10)) = true := decide_eq_true c11
               clear c11
               obtain ⟨ji12, hji12⟩ : ∃ j_ : Int, (shr .u64 a1 (ji10)) = j_ := ⟨_, rfl⟩
               replace H : (if x7_2.length < 140737488355328 then (loessref6_Bits_PutNum.l0 k2 a1 (x7_2 ++ [((Go.bits .and .u64 (ji12) 1) == 1)]) (wrap64 (x8_2 - 1))) else (none)) = some r := by first | (rw [hji12] at H; exact H) | (simp only [hji12] at H ⊢; exact H)
               have hji12_ : (a1 / 2 ^ min (ji10).toNat 64) = ji12 := hji12
               have hji12z : (ji10) ≤ 64 → (a1 / 2 ^ (ji10).toNat) = ji12 := shr_small hji12
               by_cases c13 : x7_2.length < 140737488355328
               · rw [if_pos c13] at H
                 have LMc13 := Aside0.mk c13
                 clear c13
                 obtain ⟨y403, hy403⟩ : ∃ y_ : List Bool, y_ = (x7_2 ++ [((Go.bits .and .u64 (ji12) 1) == 1)]) := ⟨_, rfl⟩
                 replace H : (loessref6_Bits_PutNum.l0 k2 a1 y403 (wrap64 (x8_2 - 1))) = some r := by first | (rw [hy403]; with_reducible exact H) | (have H2_ := (Option.bind_some _ _).symm.trans H; rw [hy403]; with_reducible exact H2_) | (have H2_ := (Option.bind_some _ _).symm.trans H; with_reducible exact H2_) | with_reducible exact H | (rw [hy403]; exact H) | exact H
                 have Ny403 := Aside0.mk hy403
                 clear hy403
                 have H' := Aside0.mk H
                 clear H
                 go_wp2_with (first | ((with_reducible refine gate_builtin (b := .append) (xs := #[.tmp 24, .tmp 31]) rfl ?_); at_builtin; refine Kd.R_append Kd.bool (w0 := w) w.heap.size rfl (.tmp 24) (.tmp 31) 113 4 (.bool false) 1 rfl Try.underlying113 info4 rfl (by decide) (by omega) u7 x7_2 ((Go.bits .and .u64 (ji12) 1) == 1) [.bool ((Go.bits .and .u64 (ji12) 1) == 1)] (fun _ => True) (fun _ => False) rfl rfl ?aP (fun _ hk => hk.elim) ?aF ?aO ?aB ?aS ?aL ?_; (case aP => exact rfl); (case aB => exact (by repeat (first | (with_reducible first | exact HB.out | apply below_alloc | apply pw_below_drewN | apply below_drew1) | exact HB.out))); (case aF => exact (fun _ _ => trivial)); (case aO => exact (by (with_reducible repeat (first | apply Kd.R_alloc | apply Kd.R_drewN | apply Kd.R_drew)); exact HO_7.out)); (case aS => exact (below_size (by repeat (first | (with_reducible first | exact HB.out | apply below_alloc | apply pw_below_drewN | apply below_drew1) | exact HB.out)))); (case aL => have := LMc13.out; omega); intro v404 w14 ho hb hg hat; rw [← Ny403.out] at ho; have n0_ := Aside0.mk (hb); have n1_ := Aside0.mk (ho); clear HB; clear HO_7; have HB := n0_; have HO405 := n1_; clear n0_ n1_; clear ho hb hg hat))
                 go_roundg k2
                 case measure => have := HJ4.out; have := HK2.out; omega
                 case rel => exact ⟨(y403), (wrap64 (x8_2 - 1)), (by first | rfl | (simp; done) | (simp [*]; done)), H', ⟨by have := HJ4.out; have := HK2.out; omega⟩, ⟨by (with_reducible repeat (first | apply Kd.R_alloc | apply Kd.R_drewN | apply Kd.R_drew)); exact HO405.out⟩, ⟨by repeat (first | (with_reducible first | exact HB.out | apply below_alloc | apply pw_below_drewN | apply below_drew1) | exact HB.out)⟩⟩
               · rw [if_neg c13] at H
                 exact absurd H (by simp)
             · rw [if_neg c11] at H
               exact absurd H (by simp)
           · rw [if_neg c9] at H
             have c9b0 : decide (0 ≤ x8_2) = false := decide_eq_false c9
             clear c9
             obtain rfl := Option.some.inj H
             go_wp2
             go_ret
             exact ⟨_, by first | rfl | (simp [errW_none, errW_some] <;> rfl) | (simp [*, errW_none, errW_some] <;> rfl), by (with_reducible repeat (first | apply Kd.R_alloc | apply Kd.R_drewN | apply Kd.R_drew)); exact HO_7.out, by repeat (first | (with_reducible first | exact HB.out | apply below_alloc | apply pw_below_drewN | apply below_drew1) | exact HB.out)⟩
 · rw [if_neg c4] at H
   exact absurd H (by simp)
end Go.Proofs.Ytkhcmddeeodbkaa.XSor
