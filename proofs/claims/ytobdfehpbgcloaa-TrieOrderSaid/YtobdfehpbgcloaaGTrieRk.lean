/- trie.Rank, Check by hand. -/
import Derived.Test.YtobdfehpbgcloaaGTrieRd
namespace Go.Proofs.Ytobdfehpbgcloaa.GL
open Go.RowKit Go.Proofs.YtobdfehpbgcloaaW.PrintWords Go.Proofs.YtobdfehpbgcloaaW.PrintLast Go.Proofs.YtobdfehpbgcloaaW.PrintMore Go.Proofs.Ytobdfehpbgcloaa.Q Go.Proofs.Ytobdfehpbgcloaa.XTri Go.Proofs.Ytobdfehpbgcloaa.G
set_option linter.unusedVariables false
set_option linter.unusedSimpArgs false
/-- trie.Rank. -/
def rankT (L : List Bool) (h : Int) : Nat → Int → Int → Int → Option Int
  | 0, at_, n, a => if n = 0 then none else if n < 2 then some a else none
  | k + 1, at_, n, a => if n = 0 then none else if n < 2 then some a else match readT L at_ n with
    | none => none
    | some (l, e) => if bitT h k = true then (match skipT L k e l with
      | none => none
      | some t => rankT L h k t (n - l) (a + l)) else rankT L h k e l a
theorem rankT_0 (L : List Bool) (h : Int) (k : Nat) (at_ a : Int) : rankT L h k at_ 0 a = none := by cases k <;> rfl
theorem rankT_1 (L : List Bool) (h : Int) (k : Nat) (at_ a : Int) : rankT L h k at_ 1 a = some a := by cases k <;> rfl
theorem rankT_s {L : List Bool} {h : Int} {k : Nat} {at_ n a : Int} (hn : 2 ≤ n) : rankT L h (k + 1) at_ n a = match readT L at_ n with
    | none => none
    | some (l, e) => if bitT h k = true then (match skipT L k e l with
      | none => none
      | some t => rankT L h k t (n - l) (a + l)) else rankT L h k e l a := by
  rw [rankT, if_neg (by omega), if_neg (by omega)]
theorem rankT_e {L : List Bool} {h : Int} {at_ n a : Int} (hn : 2 ≤ n) : rankT L h 0 at_ n a = none := by
  rw [rankT, if_neg (by omega), if_neg (by omega)]
set_option maxRecDepth 1000000 in
set_option maxHeartbeats 8000000 in
theorem trie_Rank_in {w : World} {P : Option Addr} {L : List Bool} {h : Int} (n : Int) (hL : BitsP w P L) (hl : L.length < 100000000000) (hn0 : 0 ≤ n) (hn : n ≤ 4096) (h0 : 0 ≤ h) (h1 : h < 18446744073709551616) :
    Calls Try.prog 10 #[.pointer P, .int .i64 n, .int .u64 h] w fun e w' => e = .returned (skipR (rankT L h 64 0 n 0)) ∧ w = w' := by
  have HL := Aside0.mk hL
  have HLL := Aside0.mk hl
  have HH0 := Aside0.mk h0
  have HH1 := Aside0.mk h1
  obtain ⟨R, hR⟩ : ∃ R, R = rankT L h 64 0 n 0 := ⟨_, rfl⟩
  rw [← hR]
  have HRR := Aside0.mk hR
  have hc0 : decide (n < 0) = false := decide_eq_false (by omega)
  have hc1 : decide (4096 < n) = false := decide_eq_false (by omega)
  have HA := Aside0.mk (And.intro hn0 hn)
  clear hL hl h0 h1 hR hn0 hn
  go_enter Try.func10, Try.ntmps10
  go_wp2
  go_loop [1, 8, 9, 10] (fun v1 v8 v9 v10 => ∃ (k : Nat) (at_ n a : Int), v10 = .int .i64 (64 - (k : Int)) ∧ v1 = .int .i64 n ∧ v8 = .int .i64 at_ ∧ v9 = .int .i64 a ∧ k ≤ 64 ∧ 0 ≤ n ∧ n ≤ 4096 ∧ 0 ≤ a ∧ a + n ≤ 4096 ∧ Aside0 (R = rankT L h k at_ n a)) (fun _ _ _ v => (64 - intOf v).toNat)
  case atStart => exact ⟨64, 0, n, 0, by first | rfl | go_num, rfl, rfl, rfl, Nat.le_refl _, HA.out.1, HA.out.2, by decide, by have := HA.out.2; omega, HRR⟩
  case round =>
    clear HRR hc0 hc1 HA
    obtain ⟨k, at_, n, a, rfl, rfl, rfl, rfl, hk, hn0, hn1, ha0, ha1, HE⟩ := hrel
    by_cases hlt : 2 ≤ n
    · have hd := decide_eq_true (show 1 < n by omega)
      have HN0 := Aside0.mk hn0
      have HN1 := Aside0.mk hn1
      cases k with
      | zero =>
        rw [rankT_e hlt] at HE
        clear hlt
        have h64 : (64 : Int) - ((0 : Nat) : Int) = 64 := rfl
        rw [h64]
        clear h64
        go_wp2_with (first | (go_at_call 20; refine (trie_read_deep _ _ HL.out HLL.out HN0.out HN1.out).mono ?_; rintro e w' ⟨rfl, rfl⟩; simp only [readR]))
        go_ret2
        rw [HE.out]
        exact ⟨rfl, rfl⟩
      | succ k =>
        rw [rankT_s hlt] at HE
        have HLT := Aside0.mk hlt
        obtain ⟨r, hr⟩ : ∃ r, r = readT L at_ n := ⟨_, rfl⟩
        rw [← hr] at HE
        have HR := Aside0.mk hr
        have hd3 : (64 : Int) - ((k + 1 : Nat) : Int) = 63 - (k : Int) := by omega
        have hd1 : (63 : Int) - (k : Int) + 1 = 64 - (k : Int) := by omega
        have hk63 : (k : Int) ≤ 63 := by omega
        have HD := Aside0.mk (show (64 : Int) - ((k + 1 : Nat) : Int) < 64 by omega)
        have HD' := Aside0.mk (show (63 : Int) - (k : Int) < 64 by omega)
        have HK := Aside0.mk (show k ≤ 63 by omega)
        have HK64 := Aside0.mk (show k ≤ 64 by omega)
        clear hlt hk
        rw [hd3] at HD ⊢
        cases r with
        | none =>
          replace HE : Aside0 (R = none) := ⟨HE.out⟩
          clear hr
          go_wp2_with (first | (go_at_call 20; refine (trie_read _ _ _ HL.out HLL.out HN0.out HN1.out HD.out).mono ?_; rw [← HR.out]; rintro e w' ⟨rfl, rfl⟩; simp only [readR]))
          go_ret2
          rw [HE.out]
          exact ⟨rfl, rfl⟩
        | some le =>
          obtain ⟨l, e⟩ := le
          have hsp := readT_spec hr.symm
          have hl0 : 0 ≤ l := hsp.1
          have hln : l ≤ n := hsp.2.1
          have HL0 := Aside0.mk hl0
          have HL1 := Aside0.mk (show l ≤ 4096 by omega)
          replace HE : Aside0 (R = if bitT h k = true then (match skipT L k e l with
            | none => none
            | some t => rankT L h k t (n - l) (a + l)) else rankT L h k e l a) := ⟨HE.out⟩
          clear hr hsp
          cases hb : bitT h k with
          | false =>
            have HBT := Aside0.mk hb
            rw [if_neg (by rw [hb]; decide)] at HE
            clear hb
            go_wp2_with (first | (go_at_call 20; refine (trie_read _ _ _ HL.out HLL.out HN0.out HN1.out HD.out).mono ?_; rw [← HR.out]; rintro e w' ⟨rfl, rfl⟩; simp only [readR]) | (go_at_call 21; (try rw [hd3]); refine (trie_bit _ HK.out HH0.out HH1.out).mono ?_; rw [HBT.out]; rintro e w' ⟨rfl, rfl⟩))
            go_round
            case rel => exact ⟨k, e, l, a, by first | rfl | go_num, rfl, rfl, rfl, by omega, hl0, by omega, ha0, by omega, HE⟩
            case measure => have := HK.out; simp [intOf]; omega
          | true =>
            have HBT := Aside0.mk hb
            rw [if_pos hb] at HE
            obtain ⟨s, hs⟩ : ∃ s, s = skipT L k e l := ⟨_, rfl⟩
            rw [← hs] at HE
            have HS := Aside0.mk hs
            clear hb hs
            cases s with
            | none =>
              replace HE : Aside0 (R = none) := ⟨HE.out⟩
              go_wp2_with (first | (go_at_call 20; refine (trie_read _ _ _ HL.out HLL.out HN0.out HN1.out HD.out).mono ?_; rw [← HR.out]; rintro e w' ⟨rfl, rfl⟩; simp only [readR]) | (go_at_call 21; (try rw [hd3]); refine (trie_bit _ HK.out HH0.out HH1.out).mono ?_; rw [HBT.out]; rintro e w' ⟨rfl, rfl⟩) | (go_at_call 22; (try rw [hd1]); refine (trie_skip HL.out HLL.out _ _ _ _ HK64.out rfl HL0.out HL1.out).mono ?_; rw [← HS.out]; rintro e w' ⟨rfl, rfl⟩; simp only [skipR]))
              go_ret2
              rw [HE.out]
              exact ⟨rfl, rfl⟩
            | some t =>
              replace HE : Aside0 (R = rankT L h k t (n - l) (a + l)) := ⟨HE.out⟩
              go_wp2_with (first | (go_at_call 20; refine (trie_read _ _ _ HL.out HLL.out HN0.out HN1.out HD.out).mono ?_; rw [← HR.out]; rintro e w' ⟨rfl, rfl⟩; simp only [readR]) | (go_at_call 21; (try rw [hd3]); refine (trie_bit _ HK.out HH0.out HH1.out).mono ?_; rw [HBT.out]; rintro e w' ⟨rfl, rfl⟩) | (go_at_call 22; (try rw [hd1]); refine (trie_skip HL.out HLL.out _ _ _ _ HK64.out rfl HL0.out HL1.out).mono ?_; rw [← HS.out]; rintro e w' ⟨rfl, rfl⟩; simp only [skipR]))
              go_round
              case rel => exact ⟨k, t, n - l, a + l, by first | rfl | go_num, by first | rfl | go_num, rfl, by first | rfl | go_num, by omega, by omega, by omega, by omega, by omega, HE⟩
              case measure => have := HK.out; simp [intOf]; omega
    · have hd := decide_eq_false (show ¬ 1 < n by omega)
      by_cases hz : n = 0
      · subst hz
        rw [rankT_0] at HE
        clear hlt
        go_wp2
        go_ret2
        rw [HE.out]
        exact ⟨rfl, rfl⟩
      · obtain rfl : n = 1 := by omega
        rw [rankT_1] at HE
        clear hlt hz
        go_wp2
        go_ret2
        rw [HE.out]
        exact ⟨rfl, rfl⟩
def rankI (L : List Bool) (h n : Int) : Option Int := if n < 0 ∨ 4096 < n then none else rankT L h 64 0 n 0
set_option maxRecDepth 1000000 in
set_option maxHeartbeats 8000000 in
theorem trie_Rank {w : World} {P : Option Addr} {L : List Bool} {h : Int} (n : Int) (hL : BitsP w P L) (hl : L.length < 100000000000) (h0 : 0 ≤ h) (h1 : h < 18446744073709551616) :
    Calls Try.prog 10 #[.pointer P, .int .i64 n, .int .u64 h] w fun e w' => e = .returned (skipR (rankI L h n)) ∧ w = w' := by
  by_cases hn : n < 0 ∨ 4096 < n
  · have e : rankI L h n = none := if_pos hn
    rw [e]
    have hc : decide (n < 0) = true ∨ (decide (n < 0) = false ∧ decide (4096 < n) = true) := by
      by_cases h : n < 0
      · exact .inl (decide_eq_true h)
      · exact .inr ⟨decide_eq_false h, decide_eq_true (by omega)⟩
    clear hL hl hn e
    rcases hc with h | ⟨h, h'⟩
    all_goals
      go_enter Try.func10, Try.ntmps10
      go_wp2
      go_ret2
      exact ⟨rfl, rfl⟩
  · have e : rankI L h n = rankT L h 64 0 n 0 := if_neg hn
    rw [e]
    exact trie_Rank_in n hL hl (by omega) (by omega) h0 h1
/-- trie.Check. -/
def checkT (L : List Bool) (n : Int) : Bool := if n < 0 ∨ 4096 < n then false else skipT L 64 0 n == some (L.length : Int)
set_option maxRecDepth 1000000 in
set_option maxHeartbeats 8000000 in
theorem trie_Check {w : World} {P : Option Addr} {L : List Bool} (n : Int) (hL : BitsP w P L) (hl : L.length < 100000000000) :
    Calls Try.prog 13 #[.pointer P, .int .i64 n] w fun e w' => e = .returned (.bool (checkT L n)) ∧ w = w' := by
  have HL := Aside0.mk hL
  have HLL := Aside0.mk hl
  by_cases hn : n < 0 ∨ 4096 < n
  · have e : checkT L n = false := if_pos hn
    rw [e]
    have hc : decide (n < 0) = true ∨ (decide (n < 0) = false ∧ decide (4096 < n) = true) := by
      by_cases h : n < 0
      · exact .inl (decide_eq_true h)
      · exact .inr ⟨decide_eq_false h, decide_eq_true (by omega)⟩
    clear hL hl hn e
    rcases hc with h | ⟨h, h'⟩
    all_goals
      go_enter Try.func13, Try.ntmps13
      go_wp2
      go_ret
      exact ⟨rfl, rfl⟩
  · have e : checkT L n = (skipT L 64 0 n == some (L.length : Int)) := if_neg hn
    rw [e]
    have h0 := decide_eq_false (show ¬ n < 0 by omega)
    have h1 := decide_eq_false (show ¬ 4096 < n by omega)
    have HS0 := Aside0.mk (trie_skip hL hl 64 0 n 0 (by omega) rfl (by omega) (by omega))
    obtain ⟨s, hs⟩ : ∃ s, s = skipT L 64 0 n := ⟨_, rfl⟩
    rw [← hs] at HS0 ⊢
    clear hL hl hn e hs
    cases s with
    | none =>
      go_enter Try.func13, Try.ntmps13
      go_wp2_with (first | (go_at_call 22; refine HS0.out.mono ?_; rintro e w' ⟨rfl, rfl⟩; simp only [skipR]))
      go_ret
      exact ⟨rfl, rfl⟩
    | some t =>
      have hb : (some t == some (L.length : Int)) = (t == (L.length : Int)) := rfl
      rw [hb]
      obtain ⟨b, hbb⟩ : ∃ b, b = (t == (L.length : Int)) := ⟨_, rfl⟩
      rw [← hbb]
      have hbc : (t == (L.length : Int)) = b := hbb.symm
      clear hb hbb
      go_enter Try.func13, Try.ntmps13
      go_wp2_with (first | (go_at_call 22; refine HS0.out.mono ?_; rintro e w' ⟨rfl, rfl⟩; simp only [skipR]) | (go_at_call 15; refine (bits_Len HL.out).mono ?_; rintro e w' ⟨rfl, rfl⟩))
      go_ret
      exact ⟨rfl, rfl⟩
end Go.Proofs.Ytobdfehpbgcloaa.GL
