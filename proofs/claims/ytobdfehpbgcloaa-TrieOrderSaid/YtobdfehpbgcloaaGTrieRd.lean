/- trie.bit, read, skip, Rank, Check by hand. -/
import Derived.Test.YtobdfehpbgcloaaGGammaLaw
import Derived.Test.YtobdfehpbgcloaaQGammaRef
namespace Go.Proofs.Ytobdfehpbgcloaa.GL
open Go.RowKit Go.Proofs.YtobdfehpbgcloaaW.PrintWords Go.Proofs.YtobdfehpbgcloaaW.PrintLast Go.Proofs.YtobdfehpbgcloaaW.PrintMore Go.Proofs.Ytobdfehpbgcloaa.Q Go.Proofs.Ytobdfehpbgcloaa.XTri Go.Proofs.Ytobdfehpbgcloaa.G
set_option linter.unusedVariables false
set_option linter.unusedSimpArgs false
/-- A number's bit. -/
def bitT (h : Int) (k : Nat) : Bool := h / 2 ^ k % 2 == 1
set_option maxRecDepth 1000000 in
set_option maxHeartbeats 8000000 in
theorem trie_bit {w : World} {h : Int} (k : Nat) (hk : k ≤ 63) (h0 : 0 ≤ h) (h1 : h < 18446744073709551616) :
    Calls Try.prog 21 #[.int .u64 h, .int .i64 (63 - (k : Int))] w fun e w' => e = .returned (.bool (bitT h k)) ∧ w = w' := by
  have hand := and1_shr k h0 h1
  obtain ⟨b, hb⟩ : ∃ b, b = bitT h k := ⟨_, rfl⟩
  have HBB := Aside0.mk hb
  have he : (h / 2 ^ k % 2 == 1) = b := hb.symm
  rw [← hb]
  have hsub : (63 : Int) - (63 - (k : Int)) = (k : Int) := by omega
  clear hb
  go_enter Try.func21, Try.ntmps21
  go_wp2
  go_ret
  exact ⟨rfl, rfl⟩
theorem getG_spec {L : List Bool} {at_ x e : Int} (h : getG L at_ = some (x, e)) : 0 < x ∧ x < 18446744073709551616 ∧ e ≤ L.length ∧ 0 ≤ at_ ∧ at_ < e := by
  unfold getG at h
  split at h
  · cases h
  · rename_i h0
    split at h
    · cases h
    · rename_i h64
      have hsp := zeros_spec (L.drop at_.toNat) 64
      obtain ⟨z, hz⟩ : ∃ z, z = zeros (L.drop at_.toNat) 64 := ⟨_, rfl⟩
      rw [← hz] at h hsp h64
      unfold numAt at h
      split at h
      · rename_i hc
        simp only [Option.map_some, Option.some.injEq, Prod.mk.injEq] at h
        obtain ⟨hx, he⟩ := h
        have ha : (at_ + (z : Int)).toNat = at_.toNat + z := by omega
        have hn : ((z : Int) + 1).toNat = z + 1 := by omega
        rw [ha, hn] at hx
        have hbit := hsp.2.2.2 (by omega) (by rw [List.length_drop]; omega)
        rw [List.getD_eq_getElem?_getD, List.getElem?_drop, ← List.getD_eq_getElem?_getD] at hbit
        have hpos : 0 < numOf ((L.drop (at_.toNat + z)).take (z + 1)) := numOf_pos L (at_.toNat + z) (z + 1) (by omega) hbit (by omega)
        have hbd := numOf_bd (z + 1) ((L.drop (at_.toNat + z)).take (z + 1)) (by rw [List.length_take, List.length_drop]; omega)
        have h2p : (2 : Int) ^ (z + 1) ≤ 2 ^ 64 := by have := Nat.pow_le_pow_right (n := 2) (by decide) (show z + 1 ≤ 64 by omega); exact_mod_cast this
        have e64 : (2 : Int) ^ 64 = 18446744073709551616 := rfl
        refine ⟨?_, ?_, ?_, ?_, ?_⟩
        · omega
        · omega
        · omega
        · omega
        · omega
      · cases h
/-- trie.read. -/
def readT (L : List Bool) (at_ n : Int) : Option (Int × Int) := match getG L at_ with
  | none => none
  | some (x, e) => if n < x - 1 then none else some (x - 1, e)
theorem readT_spec {L : List Bool} {at_ n l e : Int} (h : readT L at_ n = some (l, e)) : 0 ≤ l ∧ l ≤ n ∧ e ≤ L.length ∧ 0 ≤ at_ ∧ at_ < e := by
  unfold readT at h
  split at h
  · cases h
  · rename_i x e' hg
    have := getG_spec hg
    split at h
    · cases h
    · simp only [Option.some.injEq, Prod.mk.injEq] at h
      omega
def readR : Option (Int × Int) → Value
  | some (x, e) => .tuple #[.int .i64 x, .int .i64 e, .bool true]
  | none => .tuple #[.int .i64 0, .int .i64 0, .bool false]
set_option maxRecDepth 1000000 in
set_option maxHeartbeats 8000000 in
theorem trie_read {w : World} {P : Option Addr} {L : List Bool} (at_ n d : Int) (h : BitsP w P L) (hl : L.length < 100000000000) (hn0 : 0 ≤ n) (hn : n ≤ 4096) (hd : d < 64) :
    Calls Try.prog 20 #[.pointer P, .int .i64 at_, .int .i64 n, .int .i64 d] w fun e w' => e = .returned (readR (readT L at_ n)) ∧ w = w' := by
  have HL := Aside0.mk h
  have HLL := Aside0.mk hl
  obtain ⟨g, hg⟩ : ∃ g, g = getG L at_ := ⟨_, rfl⟩
  have HG := Aside0.mk hg
  have hdd : decide (64 ≤ d) = false := decide_eq_false (by omega)
  cases g with
  | none =>
    have HE := Aside0.mk (show readT L at_ n = none by unfold readT; rw [← hg])
    clear h hl hg
    go_enter Try.func20, Try.ntmps20
    go_wp2_with (first | (go_at_call 29; refine (gamma_Get _ HL.out HLL.out).mono ?_; rw [← HG.out]; rintro e w' ⟨rfl, rfl⟩; simp only [getR]))
    go_ret3
    rw [HE.out]
    exact ⟨rfl, rfl⟩
  | some xe =>
    obtain ⟨x, e⟩ := xe
    have hsp := getG_spec hg.symm
    have hx0 : 0 < x := hsp.1
    have hx1 : x < 18446744073709551616 := hsp.2.1
    clear h hl hsp
    by_cases hlt : n < x - 1
    · have HE := Aside0.mk (show readT L at_ n = none by unfold readT; rw [← hg]; exact if_pos hlt)
      have h1 := decide_eq_true hlt
      clear hg
      go_enter Try.func20, Try.ntmps20
      go_wp2_with (first | (go_at_call 29; refine (gamma_Get _ HL.out HLL.out).mono ?_; rw [← HG.out]; rintro e w' ⟨rfl, rfl⟩; simp only [getR]))
      go_ret3
      rw [HE.out]
      exact ⟨rfl, rfl⟩
    · have HE := Aside0.mk (show readT L at_ n = some (x - 1, e) by unfold readT; rw [← hg]; exact if_neg hlt)
      have h1 := decide_eq_false hlt
      clear hg
      go_enter Try.func20, Try.ntmps20
      go_wp2_with (first | (go_at_call 29; refine (gamma_Get _ HL.out HLL.out).mono ?_; rw [← HG.out]; rintro e w' ⟨rfl, rfl⟩; simp only [getR]))
      go_ret3
      rw [HE.out]
      exact ⟨rfl, rfl⟩
set_option maxRecDepth 1000000 in
set_option maxHeartbeats 8000000 in
theorem trie_read_deep {w : World} {P : Option Addr} {L : List Bool} (at_ n : Int) (h : BitsP w P L) (hl : L.length < 100000000000) (hn0 : 0 ≤ n) (hn : n ≤ 4096) :
    Calls Try.prog 20 #[.pointer P, .int .i64 at_, .int .i64 n, .int .i64 64] w fun e w' => e = .returned (readR none) ∧ w = w' := by
  have HL := Aside0.mk h
  have HLL := Aside0.mk hl
  obtain ⟨g, hg⟩ : ∃ g, g = getG L at_ := ⟨_, rfl⟩
  have HG := Aside0.mk hg
  clear h hl
  cases g with
  | none =>
    clear hg
    go_enter Try.func20, Try.ntmps20
    go_wp2_with (first | (go_at_call 29; refine (gamma_Get _ HL.out HLL.out).mono ?_; rw [← HG.out]; rintro e w' ⟨rfl, rfl⟩; simp only [getR]))
    go_ret3
    exact ⟨rfl, rfl⟩
  | some xe =>
    obtain ⟨x, e⟩ := xe
    clear hg
    go_enter Try.func20, Try.ntmps20
    go_wp2_with (first | (go_at_call 29; refine (gamma_Get _ HL.out HLL.out).mono ?_; rw [← HG.out]; rintro e w' ⟨rfl, rfl⟩; simp only [getR]))
    go_ret3
    exact ⟨rfl, rfl⟩
/-- trie.skip. -/
def skipT (L : List Bool) : Nat → Int → Int → Option Int
  | 0, at_, n => if n < 2 then some at_ else none
  | k + 1, at_, n => if n < 2 then some at_ else match readT L at_ n with
    | none => none
    | some (l, e) => match skipT L k e l with
      | none => none
      | some t => skipT L k t (n - l)
def skipR : Option Int → Value
  | some t => .tuple #[.int .i64 t, .bool true]
  | none => .tuple #[.int .i64 0, .bool false]
set_option maxRecDepth 1000000 in
set_option maxHeartbeats 8000000 in
theorem trie_skip {w : World} {P : Option Addr} {L : List Bool} (h : BitsP w P L) (hl : L.length < 100000000000) : ∀ (k : Nat) (at_ n d : Int), k ≤ 64 → d = 64 - (k : Int) → 0 ≤ n → n ≤ 4096 →
    Calls Try.prog 22 #[.pointer P, .int .i64 at_, .int .i64 n, .int .i64 d] w fun e w' => e = .returned (skipR (skipT L k at_ n)) ∧ w = w' := by
  have HL := Aside0.mk h
  have HLL := Aside0.mk hl
  clear h hl
  intro k
  induction k with
  | zero =>
    intro at_ n d _ hd hn0 hn
    obtain rfl : d = 64 := by omega
    clear hd
    by_cases h2 : n < 2
    · have HE := Aside0.mk (show skipT L 0 at_ n = some at_ from if_pos h2)
      have h1 := decide_eq_true h2
      clear h2
      go_enter Try.func22, Try.ntmps22
      go_wp2
      go_ret2
      rw [HE.out]
      exact ⟨rfl, rfl⟩
    · have HE := Aside0.mk (show skipT L 0 at_ n = none from if_neg h2)
      have h1 := decide_eq_false h2
      have HN0 := Aside0.mk hn0
      have HN := Aside0.mk hn
      clear h2 hn0 hn
      go_enter Try.func22, Try.ntmps22
      go_wp2_with (first | (go_at_call 20; refine (trie_read_deep _ _ HL.out HLL.out HN0.out HN.out).mono ?_; rintro e w' ⟨rfl, rfl⟩; simp only [readR]))
      go_ret2
      rw [HE.out]
      exact ⟨rfl, rfl⟩
  | succ k ih =>
    intro at_ n d hk hd hn0 hn
    by_cases h2 : n < 2
    · have HE := Aside0.mk (show skipT L (k + 1) at_ n = some at_ from if_pos h2)
      have h1 := decide_eq_true h2
      clear h2 ih hd hk
      go_enter Try.func22, Try.ntmps22
      go_wp2
      go_ret2
      rw [HE.out]
      exact ⟨rfl, rfl⟩
    · have h1 := decide_eq_false h2
      have HE := Aside0.mk (show skipT L (k + 1) at_ n = match readT L at_ n with
        | none => none
        | some (l, e) => match skipT L k e l with
          | none => none
          | some t => skipT L k t (n - l) from if_neg h2)
      obtain ⟨r, hr⟩ : ∃ r, r = readT L at_ n := ⟨_, rfl⟩
      rw [← hr] at HE
      have HR := Aside0.mk hr
      have HN0 := Aside0.mk hn0
      have HN := Aside0.mk hn
      have HD := Aside0.mk (show d < 64 by omega)
      have hd1 : d + 1 = 64 - (k : Int) := by omega
      have hdl : d < 64 := HD.out
      have hdg : 0 ≤ d := by omega
      have HI := Aside0.mk (fun (at_ n : Int) (h0 : 0 ≤ n) (h1 : n ≤ 4096) => ih at_ n (64 - (k : Int)) (by omega) rfl h0 h1)
      clear ih h2 hd hk
      cases r with
      | none =>
        have HE := Aside0.mk (show skipT L (k + 1) at_ n = none from HE.out)
        clear hr hn0 hn
        go_enter Try.func22, Try.ntmps22
        go_wp2_with (first | (go_at_call 20; refine (trie_read _ _ _ HL.out HLL.out HN0.out HN.out HD.out).mono ?_; rw [← HR.out]; rintro e w' ⟨rfl, rfl⟩; simp only [readR]))
        go_ret2
        rw [HE.out]
        exact ⟨rfl, rfl⟩
      | some le =>
        obtain ⟨l, e⟩ := le
        have hsp := readT_spec hr.symm
        have hl0 : 0 ≤ l := hsp.1
        have hln : l ≤ n := hsp.2.1
        have HL0 := Aside0.mk hl0
        have HL1 := Aside0.mk (show l ≤ 4096 by omega)
        have HM0 := Aside0.mk (show 0 ≤ n - l by omega)
        have HM1 := Aside0.mk (show n - l ≤ 4096 by omega)
        obtain ⟨s, hs⟩ : ∃ s, s = skipT L k e l := ⟨_, rfl⟩
        replace HE : Aside0 (skipT L (k + 1) at_ n = match skipT L k e l with
          | none => none
          | some t => skipT L k t (n - l)) := ⟨HE.out⟩
        rw [← hs] at HE
        have HS := Aside0.mk hs
        clear hr hsp hs
        cases s with
        | none =>
          replace HE : Aside0 (skipT L (k + 1) at_ n = none) := ⟨HE.out⟩
          go_enter Try.func22, Try.ntmps22
          go_wp2_with (first
            | (go_at_call 20; refine (trie_read _ _ _ HL.out HLL.out HN0.out HN.out HD.out).mono ?_; rw [← HR.out]; rintro e w' ⟨rfl, rfl⟩; simp only [readR])
            | (go_at_call 22; (try rw [hd1]); refine (HI.out _ _ HL0.out HL1.out).mono ?_; rw [← HS.out]; rintro e w' ⟨rfl, rfl⟩; simp only [skipR]))
          go_ret2
          rw [HE.out]
          exact ⟨rfl, rfl⟩
        | some t =>
          replace HE : Aside0 (skipT L (k + 1) at_ n = skipT L k t (n - l)) := ⟨HE.out⟩
          obtain ⟨q, hq⟩ : ∃ q, q = skipT L k t (n - l) := ⟨_, rfl⟩
          rw [← hq] at HE
          have HQ := Aside0.mk hq
          clear hq
          cases q with
          | none =>
            go_enter Try.func22, Try.ntmps22
            go_wp2_with (first
              | (go_at_call 20; refine (trie_read _ _ _ HL.out HLL.out HN0.out HN.out HD.out).mono ?_; rw [← HR.out]; rintro e w' ⟨rfl, rfl⟩; simp only [readR])
              | (go_at_call 22; (try rw [hd1]); (first | ((with_reducible refine (HI.out e l HL0.out HL1.out).mono ?_); rw [← HS.out]) | ((with_reducible refine (HI.out t (n - l) HM0.out HM1.out).mono ?_); rw [← HQ.out])); rintro e w' ⟨rfl, rfl⟩; simp only [skipR]))
            go_ret2
            rw [HE.out]
            exact ⟨rfl, rfl⟩
          | some y =>
            go_enter Try.func22, Try.ntmps22
            go_wp2_with (first
              | (go_at_call 20; refine (trie_read _ _ _ HL.out HLL.out HN0.out HN.out HD.out).mono ?_; rw [← HR.out]; rintro e w' ⟨rfl, rfl⟩; simp only [readR])
              | (go_at_call 22; (try rw [hd1]); (first | ((with_reducible refine (HI.out e l HL0.out HL1.out).mono ?_); rw [← HS.out]) | ((with_reducible refine (HI.out t (n - l) HM0.out HM1.out).mono ?_); rw [← HQ.out])); rintro e w' ⟨rfl, rfl⟩; simp only [skipR]))
            go_ret2
            rw [HE.out]
            exact ⟨rfl, rfl⟩
end Go.Proofs.Ytobdfehpbgcloaa.GL
