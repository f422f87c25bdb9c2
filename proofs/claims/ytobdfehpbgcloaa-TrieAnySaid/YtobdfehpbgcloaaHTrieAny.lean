/- The law TrieAny, walked by hand. -/
import Derived.Test.YtobdfehpbgcloaaGTrieLaw
import Derived.Test.YtobdfehpbgcloaaQTrieRef
import Derived.Test.YtobdfehpbgcloaaQOpen
import Derived.Deep.QuietTactic
import Derived.BigQuiet
namespace Go.Proofs.Ytobdfehpbgcloaa.GL
open Go.RowKit Go.Proofs.YtobdfehpbgcloaaW.PrintWords Go.Proofs.YtobdfehpbgcloaaW.PrintLast Go.Proofs.YtobdfehpbgcloaaW.PrintMore Go.Proofs.Ytobdfehpbgcloaa.Q Go.Proofs.Ytobdfehpbgcloaa.XTri Go.Proofs.Ytobdfehpbgcloaa.G
set_option linter.unusedVariables false
set_option linter.unusedSimpArgs false
theorem law_Of_m2 {w : World} {A : Option Addr} {c m : Nat} {L : List Bool} (hm : m = L.length) (hC : Kd.C Kd.bool w A m L) (hl : L.length < 100000000000) :
    Calls Try.prog 9 #[.slice A m c] w (NewPost w L) := by
  subst hm
  exact law_Of hC hl
def RkPost (w : World) (o : Option Int) (e : Ending) (w' : World) : Prop := e = .returned (skipR o) ∧ Drawn0 w w'
theorem ref_Rank {w : World} {A : Option Addr} {c m : Nat} {L : List Bool} (n h : Int) (hm : m = L.length) (hC : Kd.C Kd.bool w A m L) (hc : m ≤ c) (hl : L.length < 100000000000) (hh0 : 0 ≤ h) (hh1 : h < 18446744073709551616) (h0 : 0 ≤ n) (h1 : n ≤ 4096) :
    Calls Try.prog 11 #[.slice A m c, .int .i64 n, .int .u64 h] w (RkPost w (rankI L h n)) := by
  subst hm
  obtain ⟨k, hk⟩ := (rankF_ev L h n hl hh0 hh1 h0 h1).rounds
  have := loessref6_Rank.calls k A c L n h (numP (rankI L h n)).1 (numP (rankI L h n)).2 w hC hc hk
  refine this.mono ?_
  rintro e w' ⟨rfl, hd⟩
  refine ⟨?_, hd⟩
  cases rankI L h n <;> rfl
def SkPost (w : World) (v : Int) (b : Bool) (e : Ending) (w' : World) : Prop := e = .returned (.tuple #[.int .i64 v, .bool b]) ∧ Drawn0 w w'
theorem ref_Skip {w : World} {A : Option Addr} {c m : Nat} {L : List Bool} (n : Int) (hm : m = L.length) (hC : Kd.C Kd.bool w A m L) (hc : m ≤ c) (hl : L.length < 100000000000) (h0 : 0 ≤ n) (h1 : n ≤ 4096) :
    ∃ v, SkP (skipT L 64 0 n) v ∧ ∀ W : World, Kd.C Kd.bool W A m L → Calls Try.prog 12 #[.slice A m c, .int .i64 0, .int .i64 n, .int .i64 0] W (SkPost W v (skipT L 64 0 n).isSome) := by
  subst hm
  obtain ⟨v, hv, hs⟩ := skip_ev L hl 64 0 n 0 rfl (by omega) (by decide) h0 h1
  refine ⟨v, hs, fun W hCW => ?_⟩
  obtain ⟨k, hk⟩ := hv.rounds
  exact loessref6_Skip.calls k A c L 0 n 0 v (skipT L 64 0 n).isSome W hCW hc hk
set_option maxRecDepth 1000000 in
set_option maxHeartbeats 8000000 in
theorem TrieAny.walk (P : True) (A0 : Option Addr) (len0 c0 : Nat) (l : List Bool) (n ask : Int) (w : World) (w0 : O.IsRows Kd.bool (fun _ => True) w A0 len0 c0 l) (w1 : (Lit.int .i64 n).wf = true) (w2 : (Lit.int .u64 ask).wf = true) :
    Calls Try.prog 3 #[.slice A0 len0 c0, .int .i64 n, .int .u64 ask] w fun e w' => e = .returned (.bool true) ∧ Below w.heap.size w w' := by
  obtain ⟨hlen, hlc, hcm, hC0, _⟩ := w0
  have HH0 := Aside0.mk (wfU64 w2).1
  have HH1 := Aside0.mk (wfU64 w2).2
  have HB := Aside0.mk (Below.refl w.heap.size w)
  clear w1 w2
  by_cases hcut : 200 < len0
  · skip
    obtain ⟨L, hL⟩ : ∃ L, L = l.take 200 := ⟨_, rfl⟩
    obtain ⟨M, hM⟩ : ∃ M, M = 200 := ⟨_, rfl⟩
    obtain ⟨i0, hi, hi1, hi2, hi3⟩ := info_parts info4
    have hrun : ∀ W : World, (Instr.slice 22 (.slice A0 len0 c0) none (some (.int .i64 200)) none).run Try.prog W = .ok (.slice A0 M c0) W := by
      intro W
      rw [hM]
      exact cut_to (P := Try.prog) 22 4 .i64 Try.underlying22 hi A0 len0 c0 200 (by decide) (by omega) hlc W
    have hcd : decide ((200 : Int) < (len0 : Int)) = true := decide_eq_true (by omega)
    have hcd2 : decide (200 < len0) = true := decide_eq_true hcut
    have hC1 : Kd.C Kd.bool w A0 M L := by
      have := Kd.C_take (k := Kd.bool) (m := 200) (by rw [hlen]; exact hC0) (by omega)
      rw [List.length_take, hlen, Nat.min_eq_left (by omega)] at this
      rw [hM, hL]
      exact this
    have hML : M = L.length := by rw [hM, hL, List.length_take]; omega
    have HM200 := Aside0.mk hM
    have hmi : (M : Int) ≤ 200 := by omega
    have HC := Aside0.mk hC1
    have HM := Aside0.mk hML
    have HM3 := Aside0.mk (show M ≤ 200 by omega)
    have HLC := Aside0.mk (show M ≤ c0 by omega)
    have HL := Aside0.mk (show L.length < 1000000000 by omega)
    have HL1 := Aside0.mk (show L.length < 100000000 by omega)
    have HL0 := Aside0.mk (show L.length < 100000000000 by omega)
    clear hC0 hlen hM hL hML hcut hlc hcm hC1 hi hi1 hi2 hi3 HM200
    by_cases hn : n < 0 ∨ 40 < n
    · have hn0 : decide (n < 0) = true ∨ (decide (n < 0) = false ∧ decide (40 < n) = true) := by
        by_cases h : n < 0
        · exact .inl (decide_eq_true h)
        · exact .inr ⟨decide_eq_false h, decide_eq_true (by omega)⟩
      clear hn
      rcases hn0 with h0 | ⟨h0, h1⟩
      all_goals
        go_enter Try.func3, Try.ntmps3
        go_wp2_with (first
          | (go_at_call 8; refine (law21_begun _).mono ?_; rintro e w11 ⟨rfl, hb⟩; have m2_ := Aside0.mk (below_step HB.out hb); clear HB; have HB := m2_; clear m2_ hb))
        go_ret
        exact ⟨rfl, HB.out⟩
    · have h0 : decide (n < 0) = false := decide_eq_false (by omega)
      have h1 : decide (40 < n) = false := decide_eq_false (by omega)
      have HN0 := Aside0.mk (show 0 ≤ n by omega)
      have HN4 := Aside0.mk (show n ≤ 4096 by omega)
      obtain ⟨rk, hrk⟩ : ∃ rk, rk = rankI L ask n := ⟨_, rfl⟩
      have HR := Aside0.mk hrk
      obtain ⟨v, hv, hsk⟩ := ref_Skip (c := c0) n HM.out HC.out HLC.out HL0.out HN0.out HN4.out
      have hch : checkT L n = (skipT L 64 0 n == some (L.length : Int)) := if_neg (by omega)
      obtain ⟨s, hs⟩ : ∃ s, s = skipT L 64 0 n := ⟨_, rfl⟩
      rw [← hs] at hv hsk hch
      rw [← HM.out] at hch
      clear hn hrk hs
      rcases s with _ | t <;> rcases rk with _ | r
      · skip
        have HCH := Aside0.mk (show checkT L n = false from hch)
        replace hsk : ∀ W : World, Kd.C Kd.bool W A0 M L → Calls Try.prog 12 #[.slice A0 M c0, .int .i64 0, .int .i64 n, .int .i64 0] W (SkPost W v false) := hsk
        have HSK := Aside0.mk hsk
        clear hch hsk hv
        go_enter Try.func3, Try.ntmps3
        go_wp2_with (first
          | (go_at_call 8; refine (law21_begun _).mono ?_; rintro e w11 ⟨rfl, hb⟩; have m2_ := Aside0.mk (below_step HB.out hb); clear HB; have HB := m2_; clear m2_ hb)
          | (go_at_call 9; refine (law_Of_m2 HM.out (Kd.C_below HC.out HB.out) HL0.out).mono ?_; rintro e w3 ⟨p, rfl, hbo, hb⟩; have HBO := Aside0.mk hbo.toP; have n1_ := Aside0.mk (below_step HB.out hb); have n2_ := Aside0.mk (Kd.C_below HC.out n1_.out); clear HB hbo hb HC; have HB := n1_; have HC := n2_; clear n1_ n2_)
          | (go_at_call 10; refine (trie_Rank _ HBO.out HL0.out HH0.out HH1.out).mono ?_; rw [← HR.out]; rintro e w' ⟨rfl, rfl⟩; simp only [skipR])
          | (go_at_call 11; refine (ref_Rank _ _ HM.out HC.out HLC.out HL0.out HH0.out HH1.out HN0.out HN4.out).mono ?_; rw [← HR.out]; rintro e w' ⟨rfl, ⟨nd, rfl⟩⟩; simp only [skipR])
          | (go_at_call 12; refine (HSK.out _ (Kd.C_drewN HC.out _)).mono ?_; rintro e w' ⟨rfl, ⟨ne, rfl⟩⟩)
          | (go_at_call 13; refine (trie_Check _ (HBO.out.drewN _) HL0.out).mono ?_; rw [HCH.out]; rintro e w' ⟨rfl, rfl⟩))
        go_ret
        exact ⟨rfl, by first | exact HB.out | exact pw_below_drewN HB.out _⟩
      · skip
        have HCH := Aside0.mk (show checkT L n = false from hch)
        replace hsk : ∀ W : World, Kd.C Kd.bool W A0 M L → Calls Try.prog 12 #[.slice A0 M c0, .int .i64 0, .int .i64 n, .int .i64 0] W (SkPost W v false) := hsk
        have HSK := Aside0.mk hsk
        clear hch hsk hv
        go_enter Try.func3, Try.ntmps3
        go_wp2_with (first
          | (go_at_call 8; refine (law21_begun _).mono ?_; rintro e w11 ⟨rfl, hb⟩; have m2_ := Aside0.mk (below_step HB.out hb); clear HB; have HB := m2_; clear m2_ hb)
          | (go_at_call 9; refine (law_Of_m2 HM.out (Kd.C_below HC.out HB.out) HL0.out).mono ?_; rintro e w3 ⟨p, rfl, hbo, hb⟩; have HBO := Aside0.mk hbo.toP; have n1_ := Aside0.mk (below_step HB.out hb); have n2_ := Aside0.mk (Kd.C_below HC.out n1_.out); clear HB hbo hb HC; have HB := n1_; have HC := n2_; clear n1_ n2_)
          | (go_at_call 10; refine (trie_Rank _ HBO.out HL0.out HH0.out HH1.out).mono ?_; rw [← HR.out]; rintro e w' ⟨rfl, rfl⟩; simp only [skipR])
          | (go_at_call 11; refine (ref_Rank _ _ HM.out HC.out HLC.out HL0.out HH0.out HH1.out HN0.out HN4.out).mono ?_; rw [← HR.out]; rintro e w' ⟨rfl, ⟨nd, rfl⟩⟩; simp only [skipR])
          | (go_at_call 12; refine (HSK.out _ (Kd.C_drewN HC.out _)).mono ?_; rintro e w' ⟨rfl, ⟨ne, rfl⟩⟩)
          | (go_at_call 13; refine (trie_Check _ (HBO.out.drewN _) HL0.out).mono ?_; rw [HCH.out]; rintro e w' ⟨rfl, rfl⟩))
        go_ret
        exact ⟨rfl, by first | exact HB.out | exact pw_below_drewN HB.out _⟩
      · skip
        obtain rfl : v = t := hv t rfl
        replace hsk : ∀ W : World, Kd.C Kd.bool W A0 M L → Calls Try.prog 12 #[.slice A0 M c0, .int .i64 0, .int .i64 n, .int .i64 0] W (SkPost W v true) := hsk
        have HSK := Aside0.mk hsk
        obtain ⟨b, hb⟩ : ∃ b, b = (v == (M : Int)) := ⟨_, rfl⟩
        have hvm : (v == (M : Int)) = b := hb.symm
        have HCH := Aside0.mk (show checkT L n = b by rw [hch, hb]; rfl)
        clear hch hsk hv hb
        cases b
        · skip
          go_enter Try.func3, Try.ntmps3
          go_wp2_with (first
            | (go_at_call 8; refine (law21_begun _).mono ?_; rintro e w11 ⟨rfl, hb⟩; have m2_ := Aside0.mk (below_step HB.out hb); clear HB; have HB := m2_; clear m2_ hb)
            | (go_at_call 9; refine (law_Of_m2 HM.out (Kd.C_below HC.out HB.out) HL0.out).mono ?_; rintro e w3 ⟨p, rfl, hbo, hb⟩; have HBO := Aside0.mk hbo.toP; have n1_ := Aside0.mk (below_step HB.out hb); have n2_ := Aside0.mk (Kd.C_below HC.out n1_.out); clear HB hbo hb HC; have HB := n1_; have HC := n2_; clear n1_ n2_)
            | (go_at_call 10; refine (trie_Rank _ HBO.out HL0.out HH0.out HH1.out).mono ?_; rw [← HR.out]; rintro e w' ⟨rfl, rfl⟩; simp only [skipR])
            | (go_at_call 11; refine (ref_Rank _ _ HM.out HC.out HLC.out HL0.out HH0.out HH1.out HN0.out HN4.out).mono ?_; rw [← HR.out]; rintro e w' ⟨rfl, ⟨nd, rfl⟩⟩; simp only [skipR])
            | (go_at_call 12; refine (HSK.out _ (Kd.C_drewN HC.out _)).mono ?_; rintro e w' ⟨rfl, ⟨ne, rfl⟩⟩)
            | (go_at_call 13; refine (trie_Check _ (HBO.out.drewN _) HL0.out).mono ?_; rw [HCH.out]; rintro e w' ⟨rfl, rfl⟩))
          go_ret
          exact ⟨rfl, by first | exact HB.out | exact pw_below_drewN HB.out _⟩
        · skip
          go_enter Try.func3, Try.ntmps3
          go_wp2_with (first
            | (go_at_call 8; refine (law21_begun _).mono ?_; rintro e w11 ⟨rfl, hb⟩; have m2_ := Aside0.mk (below_step HB.out hb); clear HB; have HB := m2_; clear m2_ hb)
            | (go_at_call 9; refine (law_Of_m2 HM.out (Kd.C_below HC.out HB.out) HL0.out).mono ?_; rintro e w3 ⟨p, rfl, hbo, hb⟩; have HBO := Aside0.mk hbo.toP; have n1_ := Aside0.mk (below_step HB.out hb); have n2_ := Aside0.mk (Kd.C_below HC.out n1_.out); clear HB hbo hb HC; have HB := n1_; have HC := n2_; clear n1_ n2_)
            | (go_at_call 10; refine (trie_Rank _ HBO.out HL0.out HH0.out HH1.out).mono ?_; rw [← HR.out]; rintro e w' ⟨rfl, rfl⟩; simp only [skipR])
            | (go_at_call 11; refine (ref_Rank _ _ HM.out HC.out HLC.out HL0.out HH0.out HH1.out HN0.out HN4.out).mono ?_; rw [← HR.out]; rintro e w' ⟨rfl, ⟨nd, rfl⟩⟩; simp only [skipR])
            | (go_at_call 12; refine (HSK.out _ (Kd.C_drewN HC.out _)).mono ?_; rintro e w' ⟨rfl, ⟨ne, rfl⟩⟩)
            | (go_at_call 13; refine (trie_Check _ (HBO.out.drewN _) HL0.out).mono ?_; rw [HCH.out]; rintro e w' ⟨rfl, rfl⟩))
          go_ret
          exact ⟨rfl, by first | exact HB.out | exact pw_below_drewN HB.out _⟩
      · skip
        obtain rfl : v = t := hv t rfl
        replace hsk : ∀ W : World, Kd.C Kd.bool W A0 M L → Calls Try.prog 12 #[.slice A0 M c0, .int .i64 0, .int .i64 n, .int .i64 0] W (SkPost W v true) := hsk
        have HSK := Aside0.mk hsk
        obtain ⟨b, hb⟩ : ∃ b, b = (v == (M : Int)) := ⟨_, rfl⟩
        have hvm : (v == (M : Int)) = b := hb.symm
        have HCH := Aside0.mk (show checkT L n = b by rw [hch, hb]; rfl)
        clear hch hsk hv hb
        cases b
        · skip
          go_enter Try.func3, Try.ntmps3
          go_wp2_with (first
            | (go_at_call 8; refine (law21_begun _).mono ?_; rintro e w11 ⟨rfl, hb⟩; have m2_ := Aside0.mk (below_step HB.out hb); clear HB; have HB := m2_; clear m2_ hb)
            | (go_at_call 9; refine (law_Of_m2 HM.out (Kd.C_below HC.out HB.out) HL0.out).mono ?_; rintro e w3 ⟨p, rfl, hbo, hb⟩; have HBO := Aside0.mk hbo.toP; have n1_ := Aside0.mk (below_step HB.out hb); have n2_ := Aside0.mk (Kd.C_below HC.out n1_.out); clear HB hbo hb HC; have HB := n1_; have HC := n2_; clear n1_ n2_)
            | (go_at_call 10; refine (trie_Rank _ HBO.out HL0.out HH0.out HH1.out).mono ?_; rw [← HR.out]; rintro e w' ⟨rfl, rfl⟩; simp only [skipR])
            | (go_at_call 11; refine (ref_Rank _ _ HM.out HC.out HLC.out HL0.out HH0.out HH1.out HN0.out HN4.out).mono ?_; rw [← HR.out]; rintro e w' ⟨rfl, ⟨nd, rfl⟩⟩; simp only [skipR])
            | (go_at_call 12; refine (HSK.out _ (Kd.C_drewN HC.out _)).mono ?_; rintro e w' ⟨rfl, ⟨ne, rfl⟩⟩)
            | (go_at_call 13; refine (trie_Check _ (HBO.out.drewN _) HL0.out).mono ?_; rw [HCH.out]; rintro e w' ⟨rfl, rfl⟩))
          go_ret
          exact ⟨rfl, by first | exact HB.out | exact pw_below_drewN HB.out _⟩
        · skip
          go_enter Try.func3, Try.ntmps3
          go_wp2_with (first
            | (go_at_call 8; refine (law21_begun _).mono ?_; rintro e w11 ⟨rfl, hb⟩; have m2_ := Aside0.mk (below_step HB.out hb); clear HB; have HB := m2_; clear m2_ hb)
            | (go_at_call 9; refine (law_Of_m2 HM.out (Kd.C_below HC.out HB.out) HL0.out).mono ?_; rintro e w3 ⟨p, rfl, hbo, hb⟩; have HBO := Aside0.mk hbo.toP; have n1_ := Aside0.mk (below_step HB.out hb); have n2_ := Aside0.mk (Kd.C_below HC.out n1_.out); clear HB hbo hb HC; have HB := n1_; have HC := n2_; clear n1_ n2_)
            | (go_at_call 10; refine (trie_Rank _ HBO.out HL0.out HH0.out HH1.out).mono ?_; rw [← HR.out]; rintro e w' ⟨rfl, rfl⟩; simp only [skipR])
            | (go_at_call 11; refine (ref_Rank _ _ HM.out HC.out HLC.out HL0.out HH0.out HH1.out HN0.out HN4.out).mono ?_; rw [← HR.out]; rintro e w' ⟨rfl, ⟨nd, rfl⟩⟩; simp only [skipR])
            | (go_at_call 12; refine (HSK.out _ (Kd.C_drewN HC.out _)).mono ?_; rintro e w' ⟨rfl, ⟨ne, rfl⟩⟩)
            | (go_at_call 13; refine (trie_Check _ (HBO.out.drewN _) HL0.out).mono ?_; rw [HCH.out]; rintro e w' ⟨rfl, rfl⟩))
          go_ret
          exact ⟨rfl, by first | exact HB.out | exact pw_below_drewN HB.out _⟩
  · skip
    obtain ⟨L, hL⟩ : ∃ L, L = l := ⟨_, rfl⟩
    obtain ⟨M, hM⟩ : ∃ M, M = len0 := ⟨_, rfl⟩
    rw [← hM] at hC0 hcut ⊢
    rw [← hL] at hC0
    have hML : M = L.length := by rw [hM, hL, hlen]
    have hcd : decide ((200 : Int) < (M : Int)) = false := decide_eq_false (by omega)
    have hcd2 : decide (200 < M) = false := decide_eq_false (by omega)
    have hmi : (M : Int) ≤ 200 := by omega
    have HC := Aside0.mk hC0
    have HM := Aside0.mk hML
    have HM3 := Aside0.mk (show M ≤ 200 by omega)
    have HLC := Aside0.mk (show M ≤ c0 by omega)
    have HL := Aside0.mk (show L.length < 1000000000 by omega)
    have HL1 := Aside0.mk (show L.length < 100000000 by omega)
    have HL0 := Aside0.mk (show L.length < 100000000000 by omega)
    clear hC0 hlen hM hL hML hcut hlc hcm
    by_cases hn : n < 0 ∨ 40 < n
    · have hn0 : decide (n < 0) = true ∨ (decide (n < 0) = false ∧ decide (40 < n) = true) := by
        by_cases h : n < 0
        · exact .inl (decide_eq_true h)
        · exact .inr ⟨decide_eq_false h, decide_eq_true (by omega)⟩
      clear hn
      rcases hn0 with h0 | ⟨h0, h1⟩
      all_goals
        go_enter Try.func3, Try.ntmps3
        go_wp2_with (first
          | (go_at_call 8; refine (law21_begun _).mono ?_; rintro e w11 ⟨rfl, hb⟩; have m2_ := Aside0.mk (below_step HB.out hb); clear HB; have HB := m2_; clear m2_ hb))
        go_ret
        exact ⟨rfl, HB.out⟩
    · have h0 : decide (n < 0) = false := decide_eq_false (by omega)
      have h1 : decide (40 < n) = false := decide_eq_false (by omega)
      have HN0 := Aside0.mk (show 0 ≤ n by omega)
      have HN4 := Aside0.mk (show n ≤ 4096 by omega)
      obtain ⟨rk, hrk⟩ : ∃ rk, rk = rankI L ask n := ⟨_, rfl⟩
      have HR := Aside0.mk hrk
      obtain ⟨v, hv, hsk⟩ := ref_Skip (c := c0) n HM.out HC.out HLC.out HL0.out HN0.out HN4.out
      have hch : checkT L n = (skipT L 64 0 n == some (L.length : Int)) := if_neg (by omega)
      obtain ⟨s, hs⟩ : ∃ s, s = skipT L 64 0 n := ⟨_, rfl⟩
      rw [← hs] at hv hsk hch
      rw [← HM.out] at hch
      clear hn hrk hs
      rcases s with _ | t <;> rcases rk with _ | r
      · skip
        have HCH := Aside0.mk (show checkT L n = false from hch)
        replace hsk : ∀ W : World, Kd.C Kd.bool W A0 M L → Calls Try.prog 12 #[.slice A0 M c0, .int .i64 0, .int .i64 n, .int .i64 0] W (SkPost W v false) := hsk
        have HSK := Aside0.mk hsk
        clear hch hsk hv
        go_enter Try.func3, Try.ntmps3
        go_wp2_with (first
          | (go_at_call 8; refine (law21_begun _).mono ?_; rintro e w11 ⟨rfl, hb⟩; have m2_ := Aside0.mk (below_step HB.out hb); clear HB; have HB := m2_; clear m2_ hb)
          | (go_at_call 9; refine (law_Of_m2 HM.out (Kd.C_below HC.out HB.out) HL0.out).mono ?_; rintro e w3 ⟨p, rfl, hbo, hb⟩; have HBO := Aside0.mk hbo.toP; have n1_ := Aside0.mk (below_step HB.out hb); have n2_ := Aside0.mk (Kd.C_below HC.out n1_.out); clear HB hbo hb HC; have HB := n1_; have HC := n2_; clear n1_ n2_)
          | (go_at_call 10; refine (trie_Rank _ HBO.out HL0.out HH0.out HH1.out).mono ?_; rw [← HR.out]; rintro e w' ⟨rfl, rfl⟩; simp only [skipR])
          | (go_at_call 11; refine (ref_Rank _ _ HM.out HC.out HLC.out HL0.out HH0.out HH1.out HN0.out HN4.out).mono ?_; rw [← HR.out]; rintro e w' ⟨rfl, ⟨nd, rfl⟩⟩; simp only [skipR])
          | (go_at_call 12; refine (HSK.out _ (Kd.C_drewN HC.out _)).mono ?_; rintro e w' ⟨rfl, ⟨ne, rfl⟩⟩)
          | (go_at_call 13; refine (trie_Check _ (HBO.out.drewN _) HL0.out).mono ?_; rw [HCH.out]; rintro e w' ⟨rfl, rfl⟩))
        go_ret
        exact ⟨rfl, by first | exact HB.out | exact pw_below_drewN HB.out _⟩
      · skip
        have HCH := Aside0.mk (show checkT L n = false from hch)
        replace hsk : ∀ W : World, Kd.C Kd.bool W A0 M L → Calls Try.prog 12 #[.slice A0 M c0, .int .i64 0, .int .i64 n, .int .i64 0] W (SkPost W v false) := hsk
        have HSK := Aside0.mk hsk
        clear hch hsk hv
        go_enter Try.func3, Try.ntmps3
        go_wp2_with (first
          | (go_at_call 8; refine (law21_begun _).mono ?_; rintro e w11 ⟨rfl, hb⟩; have m2_ := Aside0.mk (below_step HB.out hb); clear HB; have HB := m2_; clear m2_ hb)
          | (go_at_call 9; refine (law_Of_m2 HM.out (Kd.C_below HC.out HB.out) HL0.out).mono ?_; rintro e w3 ⟨p, rfl, hbo, hb⟩; have HBO := Aside0.mk hbo.toP; have n1_ := Aside0.mk (below_step HB.out hb); have n2_ := Aside0.mk (Kd.C_below HC.out n1_.out); clear HB hbo hb HC; have HB := n1_; have HC := n2_; clear n1_ n2_)
          | (go_at_call 10; refine (trie_Rank _ HBO.out HL0.out HH0.out HH1.out).mono ?_; rw [← HR.out]; rintro e w' ⟨rfl, rfl⟩; simp only [skipR])
          | (go_at_call 11; refine (ref_Rank _ _ HM.out HC.out HLC.out HL0.out HH0.out HH1.out HN0.out HN4.out).mono ?_; rw [← HR.out]; rintro e w' ⟨rfl, ⟨nd, rfl⟩⟩; simp only [skipR])
          | (go_at_call 12; refine (HSK.out _ (Kd.C_drewN HC.out _)).mono ?_; rintro e w' ⟨rfl, ⟨ne, rfl⟩⟩)
          | (go_at_call 13; refine (trie_Check _ (HBO.out.drewN _) HL0.out).mono ?_; rw [HCH.out]; rintro e w' ⟨rfl, rfl⟩))
        go_ret
        exact ⟨rfl, by first | exact HB.out | exact pw_below_drewN HB.out _⟩
      · skip
        obtain rfl : v = t := hv t rfl
        replace hsk : ∀ W : World, Kd.C Kd.bool W A0 M L → Calls Try.prog 12 #[.slice A0 M c0, .int .i64 0, .int .i64 n, .int .i64 0] W (SkPost W v true) := hsk
        have HSK := Aside0.mk hsk
        obtain ⟨b, hb⟩ : ∃ b, b = (v == (M : Int)) := ⟨_, rfl⟩
        have hvm : (v == (M : Int)) = b := hb.symm
        have HCH := Aside0.mk (show checkT L n = b by rw [hch, hb]; rfl)
        clear hch hsk hv hb
        cases b
        · skip
          go_enter Try.func3, Try.ntmps3
          go_wp2_with (first
            | (go_at_call 8; refine (law21_begun _).mono ?_; rintro e w11 ⟨rfl, hb⟩; have m2_ := Aside0.mk (below_step HB.out hb); clear HB; have HB := m2_; clear m2_ hb)
            | (go_at_call 9; refine (law_Of_m2 HM.out (Kd.C_below HC.out HB.out) HL0.out).mono ?_; rintro e w3 ⟨p, rfl, hbo, hb⟩; have HBO := Aside0.mk hbo.toP; have n1_ := Aside0.mk (below_step HB.out hb); have n2_ := Aside0.mk (Kd.C_below HC.out n1_.out); clear HB hbo hb HC; have HB := n1_; have HC := n2_; clear n1_ n2_)
            | (go_at_call 10; refine (trie_Rank _ HBO.out HL0.out HH0.out HH1.out).mono ?_; rw [← HR.out]; rintro e w' ⟨rfl, rfl⟩; simp only [skipR])
            | (go_at_call 11; refine (ref_Rank _ _ HM.out HC.out HLC.out HL0.out HH0.out HH1.out HN0.out HN4.out).mono ?_; rw [← HR.out]; rintro e w' ⟨rfl, ⟨nd, rfl⟩⟩; simp only [skipR])
            | (go_at_call 12; refine (HSK.out _ (Kd.C_drewN HC.out _)).mono ?_; rintro e w' ⟨rfl, ⟨ne, rfl⟩⟩)
            | (go_at_call 13; refine (trie_Check _ (HBO.out.drewN _) HL0.out).mono ?_; rw [HCH.out]; rintro e w' ⟨rfl, rfl⟩))
          go_ret
          exact ⟨rfl, by first | exact HB.out | exact pw_below_drewN HB.out _⟩
        · skip
          go_enter Try.func3, Try.ntmps3
          go_wp2_with (first
            | (go_at_call 8; refine (law21_begun _).mono ?_; rintro e w11 ⟨rfl, hb⟩; have m2_ := Aside0.mk (below_step HB.out hb); clear HB; have HB := m2_; clear m2_ hb)
            | (go_at_call 9; refine (law_Of_m2 HM.out (Kd.C_below HC.out HB.out) HL0.out).mono ?_; rintro e w3 ⟨p, rfl, hbo, hb⟩; have HBO := Aside0.mk hbo.toP; have n1_ := Aside0.mk (below_step HB.out hb); have n2_ := Aside0.mk (Kd.C_below HC.out n1_.out); clear HB hbo hb HC; have HB := n1_; have HC := n2_; clear n1_ n2_)
            | (go_at_call 10; refine (trie_Rank _ HBO.out HL0.out HH0.out HH1.out).mono ?_; rw [← HR.out]; rintro e w' ⟨rfl, rfl⟩; simp only [skipR])
            | (go_at_call 11; refine (ref_Rank _ _ HM.out HC.out HLC.out HL0.out HH0.out HH1.out HN0.out HN4.out).mono ?_; rw [← HR.out]; rintro e w' ⟨rfl, ⟨nd, rfl⟩⟩; simp only [skipR])
            | (go_at_call 12; refine (HSK.out _ (Kd.C_drewN HC.out _)).mono ?_; rintro e w' ⟨rfl, ⟨ne, rfl⟩⟩)
            | (go_at_call 13; refine (trie_Check _ (HBO.out.drewN _) HL0.out).mono ?_; rw [HCH.out]; rintro e w' ⟨rfl, rfl⟩))
          go_ret
          exact ⟨rfl, by first | exact HB.out | exact pw_below_drewN HB.out _⟩
      · skip
        obtain rfl : v = t := hv t rfl
        replace hsk : ∀ W : World, Kd.C Kd.bool W A0 M L → Calls Try.prog 12 #[.slice A0 M c0, .int .i64 0, .int .i64 n, .int .i64 0] W (SkPost W v true) := hsk
        have HSK := Aside0.mk hsk
        obtain ⟨b, hb⟩ : ∃ b, b = (v == (M : Int)) := ⟨_, rfl⟩
        have hvm : (v == (M : Int)) = b := hb.symm
        have HCH := Aside0.mk (show checkT L n = b by rw [hch, hb]; rfl)
        clear hch hsk hv hb
        cases b
        · skip
          go_enter Try.func3, Try.ntmps3
          go_wp2_with (first
            | (go_at_call 8; refine (law21_begun _).mono ?_; rintro e w11 ⟨rfl, hb⟩; have m2_ := Aside0.mk (below_step HB.out hb); clear HB; have HB := m2_; clear m2_ hb)
            | (go_at_call 9; refine (law_Of_m2 HM.out (Kd.C_below HC.out HB.out) HL0.out).mono ?_; rintro e w3 ⟨p, rfl, hbo, hb⟩; have HBO := Aside0.mk hbo.toP; have n1_ := Aside0.mk (below_step HB.out hb); have n2_ := Aside0.mk (Kd.C_below HC.out n1_.out); clear HB hbo hb HC; have HB := n1_; have HC := n2_; clear n1_ n2_)
            | (go_at_call 10; refine (trie_Rank _ HBO.out HL0.out HH0.out HH1.out).mono ?_; rw [← HR.out]; rintro e w' ⟨rfl, rfl⟩; simp only [skipR])
            | (go_at_call 11; refine (ref_Rank _ _ HM.out HC.out HLC.out HL0.out HH0.out HH1.out HN0.out HN4.out).mono ?_; rw [← HR.out]; rintro e w' ⟨rfl, ⟨nd, rfl⟩⟩; simp only [skipR])
            | (go_at_call 12; refine (HSK.out _ (Kd.C_drewN HC.out _)).mono ?_; rintro e w' ⟨rfl, ⟨ne, rfl⟩⟩)
            | (go_at_call 13; refine (trie_Check _ (HBO.out.drewN _) HL0.out).mono ?_; rw [HCH.out]; rintro e w' ⟨rfl, rfl⟩))
          go_ret
          exact ⟨rfl, by first | exact HB.out | exact pw_below_drewN HB.out _⟩
        · skip
          go_enter Try.func3, Try.ntmps3
          go_wp2_with (first
            | (go_at_call 8; refine (law21_begun _).mono ?_; rintro e w11 ⟨rfl, hb⟩; have m2_ := Aside0.mk (below_step HB.out hb); clear HB; have HB := m2_; clear m2_ hb)
            | (go_at_call 9; refine (law_Of_m2 HM.out (Kd.C_below HC.out HB.out) HL0.out).mono ?_; rintro e w3 ⟨p, rfl, hbo, hb⟩; have HBO := Aside0.mk hbo.toP; have n1_ := Aside0.mk (below_step HB.out hb); have n2_ := Aside0.mk (Kd.C_below HC.out n1_.out); clear HB hbo hb HC; have HB := n1_; have HC := n2_; clear n1_ n2_)
            | (go_at_call 10; refine (trie_Rank _ HBO.out HL0.out HH0.out HH1.out).mono ?_; rw [← HR.out]; rintro e w' ⟨rfl, rfl⟩; simp only [skipR])
            | (go_at_call 11; refine (ref_Rank _ _ HM.out HC.out HLC.out HL0.out HH0.out HH1.out HN0.out HN4.out).mono ?_; rw [← HR.out]; rintro e w' ⟨rfl, ⟨nd, rfl⟩⟩; simp only [skipR])
            | (go_at_call 12; refine (HSK.out _ (Kd.C_drewN HC.out _)).mono ?_; rintro e w' ⟨rfl, ⟨ne, rfl⟩⟩)
            | (go_at_call 13; refine (trie_Check _ (HBO.out.drewN _) HL0.out).mono ?_; rw [HCH.out]; rintro e w' ⟨rfl, rfl⟩))
          go_ret
          exact ⟨rfl, by first | exact HB.out | exact pw_below_drewN HB.out _⟩
end Go.Proofs.Ytobdfehpbgcloaa.GL
