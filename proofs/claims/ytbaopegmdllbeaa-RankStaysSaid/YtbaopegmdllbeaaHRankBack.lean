/- The law RankBack, walked by hand. -/
import Derived.Test.YtbaopegmdllbeaaHRankAll
namespace Go.Proofs.Ytbaopegmdllbeaa.GL
open Go.RowKit Go.Proofs.YtbaopegmdllbeaaW.PrintWords Go.Proofs.YtbaopegmdllbeaaW.PrintLast Go.Proofs.YtbaopegmdllbeaaW.PrintMore Go.Proofs.Ytbaopegmdllbeaa.Q Go.Proofs.Ytbaopegmdllbeaa.XBit
set_option linter.unusedVariables false
set_option linter.unusedSimpArgs false
/-- Where each count is reached. -/
theorem place_ex (L : List Bool) : ∀ (m n : Nat), n < cnt L m → ∃ j, j < m ∧ L.getD j false = true ∧ cnt L j = n := by
  intro m
  induction m with
  | zero => intro n h; have := cnt_le L 0; omega
  | succ m ih =>
    intro n h
    by_cases hm : n < cnt L m
    · obtain ⟨j, h1, h2, h3⟩ := ih n hm
      exact ⟨j, by omega, h2, h3⟩
    · have hs := cnt_succ L m
      cases hb : L.getD m false
      · rw [hb] at hs
        simp at hs
        omega
      · rw [hb] at hs
        simp at hs
        exact ⟨m, by omega, hb, by omega⟩
/-- rank.Place. -/
def placeOf (L : List Bool) (n : Int) (p : Int) : Prop := (p = -1 ∧ (n < 0 ∨ (cnt L L.length : Int) ≤ n)) ∨ ∃ j : Nat, p = (j : Int) ∧ j < L.length ∧ L.getD j false = true ∧ n = (cnt L j : Int)
theorem place_any (L : List Bool) (n : Int) : ∃ p, placeOf L n p := by
  by_cases h : n < 0 ∨ (cnt L L.length : Int) ≤ n
  · exact ⟨-1, .inl ⟨rfl, h⟩⟩
  · obtain ⟨n, rfl⟩ := Int.eq_ofNat_of_zero_le (show 0 ≤ n by omega)
    obtain ⟨j, h1, h2, h3⟩ := place_ex L L.length n (by omega)
    exact ⟨j, .inr ⟨j, rfl, h1, h2, by omega⟩⟩
theorem rank_Place {w : World} {p : Nat} {L : List Bool} (n i : Int) (h : RankR w p (counts L L.length)) (hl : L.length < 100000000) (hp : placeOf L n i) :
    Calls Try.prog 26 #[.pointer (some ⟨p, 0, none⟩), .int .i64 n] w fun e w' => e = .returned (.int .i64 i) ∧ Drawn0 w w' := by
  rcases hp with ⟨rfl, hn⟩ | ⟨j, rfl, h1, h2, rfl⟩
  · exact rank_Place_none n h hl hn
  · exact rank_Place_at j _ _ h hl h1 h2 rfl rfl
theorem rank_Ones_in {w : World} {p k : Nat} {L : List Bool} (h : RankR w p (counts L L.length)) (hl : L.length < 1000000000) (hk : k ≤ L.length) :
    Calls Try.prog 25 #[.pointer (some ⟨p, 0, none⟩), .int .i64 k] w fun e w' => e = .returned (.int .i64 (cnt L k)) ∧ Drawn0 w w' := by
  have := rank_Ones (k : Int) h hl
  rw [clampN_in hk] at this
  exact this
theorem quiet_drawn {f : FuncId} {args : Array Value} {w : World} {n : Nat} {v : Value} (h : Calls Try.prog f args (w.drewN n) fun e w' => e = .returned v ∧ Drawn0 (w.drewN n) w') : Calls Try.prog f args (w.drewN n) fun e w'' => e = .returned v ∧ ∃ m, w'' = w.drewN m :=
  h.mono fun _ _ ⟨he, ⟨m, hm⟩⟩ => ⟨he, n + m, by rw [hm, World.drewN_drewN]⟩
theorem quiet_drawn2 {f : FuncId} {args : Array Value} {w : World} {a b : Nat} {v : Value} (h : Calls Try.prog f args (w.drewN (a + b)) fun e w' => e = .returned v ∧ Drawn0 (w.drewN (a + b)) w') : Calls Try.prog f args (w.drewN (a + b)) fun e w'' => e = .returned v ∧ ∃ n, w'' = w.drewN (a + n) :=
  h.mono fun _ _ ⟨he, ⟨m, hm⟩⟩ => ⟨he, b + m, by rw [hm, World.drewN_drewN, Nat.add_assoc]⟩
set_option maxRecDepth 1000000 in
set_option maxHeartbeats 8000000 in
theorem RankBack.walk (P : True) (A0 : Option Addr) (len0 c0 : Nat) (l : List Bool) (n i : Int) (w : World) (w0 : O.IsRows Kd.bool (fun _ => True) w A0 len0 c0 l) (w1 : (Lit.int .i64 n).wf = true) (w2 : (Lit.int .i64 i).wf = true) :
    Calls Try.prog 7 #[.slice A0 len0 c0, .int .i64 n, .int .i64 i] w fun e w' => e = .returned (.bool true) ∧ Below w.heap.size w w' := by
  obtain ⟨hlen, hlc, hcm, hC0, _⟩ := w0
  have hwn := wfI64 w1
  have hwi := wfI64 w2
  have HB := Aside0.mk (Below.refl w.heap.size w)
  clear w1 w2
  by_cases hcut : 300 < len0
  · skip
    obtain ⟨L, hL⟩ : ∃ L, L = l.take 300 := ⟨_, rfl⟩
    obtain ⟨M, hM⟩ : ∃ M, M = 300 := ⟨_, rfl⟩
    obtain ⟨i0, hi, hi1, hi2, hi3⟩ := info_parts info4
    have hrun : ∀ W : World, (Instr.slice 43 (.slice A0 len0 c0) none (some (.int .i64 300)) none).run Try.prog W = .ok (.slice A0 M c0) W := by
      intro W
      rw [hM]
      exact cut_to (P := Try.prog) 43 4 .i64 Try.underlying43 hi A0 len0 c0 300 (by decide) (by omega) hlc W
    have hcd : decide ((300 : Int) < (len0 : Int)) = true := decide_eq_true (by omega)
    have hcd2 : decide (300 < len0) = true := decide_eq_true hcut
    have hC1 : Kd.C Kd.bool w A0 M L := by
      have := Kd.C_take (k := Kd.bool) (m := 300) (by rw [hlen]; exact hC0) (by omega)
      rw [List.length_take, hlen, Nat.min_eq_left (by omega)] at this
      rw [hM, hL]
      exact this
    have hML : M = L.length := by rw [hM, hL, List.length_take]; omega
    have HM300 := Aside0.mk hM
    have hmi : (M : Int) ≤ 300 := by omega
    have HC := Aside0.mk hC1
    have HM := Aside0.mk hML
    have HM3 := Aside0.mk (show M ≤ 300 by omega)
    have HL := Aside0.mk (show L.length < 1000000000 by omega)
    have HL1 := Aside0.mk (show L.length < 100000000 by omega)
    have HL0 := Aside0.mk (show L.length < 100000000000 by omega)
    clear hC0 hlen hM hL hML hcut hlc hcm hC1 hi hi1 hi2 hi3 HM300
    go_enter Try.func7, Try.ntmps7
    go_upto_region 7 with (first
    | (go_at_call 22; refine (law8_begun _).mono ?_; rintro e w1 ⟨rfl, hb⟩; have n1_ := Aside0.mk (below_step HB.out hb); clear HB hb; have HB := n1_; clear n1_)
    | (go_at_call 24; refine (law_Of_m HM.out (Kd.C_below HC.out HB.out) HL0.out).mono ?_; rintro e w3 ⟨p, rfl, hbo, hb⟩; have HBO := Aside0.mk hbo; have n1_ := Aside0.mk (below_step HB.out hb); clear HB hbo hb; have HB := n1_; clear n1_)
    | (go_at_call 23; refine (rank_New HBO.out.toP HL.out).mono ?_; rintro e w4 ⟨q, rfl, hr, hb⟩; have HRR := Aside0.mk hr.reads; have n1_ := Aside0.mk (below_step HB.out hb); clear HB hr hb HBO; have HB := n1_; clear n1_; have HD := Aside0.mk (Drawn0.refl w4))
    )
    obtain ⟨pp, hpp⟩ := place_any L n
    have HPP := Aside0.mk hpp
    have HCI := Aside0.mk (Kd.C_below HC.out HB.out)
    rcases hpp with ⟨rfl, hpn⟩ | ⟨j, rfl, hj1, hj2, rfl⟩
    · have o1 := Aside0.mk (show 0 = 0 from rfl)
      have o2 := o1
      clear hpn
      by_cases hi0 : i < 0
      · have hid := decide_eq_true hi0
        clear hi0
        go_wp2_with (first
          | (go_at_call 25; refine (rank_Ones _ (by first | exact HRR.out | exact HRR.out.drawn ⟨⟨_, rfl⟩⟩ | exact HRR.out.drawn (Drawn0.step ⟨⟨_, rfl⟩⟩ _)) HL.out).mono ?_; (first | rw [o1.out] | rw [o2.out]); rintro e w' ⟨rfl, ⟨nd, rfl⟩⟩)
          | (go_at_call 26; (with_reducible refine (rank_Place _ _ (by first | exact HRR.out | exact HRR.out.drawn ⟨⟨_, rfl⟩⟩ | exact HRR.out.drawn (Drawn0.step ⟨⟨_, rfl⟩⟩ _)) HL1.out HPP.out).mono ?_); rintro e w' ⟨rfl, ⟨nd, rfl⟩⟩))
        go_ret
        exact ⟨rfl, pw_below_drewN HB.out _⟩
      · have hid := decide_eq_false hi0
        by_cases hi1 : (M : Int) ≤ i
        · have hid1 := decide_eq_true hi1
          clear hi0 hi1
          go_wp2_with (first
            | (go_at_call 25; refine (rank_Ones _ (by first | exact HRR.out | exact HRR.out.drawn ⟨⟨_, rfl⟩⟩ | exact HRR.out.drawn (Drawn0.step ⟨⟨_, rfl⟩⟩ _)) HL.out).mono ?_; (first | rw [o1.out] | rw [o2.out]); rintro e w' ⟨rfl, ⟨nd, rfl⟩⟩)
            | (go_at_call 26; (with_reducible refine (rank_Place _ _ (by first | exact HRR.out | exact HRR.out.drawn ⟨⟨_, rfl⟩⟩ | exact HRR.out.drawn (Drawn0.step ⟨⟨_, rfl⟩⟩ _)) HL1.out HPP.out).mono ?_); rintro e w' ⟨rfl, ⟨nd, rfl⟩⟩))
          go_ret
          exact ⟨rfl, pw_below_drewN HB.out _⟩
        · have hid1 := decide_eq_false hi1
          obtain ⟨k, rfl⟩ := Int.eq_ofNat_of_zero_le (show 0 ≤ i by omega)
          have hkM : (k : Int) < (M : Int) := by omega
          have hk300 : (k : Int) < 300 := by omega
          have hid2 : decide (M ≤ k) = false := decide_eq_false (by omega)
          obtain ⟨ad, e, hx⟩ := Kd.at_bool HCI.out (k : Int) (Int.natCast_nonneg _) hkM
          cases e
          have HKL := Aside0.mk (show k ≤ L.length by have := HM.out; omega)
          have hkl : k < L.length := by have := HM.out; omega
          clear hi0 hi1 hwi
          go_wp2_with (first
            | (go_at_call 25; refine (rank_Ones _ (by first | exact HRR.out | exact HRR.out.drawn ⟨⟨_, rfl⟩⟩ | exact HRR.out.drawn (Drawn0.step ⟨⟨_, rfl⟩⟩ _)) HL.out).mono ?_; (first | rw [o1.out] | rw [o2.out]); rintro e w' ⟨rfl, ⟨nd, rfl⟩⟩)
            | (go_at_call 26; (with_reducible refine (rank_Place _ _ (by first | exact HRR.out | exact HRR.out.drawn ⟨⟨_, rfl⟩⟩ | exact HRR.out.drawn (Drawn0.step ⟨⟨_, rfl⟩⟩ _)) HL1.out HPP.out).mono ?_); rintro e w' ⟨rfl, ⟨nd, rfl⟩⟩))
          cases hb : L.getD k false
          · replace hx : w4.cell? (ad.add k) = some (.bool false) := by rw [← hb]; exact hx
            obtain ⟨pi, hpi⟩ := place_any L (cnt L k : Int)
            have hne : (pi == (k : Int)) = false := by
              rw [beq_eq_false_iff_ne]
              rcases hpi with ⟨rfl, _⟩ | ⟨j, rfl, _, h2, _⟩
              · omega
              · intro e
                have : j = k := by omega
                rw [this, hb] at h2
                cases h2
            have HPI := Aside0.mk hpi
            clear hb hpi hkl
            go_quiet ((first | (go_at_call 25; exact quiet_drawn2 (rank_Ones_in (by first | exact HRR.out | exact HRR.out.drawn ⟨⟨_, rfl⟩⟩ | exact HRR.out.drawn (Drawn0.step ⟨⟨_, rfl⟩⟩ _)) HL.out HKL.out)) | (go_at_call 26; exact quiet_drawn2 (rank_Place _ _ (by first | exact HRR.out | exact HRR.out.drawn ⟨⟨_, rfl⟩⟩ | exact HRR.out.drawn (Drawn0.step ⟨⟨_, rfl⟩⟩ _)) HL1.out HPI.out))))
            go_wp2
            go_ret
            exact ⟨rfl, pw_below_drewN (pw_below_drewN HB.out _) _⟩
          · replace hx : w4.cell? (ad.add k) = some (.bool true) := by rw [← hb]; exact hx
            have HPI := Aside0.mk (show placeOf L (cnt L k : Int) (k : Int) from .inr ⟨k, rfl, hkl, hb, rfl⟩)
            clear hb hkl
            go_quiet ((first | (go_at_call 25; exact quiet_drawn2 (rank_Ones_in (by first | exact HRR.out | exact HRR.out.drawn ⟨⟨_, rfl⟩⟩ | exact HRR.out.drawn (Drawn0.step ⟨⟨_, rfl⟩⟩ _)) HL.out HKL.out)) | (go_at_call 26; exact quiet_drawn2 (rank_Place _ _ (by first | exact HRR.out | exact HRR.out.drawn ⟨⟨_, rfl⟩⟩ | exact HRR.out.drawn (Drawn0.step ⟨⟨_, rfl⟩⟩ _)) HL1.out HPI.out))))
            go_wp2
            go_ret
            exact ⟨rfl, pw_below_drewN (pw_below_drewN HB.out _) _⟩
    · obtain ⟨c, hc⟩ : ∃ c, c = cnt L j := ⟨_, rfl⟩
      have o1 := Aside0.mk (show cnt L (clampN (j : Int) L.length) = c by rw [clampN_in (by omega), hc])
      have o2 := Aside0.mk (show cnt L (clampN ((j : Int) + 1) L.length) = c + 1 by
        rw [show ((j : Int) + 1) = ((j + 1 : Nat) : Int) from rfl, clampN_in (by omega), cnt_succ, hj2, hc]
        rfl)
      have hcb : (c : Int) ≤ 300 := by have := cnt_le L j; have := HM.out; have := HM3.out; omega
      have hjb : (j : Int) < 300 := by have := HM.out; have := HM3.out; omega
      have hj0 : decide ((0 : Int) ≤ (j : Int)) = true := decide_eq_true (by omega)
      rw [← hc] at HPP
      rw [← hc] at hwn ⊢
      clear hc hj1 hj2
      by_cases hi0 : i < 0
      · have hid := decide_eq_true hi0
        clear hi0
        go_wp2_with (first
          | (go_at_call 25; refine (rank_Ones _ (by first | exact HRR.out | exact HRR.out.drawn ⟨⟨_, rfl⟩⟩ | exact HRR.out.drawn (Drawn0.step ⟨⟨_, rfl⟩⟩ _)) HL.out).mono ?_; (first | rw [o1.out] | rw [o2.out]); rintro e w' ⟨rfl, ⟨nd, rfl⟩⟩)
          | (go_at_call 26; (with_reducible refine (rank_Place _ _ (by first | exact HRR.out | exact HRR.out.drawn ⟨⟨_, rfl⟩⟩ | exact HRR.out.drawn (Drawn0.step ⟨⟨_, rfl⟩⟩ _)) HL1.out HPP.out).mono ?_); rintro e w' ⟨rfl, ⟨nd, rfl⟩⟩))
        go_ret
        exact ⟨rfl, pw_below_drewN HB.out _⟩
      · have hid := decide_eq_false hi0
        by_cases hi1 : (M : Int) ≤ i
        · have hid1 := decide_eq_true hi1
          clear hi0 hi1
          go_wp2_with (first
            | (go_at_call 25; refine (rank_Ones _ (by first | exact HRR.out | exact HRR.out.drawn ⟨⟨_, rfl⟩⟩ | exact HRR.out.drawn (Drawn0.step ⟨⟨_, rfl⟩⟩ _)) HL.out).mono ?_; (first | rw [o1.out] | rw [o2.out]); rintro e w' ⟨rfl, ⟨nd, rfl⟩⟩)
            | (go_at_call 26; (with_reducible refine (rank_Place _ _ (by first | exact HRR.out | exact HRR.out.drawn ⟨⟨_, rfl⟩⟩ | exact HRR.out.drawn (Drawn0.step ⟨⟨_, rfl⟩⟩ _)) HL1.out HPP.out).mono ?_); rintro e w' ⟨rfl, ⟨nd, rfl⟩⟩))
          go_ret
          exact ⟨rfl, pw_below_drewN HB.out _⟩
        · have hid1 := decide_eq_false hi1
          obtain ⟨k, rfl⟩ := Int.eq_ofNat_of_zero_le (show 0 ≤ i by omega)
          have hkM : (k : Int) < (M : Int) := by omega
          have hk300 : (k : Int) < 300 := by omega
          have hid2 : decide (M ≤ k) = false := decide_eq_false (by omega)
          obtain ⟨ad, e, hx⟩ := Kd.at_bool HCI.out (k : Int) (Int.natCast_nonneg _) hkM
          cases e
          have HKL := Aside0.mk (show k ≤ L.length by have := HM.out; omega)
          have hkl : k < L.length := by have := HM.out; omega
          clear hi0 hi1 hwi
          go_wp2_with (first
            | (go_at_call 25; refine (rank_Ones _ (by first | exact HRR.out | exact HRR.out.drawn ⟨⟨_, rfl⟩⟩ | exact HRR.out.drawn (Drawn0.step ⟨⟨_, rfl⟩⟩ _)) HL.out).mono ?_; (first | rw [o1.out] | rw [o2.out]); rintro e w' ⟨rfl, ⟨nd, rfl⟩⟩)
            | (go_at_call 26; (with_reducible refine (rank_Place _ _ (by first | exact HRR.out | exact HRR.out.drawn ⟨⟨_, rfl⟩⟩ | exact HRR.out.drawn (Drawn0.step ⟨⟨_, rfl⟩⟩ _)) HL1.out HPP.out).mono ?_); rintro e w' ⟨rfl, ⟨nd, rfl⟩⟩))
          cases hb : L.getD k false
          · replace hx : w4.cell? (ad.add k) = some (.bool false) := by rw [← hb]; exact hx
            obtain ⟨pi, hpi⟩ := place_any L (cnt L k : Int)
            have hne : (pi == (k : Int)) = false := by
              rw [beq_eq_false_iff_ne]
              rcases hpi with ⟨rfl, _⟩ | ⟨j, rfl, _, h2, _⟩
              · omega
              · intro e
                have : j = k := by omega
                rw [this, hb] at h2
                cases h2
            have HPI := Aside0.mk hpi
            clear hb hpi hkl
            go_quiet ((first | (go_at_call 25; exact quiet_drawn2 (rank_Ones_in (by first | exact HRR.out | exact HRR.out.drawn ⟨⟨_, rfl⟩⟩ | exact HRR.out.drawn (Drawn0.step ⟨⟨_, rfl⟩⟩ _)) HL.out HKL.out)) | (go_at_call 26; exact quiet_drawn2 (rank_Place _ _ (by first | exact HRR.out | exact HRR.out.drawn ⟨⟨_, rfl⟩⟩ | exact HRR.out.drawn (Drawn0.step ⟨⟨_, rfl⟩⟩ _)) HL1.out HPI.out))))
            go_wp2
            go_ret
            exact ⟨rfl, pw_below_drewN (pw_below_drewN HB.out _) _⟩
          · replace hx : w4.cell? (ad.add k) = some (.bool true) := by rw [← hb]; exact hx
            have HPI := Aside0.mk (show placeOf L (cnt L k : Int) (k : Int) from .inr ⟨k, rfl, hkl, hb, rfl⟩)
            clear hb hkl
            go_quiet ((first | (go_at_call 25; exact quiet_drawn2 (rank_Ones_in (by first | exact HRR.out | exact HRR.out.drawn ⟨⟨_, rfl⟩⟩ | exact HRR.out.drawn (Drawn0.step ⟨⟨_, rfl⟩⟩ _)) HL.out HKL.out)) | (go_at_call 26; exact quiet_drawn2 (rank_Place _ _ (by first | exact HRR.out | exact HRR.out.drawn ⟨⟨_, rfl⟩⟩ | exact HRR.out.drawn (Drawn0.step ⟨⟨_, rfl⟩⟩ _)) HL1.out HPI.out))))
            go_wp2
            go_ret
            exact ⟨rfl, pw_below_drewN (pw_below_drewN HB.out _) _⟩
  · skip
    obtain ⟨L, hL⟩ : ∃ L, L = l := ⟨_, rfl⟩
    obtain ⟨M, hM⟩ : ∃ M, M = len0 := ⟨_, rfl⟩
    rw [← hM] at hC0 hcut ⊢
    rw [← hL] at hC0
    have hML : M = L.length := by rw [hM, hL, hlen]
    have hcd : decide ((300 : Int) < (M : Int)) = false := decide_eq_false (by omega)
    have hcd2 : decide (300 < M) = false := decide_eq_false (by omega)
    have hmi : (M : Int) ≤ 300 := by omega
    have HC := Aside0.mk hC0
    have HM := Aside0.mk hML
    have HM3 := Aside0.mk (show M ≤ 300 by omega)
    have HL := Aside0.mk (show L.length < 1000000000 by omega)
    have HL1 := Aside0.mk (show L.length < 100000000 by omega)
    have HL0 := Aside0.mk (show L.length < 100000000000 by omega)
    clear hC0 hlen hM hL hML hcut hlc hcm
    go_enter Try.func7, Try.ntmps7
    go_upto_region 7 with (first
    | (go_at_call 22; refine (law8_begun _).mono ?_; rintro e w1 ⟨rfl, hb⟩; have n1_ := Aside0.mk (below_step HB.out hb); clear HB hb; have HB := n1_; clear n1_)
    | (go_at_call 24; refine (law_Of_m HM.out (Kd.C_below HC.out HB.out) HL0.out).mono ?_; rintro e w3 ⟨p, rfl, hbo, hb⟩; have HBO := Aside0.mk hbo; have n1_ := Aside0.mk (below_step HB.out hb); clear HB hbo hb; have HB := n1_; clear n1_)
    | (go_at_call 23; refine (rank_New HBO.out.toP HL.out).mono ?_; rintro e w4 ⟨q, rfl, hr, hb⟩; have HRR := Aside0.mk hr.reads; have n1_ := Aside0.mk (below_step HB.out hb); clear HB hr hb HBO; have HB := n1_; clear n1_; have HD := Aside0.mk (Drawn0.refl w4))
    )
    obtain ⟨pp, hpp⟩ := place_any L n
    have HPP := Aside0.mk hpp
    have HCI := Aside0.mk (Kd.C_below HC.out HB.out)
    rcases hpp with ⟨rfl, hpn⟩ | ⟨j, rfl, hj1, hj2, rfl⟩
    · have o1 := Aside0.mk (show 0 = 0 from rfl)
      have o2 := o1
      clear hpn
      by_cases hi0 : i < 0
      · have hid := decide_eq_true hi0
        clear hi0
        go_wp2_with (first
          | (go_at_call 25; refine (rank_Ones _ (by first | exact HRR.out | exact HRR.out.drawn ⟨⟨_, rfl⟩⟩ | exact HRR.out.drawn (Drawn0.step ⟨⟨_, rfl⟩⟩ _)) HL.out).mono ?_; (first | rw [o1.out] | rw [o2.out]); rintro e w' ⟨rfl, ⟨nd, rfl⟩⟩)
          | (go_at_call 26; (with_reducible refine (rank_Place _ _ (by first | exact HRR.out | exact HRR.out.drawn ⟨⟨_, rfl⟩⟩ | exact HRR.out.drawn (Drawn0.step ⟨⟨_, rfl⟩⟩ _)) HL1.out HPP.out).mono ?_); rintro e w' ⟨rfl, ⟨nd, rfl⟩⟩))
        go_ret
        exact ⟨rfl, pw_below_drewN HB.out _⟩
      · have hid := decide_eq_false hi0
        by_cases hi1 : (M : Int) ≤ i
        · have hid1 := decide_eq_true hi1
          clear hi0 hi1
          go_wp2_with (first
            | (go_at_call 25; refine (rank_Ones _ (by first | exact HRR.out | exact HRR.out.drawn ⟨⟨_, rfl⟩⟩ | exact HRR.out.drawn (Drawn0.step ⟨⟨_, rfl⟩⟩ _)) HL.out).mono ?_; (first | rw [o1.out] | rw [o2.out]); rintro e w' ⟨rfl, ⟨nd, rfl⟩⟩)
            | (go_at_call 26; (with_reducible refine (rank_Place _ _ (by first | exact HRR.out | exact HRR.out.drawn ⟨⟨_, rfl⟩⟩ | exact HRR.out.drawn (Drawn0.step ⟨⟨_, rfl⟩⟩ _)) HL1.out HPP.out).mono ?_); rintro e w' ⟨rfl, ⟨nd, rfl⟩⟩))
          go_ret
          exact ⟨rfl, pw_below_drewN HB.out _⟩
        · have hid1 := decide_eq_false hi1
          obtain ⟨k, rfl⟩ := Int.eq_ofNat_of_zero_le (show 0 ≤ i by omega)
          have hkM : (k : Int) < (M : Int) := by omega
          have hk300 : (k : Int) < 300 := by omega
          have hid2 : decide (M ≤ k) = false := decide_eq_false (by omega)
          obtain ⟨ad, e, hx⟩ := Kd.at_bool HCI.out (k : Int) (Int.natCast_nonneg _) hkM
          cases e
          have HKL := Aside0.mk (show k ≤ L.length by have := HM.out; omega)
          have hkl : k < L.length := by have := HM.out; omega
          clear hi0 hi1 hwi
          go_wp2_with (first
            | (go_at_call 25; refine (rank_Ones _ (by first | exact HRR.out | exact HRR.out.drawn ⟨⟨_, rfl⟩⟩ | exact HRR.out.drawn (Drawn0.step ⟨⟨_, rfl⟩⟩ _)) HL.out).mono ?_; (first | rw [o1.out] | rw [o2.out]); rintro e w' ⟨rfl, ⟨nd, rfl⟩⟩)
            | (go_at_call 26; (with_reducible refine (rank_Place _ _ (by first | exact HRR.out | exact HRR.out.drawn ⟨⟨_, rfl⟩⟩ | exact HRR.out.drawn (Drawn0.step ⟨⟨_, rfl⟩⟩ _)) HL1.out HPP.out).mono ?_); rintro e w' ⟨rfl, ⟨nd, rfl⟩⟩))
          cases hb : L.getD k false
          · replace hx : w4.cell? (ad.add k) = some (.bool false) := by rw [← hb]; exact hx
            obtain ⟨pi, hpi⟩ := place_any L (cnt L k : Int)
            have hne : (pi == (k : Int)) = false := by
              rw [beq_eq_false_iff_ne]
              rcases hpi with ⟨rfl, _⟩ | ⟨j, rfl, _, h2, _⟩
              · omega
              · intro e
                have : j = k := by omega
                rw [this, hb] at h2
                cases h2
            have HPI := Aside0.mk hpi
            clear hb hpi hkl
            go_quiet ((first | (go_at_call 25; exact quiet_drawn2 (rank_Ones_in (by first | exact HRR.out | exact HRR.out.drawn ⟨⟨_, rfl⟩⟩ | exact HRR.out.drawn (Drawn0.step ⟨⟨_, rfl⟩⟩ _)) HL.out HKL.out)) | (go_at_call 26; exact quiet_drawn2 (rank_Place _ _ (by first | exact HRR.out | exact HRR.out.drawn ⟨⟨_, rfl⟩⟩ | exact HRR.out.drawn (Drawn0.step ⟨⟨_, rfl⟩⟩ _)) HL1.out HPI.out))))
            go_wp2
            go_ret
            exact ⟨rfl, pw_below_drewN (pw_below_drewN HB.out _) _⟩
          · replace hx : w4.cell? (ad.add k) = some (.bool true) := by rw [← hb]; exact hx
            have HPI := Aside0.mk (show placeOf L (cnt L k : Int) (k : Int) from .inr ⟨k, rfl, hkl, hb, rfl⟩)
            clear hb hkl
            go_quiet ((first | (go_at_call 25; exact quiet_drawn2 (rank_Ones_in (by first | exact HRR.out | exact HRR.out.drawn ⟨⟨_, rfl⟩⟩ | exact HRR.out.drawn (Drawn0.step ⟨⟨_, rfl⟩⟩ _)) HL.out HKL.out)) | (go_at_call 26; exact quiet_drawn2 (rank_Place _ _ (by first | exact HRR.out | exact HRR.out.drawn ⟨⟨_, rfl⟩⟩ | exact HRR.out.drawn (Drawn0.step ⟨⟨_, rfl⟩⟩ _)) HL1.out HPI.out))))
            go_wp2
            go_ret
            exact ⟨rfl, pw_below_drewN (pw_below_drewN HB.out _) _⟩
    · obtain ⟨c, hc⟩ : ∃ c, c = cnt L j := ⟨_, rfl⟩
      have o1 := Aside0.mk (show cnt L (clampN (j : Int) L.length) = c by rw [clampN_in (by omega), hc])
      have o2 := Aside0.mk (show cnt L (clampN ((j : Int) + 1) L.length) = c + 1 by
        rw [show ((j : Int) + 1) = ((j + 1 : Nat) : Int) from rfl, clampN_in (by omega), cnt_succ, hj2, hc]
        rfl)
      have hcb : (c : Int) ≤ 300 := by have := cnt_le L j; have := HM.out; have := HM3.out; omega
      have hjb : (j : Int) < 300 := by have := HM.out; have := HM3.out; omega
      have hj0 : decide ((0 : Int) ≤ (j : Int)) = true := decide_eq_true (by omega)
      rw [← hc] at HPP
      rw [← hc] at hwn ⊢
      clear hc hj1 hj2
      by_cases hi0 : i < 0
      · have hid := decide_eq_true hi0
        clear hi0
        go_wp2_with (first
          | (go_at_call 25; refine (rank_Ones _ (by first | exact HRR.out | exact HRR.out.drawn ⟨⟨_, rfl⟩⟩ | exact HRR.out.drawn (Drawn0.step ⟨⟨_, rfl⟩⟩ _)) HL.out).mono ?_; (first | rw [o1.out] | rw [o2.out]); rintro e w' ⟨rfl, ⟨nd, rfl⟩⟩)
          | (go_at_call 26; (with_reducible refine (rank_Place _ _ (by first | exact HRR.out | exact HRR.out.drawn ⟨⟨_, rfl⟩⟩ | exact HRR.out.drawn (Drawn0.step ⟨⟨_, rfl⟩⟩ _)) HL1.out HPP.out).mono ?_); rintro e w' ⟨rfl, ⟨nd, rfl⟩⟩))
        go_ret
        exact ⟨rfl, pw_below_drewN HB.out _⟩
      · have hid := decide_eq_false hi0
        by_cases hi1 : (M : Int) ≤ i
        · have hid1 := decide_eq_true hi1
          clear hi0 hi1
          go_wp2_with (first
            | (go_at_call 25; refine (rank_Ones _ (by first | exact HRR.out | exact HRR.out.drawn ⟨⟨_, rfl⟩⟩ | exact HRR.out.drawn (Drawn0.step ⟨⟨_, rfl⟩⟩ _)) HL.out).mono ?_; (first | rw [o1.out] | rw [o2.out]); rintro e w' ⟨rfl, ⟨nd, rfl⟩⟩)
            | (go_at_call 26; (with_reducible refine (rank_Place _ _ (by first | exact HRR.out | exact HRR.out.drawn ⟨⟨_, rfl⟩⟩ | exact HRR.out.drawn (Drawn0.step ⟨⟨_, rfl⟩⟩ _)) HL1.out HPP.out).mono ?_); rintro e w' ⟨rfl, ⟨nd, rfl⟩⟩))
          go_ret
          exact ⟨rfl, pw_below_drewN HB.out _⟩
        · have hid1 := decide_eq_false hi1
          obtain ⟨k, rfl⟩ := Int.eq_ofNat_of_zero_le (show 0 ≤ i by omega)
          have hkM : (k : Int) < (M : Int) := by omega
          have hk300 : (k : Int) < 300 := by omega
          have hid2 : decide (M ≤ k) = false := decide_eq_false (by omega)
          obtain ⟨ad, e, hx⟩ := Kd.at_bool HCI.out (k : Int) (Int.natCast_nonneg _) hkM
          cases e
          have HKL := Aside0.mk (show k ≤ L.length by have := HM.out; omega)
          have hkl : k < L.length := by have := HM.out; omega
          clear hi0 hi1 hwi
          go_wp2_with (first
            | (go_at_call 25; refine (rank_Ones _ (by first | exact HRR.out | exact HRR.out.drawn ⟨⟨_, rfl⟩⟩ | exact HRR.out.drawn (Drawn0.step ⟨⟨_, rfl⟩⟩ _)) HL.out).mono ?_; (first | rw [o1.out] | rw [o2.out]); rintro e w' ⟨rfl, ⟨nd, rfl⟩⟩)
            | (go_at_call 26; (with_reducible refine (rank_Place _ _ (by first | exact HRR.out | exact HRR.out.drawn ⟨⟨_, rfl⟩⟩ | exact HRR.out.drawn (Drawn0.step ⟨⟨_, rfl⟩⟩ _)) HL1.out HPP.out).mono ?_); rintro e w' ⟨rfl, ⟨nd, rfl⟩⟩))
          cases hb : L.getD k false
          · replace hx : w4.cell? (ad.add k) = some (.bool false) := by rw [← hb]; exact hx
            obtain ⟨pi, hpi⟩ := place_any L (cnt L k : Int)
            have hne : (pi == (k : Int)) = false := by
              rw [beq_eq_false_iff_ne]
              rcases hpi with ⟨rfl, _⟩ | ⟨j, rfl, _, h2, _⟩
              · omega
              · intro e
                have : j = k := by omega
                rw [this, hb] at h2
                cases h2
            have HPI := Aside0.mk hpi
            clear hb hpi hkl
            go_quiet ((first | (go_at_call 25; exact quiet_drawn2 (rank_Ones_in (by first | exact HRR.out | exact HRR.out.drawn ⟨⟨_, rfl⟩⟩ | exact HRR.out.drawn (Drawn0.step ⟨⟨_, rfl⟩⟩ _)) HL.out HKL.out)) | (go_at_call 26; exact quiet_drawn2 (rank_Place _ _ (by first | exact HRR.out | exact HRR.out.drawn ⟨⟨_, rfl⟩⟩ | exact HRR.out.drawn (Drawn0.step ⟨⟨_, rfl⟩⟩ _)) HL1.out HPI.out))))
            go_wp2
            go_ret
            exact ⟨rfl, pw_below_drewN (pw_below_drewN HB.out _) _⟩
          · replace hx : w4.cell? (ad.add k) = some (.bool true) := by rw [← hb]; exact hx
            have HPI := Aside0.mk (show placeOf L (cnt L k : Int) (k : Int) from .inr ⟨k, rfl, hkl, hb, rfl⟩)
            clear hb hkl
            go_quiet ((first | (go_at_call 25; exact quiet_drawn2 (rank_Ones_in (by first | exact HRR.out | exact HRR.out.drawn ⟨⟨_, rfl⟩⟩ | exact HRR.out.drawn (Drawn0.step ⟨⟨_, rfl⟩⟩ _)) HL.out HKL.out)) | (go_at_call 26; exact quiet_drawn2 (rank_Place _ _ (by first | exact HRR.out | exact HRR.out.drawn ⟨⟨_, rfl⟩⟩ | exact HRR.out.drawn (Drawn0.step ⟨⟨_, rfl⟩⟩ _)) HL1.out HPI.out))))
            go_wp2
            go_ret
            exact ⟨rfl, pw_below_drewN (pw_below_drewN HB.out _) _⟩
end Go.Proofs.Ytbaopegmdllbeaa.GL
