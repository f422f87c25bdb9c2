/- The law BitsOf, walked by hand. -/
import Derived.Test.YtbaopegmdllbeaaGBitsLaw
import Derived.Test.YtbaopegmdllbeaaQUnpack
import Derived.Deep.RegionWith
namespace Go.Proofs.Ytbaopegmdllbeaa.GL
open Go.RowKit Go.Proofs.YtbaopegmdllbeaaW.PrintWords Go.Proofs.YtbaopegmdllbeaaW.PrintLast Go.Proofs.YtbaopegmdllbeaaW.PrintMore Go.Proofs.Ytbaopegmdllbeaa.Q Go.Proofs.Ytbaopegmdllbeaa.XBit
set_option linter.unusedVariables false
set_option linter.unusedSimpArgs false
set_option maxRecDepth 1000000 in
set_option maxHeartbeats 4000000 in
theorem law_Short {w : World} {A : Option Addr} {c : Nat} {l : List Int} (hc : l.length ≤ c) :
    Calls Try.prog 14 #[.slice A l.length c, .int .i64 20] w fun e w' => e = .returned (.slice A (l.take 20).length c) ∧ w = w' := by
  by_cases hcut : 20 < l.length
  · obtain ⟨i0, hi, _, _, _⟩ := info_parts info5
    have hrun : ∀ W : World, (Instr.slice 22 (.slice A l.length c) none (some (.int .i64 20)) none).run Try.prog W = .ok (.slice A 20 c) W := fun W => cut_to (P := Try.prog) 22 5 .i64 Try.underlying22 hi A l.length c 20 (by decide) (by omega) hc W
    have hd : decide ((20 : Int) < (l.length : Int)) = true := decide_eq_true (by omega)
    have hd2 : decide (20 < l.length) = true := decide_eq_true hcut
    have HE := Aside0.mk (show (l.take 20).length = 20 by rw [List.length_take]; omega)
    clear hcut hc hi
    go_enter Try.func14, Try.ntmps14
    go_wp2
    go_ret
    rw [HE.out]
    exact ⟨rfl, rfl⟩
  · have hd : decide ((20 : Int) < (l.length : Int)) = false := decide_eq_false (by omega)
    have hd2 : decide (20 < l.length) = false := decide_eq_false hcut
    have HE := Aside0.mk (show (l.take 20).length = l.length by rw [List.length_take]; omega)
    clear hcut hc
    go_enter Try.func14, Try.ntmps14
    go_wp2
    go_ret
    rw [HE.out]
    exact ⟨rfl, rfl⟩
set_option maxRecDepth 1000000 in
set_option maxHeartbeats 8000000 in
theorem BitsOf.core (A0 : Option Addr) (c0 : Nat) (l : List Int) (n : Int) (w : World) (hC0 : Kd.C (Kd.int .u8) w A0 l.length l) (hc0 : l.length ≤ c0) (hby : Byt l) :
    Calls Try.prog 3 #[.slice A0 l.length c0, .int .i64 n] w fun e w' => e = .returned (.bool true) ∧ Below w.heap.size w w' := by
  have HB := Aside0.mk (Below.refl w.heap.size w)
  obtain ⟨L, hL⟩ : ∃ L, L = l.take 20 := ⟨_, rfl⟩
  have hlen : L.length ≤ 20 := by rw [hL, List.length_take]; omega
  have HC := Aside0.mk (show Kd.C (Kd.int .u8) w A0 L.length L by
    rw [hL]
    by_cases h : 20 ≤ l.length
    · exact Kd.C_take hC0 h
    · rw [List.take_of_length_le (by omega)]; exact hC0)
  have HBY := Aside0.mk (show Byt L by rw [hL]; exact hby.take 20)
  have HCC := Aside0.mk (show L.length ≤ c0 by rw [hL, List.length_take]; omega)
  have HTL := Aside0.mk (show (l.take 20).length = L.length by rw [hL])
  have HC0L := Aside0.mk hc0
  have HML := Aside0.mk (show L.length ≤ 1000000000 by omega)
  have hmz : (L.length : Int) ≤ 20 := by omega
  clear hC0 hc0 hby hL
  by_cases hn0 : n < 0
  · have HOF := Aside0.mk (of_none HBY.out (.inl hn0))
    have hd : decide ((0 : Int) ≤ n) = false := decide_eq_false (by omega)
    clear hn0 hlen
    go_enter Try.func3, Try.ntmps3
    go_wp2_with (first
      | (go_at_call 13; refine (law6_begun _).mono ?_; rintro e w11 ⟨rfl, hb⟩; have m2_ := Aside0.mk (below_step HB.out hb); clear HB; have HB := m2_; clear m2_ hb)
      | (go_at_call 14; (with_reducible refine (law_Short HC0L.out).mono ?_); rw [HTL.out]; rintro e w' ⟨rfl, rfl⟩)
      | (go_at_call 15; (with_reducible refine (bits_Of n (Kd.C_below HC.out HB.out) HCC.out HML.out HBY.out).mono ?_); rw [HOF.out]; rintro e w12 ⟨hb, rfl⟩; have m2_ := Aside0.mk (below_step HB.out hb); clear HB; have HB := m2_; clear m2_ hb)
      )
    go_loop [8, 9] (fun v8 v9 => v8 = .bool false ∧ v9 = .int .i64 n) (fun _ _ => 0)
    case atStart => exact ⟨rfl, rfl⟩
    case round =>
      obtain ⟨rfl, rfl⟩ := hrel
      go_wp2
      go_ret
      exact ⟨rfl, HB.out⟩
  · by_cases hn1 : 8 * (L.length : Int) < n
    · have HOF := Aside0.mk (of_none HBY.out (.inr (.inl hn1)))
      have hd : decide ((0 : Int) ≤ n) = true := decide_eq_true (by omega)
      have hd2 : decide (n ≤ 8 * (L.length : Int)) = false := decide_eq_false (by omega)
      clear hn0 hlen hn1
      go_enter Try.func3, Try.ntmps3
      go_wp2_with (first
        | (go_at_call 13; refine (law6_begun _).mono ?_; rintro e w11 ⟨rfl, hb⟩; have m2_ := Aside0.mk (below_step HB.out hb); clear HB; have HB := m2_; clear m2_ hb)
        | (go_at_call 14; (with_reducible refine (law_Short HC0L.out).mono ?_); rw [HTL.out]; rintro e w' ⟨rfl, rfl⟩)
        | (go_at_call 15; (with_reducible refine (bits_Of n (Kd.C_below HC.out HB.out) HCC.out HML.out HBY.out).mono ?_); rw [HOF.out]; rintro e w12 ⟨hb, rfl⟩; have m2_ := Aside0.mk (below_step HB.out hb); clear HB; have HB := m2_; clear m2_ hb)
        )
      go_loop [8, 9] (fun v8 v9 => v8 = .bool false ∧ v9 = .int .i64 n) (fun _ _ => 0)
      case atStart => exact ⟨rfl, rfl⟩
      case round =>
        obtain ⟨rfl, rfl⟩ := hrel
        go_wp2
        go_ret
        exact ⟨rfl, HB.out⟩
    · by_cases hn2 : n ≤ 8 * (L.length : Int) - 8
      · have HOF := Aside0.mk (of_none HBY.out (.inr (.inr hn2)))
        have hd : decide ((0 : Int) ≤ n) = true := decide_eq_true (by omega)
        have hd2 : decide (n ≤ 8 * (L.length : Int)) = true := decide_eq_true (by omega)
        have hd3 : decide (8 * (L.length : Int) - 8 < n) = false := decide_eq_false (by omega)
        clear hn0 hlen hn1 hn2
        go_enter Try.func3, Try.ntmps3
        go_wp2_with (first
          | (go_at_call 13; refine (law6_begun _).mono ?_; rintro e w11 ⟨rfl, hb⟩; have m2_ := Aside0.mk (below_step HB.out hb); clear HB; have HB := m2_; clear m2_ hb)
          | (go_at_call 14; (with_reducible refine (law_Short HC0L.out).mono ?_); rw [HTL.out]; rintro e w' ⟨rfl, rfl⟩)
          | (go_at_call 15; (with_reducible refine (bits_Of n (Kd.C_below HC.out HB.out) HCC.out HML.out HBY.out).mono ?_); rw [HOF.out]; rintro e w12 ⟨hb, rfl⟩; have m2_ := Aside0.mk (below_step HB.out hb); clear HB; have HB := m2_; clear m2_ hb)
          )
        go_loop [8, 9] (fun v8 v9 => v8 = .bool false ∧ v9 = .int .i64 n) (fun _ _ => 0)
        case atStart => exact ⟨rfl, rfl⟩
        case round =>
          obtain ⟨rfl, rfl⟩ := hrel
          go_wp2
          go_ret
          exact ⟨rfl, HB.out⟩
      · obtain ⟨N, rfl⟩ := Int.eq_ofNat_of_zero_le (show 0 ≤ n by omega)
        have HT := Aside0.mk (of_tail HBY.out (n := N) (by omega) (by omega))
        have HN1 := Aside0.mk (show N ≤ 8 * L.length by omega)
        have hd : decide ((0 : Int) ≤ (N : Int)) = true := decide_eq_true (by omega)
        have hd2 : decide ((N : Int) ≤ 8 * (L.length : Int)) = true := decide_eq_true (by omega)
        have hd3 : decide (8 * (L.length : Int) - 8 < (N : Int)) = true := decide_eq_true (by omega)
        have hnz : (N : Int) ≤ 160 := by omega
        clear hn0 hlen hn1 hn2
        cases ho : ofBits L (N : Int) with
        | none =>
          have HOF := Aside0.mk ho
          clear ho
          go_enter Try.func3, Try.ntmps3
          go_wp2_with (first
            | (go_at_call 13; refine (law6_begun _).mono ?_; rintro e w11 ⟨rfl, hb⟩; have m2_ := Aside0.mk (below_step HB.out hb); clear HB; have HB := m2_; clear m2_ hb)
            | (go_at_call 14; (with_reducible refine (law_Short HC0L.out).mono ?_); rw [HTL.out]; rintro e w' ⟨rfl, rfl⟩)
            | (go_at_call 15; (with_reducible refine (bits_Of (N : Int) (Kd.C_below HC.out HB.out) HCC.out HML.out HBY.out).mono ?_); rw [HOF.out]; rintro e w12 ⟨hb, rfl⟩; have m2_ := Aside0.mk (below_step HB.out hb); clear HB; have HB := m2_; clear m2_ hb)
            )
          go_loop [8, 9] (fun v8 v9 => ∃ (t : Nat), N + t ≤ 8 * L.length ∧ v9 = .int .i64 (N + t : Nat) ∧ v8 = .bool (clear_ L N t)) (fun _ v => 8 * L.length - (intOf v).toNat)
          case atStart => exact ⟨0, HN1.out, rfl, rfl⟩
          case round =>
            obtain ⟨t, ht, rfl, rfl⟩ := hrel
            cases hcl : clear_ L N t with
            | false =>
              clear hcl
              go_wp2
              go_ret
              exact ⟨rfl, HB.out⟩
            | true =>
              obtain ⟨i, hi⟩ : ∃ i, i = N + t := ⟨_, rfl⟩
              rw [← hi]
              by_cases hlt : i < 8 * L.length
              · obtain ⟨q, hq⟩ : ∃ q, q = i / 8 := ⟨_, rfl⟩
                obtain ⟨r, hr⟩ : ∃ r, r = i % 8 := ⟨_, rfl⟩
                have hql : q < L.length := by omega
                obtain ⟨ad, e, hx⟩ := Kd.at_int (Kd.C_below HC.out HB.out) (q : Int) (Int.natCast_nonneg _) (Int.ofNat_lt.2 hql)
                cases e
                obtain ⟨b, hb⟩ : ∃ b, b = L.getD q 0 := ⟨_, rfl⟩
                have he : rd L (q : Int) = b := by rw [hb]; rfl
                rw [he, Int.toNat_natCast] at hx
                have hby := byt_getD HBY.out q
                rw [← hb] at hby
                have HS := Aside0.mk (show clear_ L N (t + 1) = !(b / 2 ^ (7 - r) % 2 == 1) by rw [clear_succ, hcl, Bool.true_and, ← hi, bitAt, ← hq, ← hr, ← hb])
                have h1 : (i : Int) / 8 = (q : Int) := by omega
                have h2 : (i : Int) % 8 = (r : Int) := by omega
                have h5 : (q : Int) < (L.length : Int) := by omega
                have hi9 : (i : Int) < 160 := by omega
                have hiL : (i : Int) < 8 * (L.length : Int) := by omega
                have h8 : q < 1000000000000 := by omega
                have h9 : r < 8 := by omega
                have hr8 : (r : Int) < 8 := by omega
                have h3 := w64_seven h9
                have h4 := w64_nat h8
                have hand := and1_u8 (n := 7 - r) hby.1 hby.2
                have HLT := Aside0.mk hlt
                have HI := Aside0.mk hi
                clear he hby hb hq hr h8 h9 hcl ht hi hlt
                go_wp2
                refine ⟨⟨t + 1, by have := HLT.out; have := HI.out; omega, by rw [← Nat.add_assoc, ← HI.out]; first | rfl | go_num, ?_⟩, ?_⟩
                · rw [HS.out]
                  obtain ⟨z, hz⟩ : ∃ z, z = b / 2 ^ (7 - r) % 2 := ⟨_, rfl⟩
                  rw [← hz]
                  have : z = 0 ∨ z = 1 := by omega
                  rcases this with h | h <;> rw [h] <;> rfl
                · have := HLT.out
                  simp [intOf]
                  omega
              · skip
                have h1 := HT.out.2
                rw [show 8 * L.length - N = t by omega, hcl, HOF.out] at h1
                exact absurd (h1 rfl) (by simp)
        | some M =>
          have HOF := Aside0.mk ho
          clear ho
          have HPK := Aside0.mk (of_pack HOF.out)
          go_enter Try.func3, Try.ntmps3
          go_wp2_with (first
            | (go_at_call 13; refine (law6_begun _).mono ?_; rintro e w11 ⟨rfl, hb⟩; have m2_ := Aside0.mk (below_step HB.out hb); clear HB; have HB := m2_; clear m2_ hb)
            | (go_at_call 14; (with_reducible refine (law_Short HC0L.out).mono ?_); rw [HTL.out]; rintro e w' ⟨rfl, rfl⟩)
            | (go_at_call 15; (with_reducible refine (bits_Of (N : Int) (Kd.C_below HC.out HB.out) HCC.out HML.out HBY.out).mono ?_); rw [HOF.out]; rintro e w12 ⟨hb, q, rfl, hq⟩; have HBO := Aside0.mk hq; have m2_ := Aside0.mk (below_step HB.out hb); clear HB; have HB := m2_; clear m2_ hb hq)
            )
          go_loop [8, 9] (fun v8 v9 => ∃ (t : Nat), N + t ≤ 8 * L.length ∧ v9 = .int .i64 (N + t : Nat) ∧ v8 = .bool (clear_ L N t)) (fun _ v => 8 * L.length - (intOf v).toNat)
          case atStart => exact ⟨0, HN1.out, rfl, rfl⟩
          case round =>
            obtain ⟨t, ht, rfl, rfl⟩ := hrel
            cases hcl : clear_ L N t with
            | false =>
              have h1 := HT.out.1 t ht hcl
              rw [HOF.out] at h1
              cases h1
            | true =>
              obtain ⟨i, hi⟩ : ∃ i, i = N + t := ⟨_, rfl⟩
              rw [← hi]
              by_cases hlt : i < 8 * L.length
              · obtain ⟨q, hq⟩ : ∃ q, q = i / 8 := ⟨_, rfl⟩
                obtain ⟨r, hr⟩ : ∃ r, r = i % 8 := ⟨_, rfl⟩
                have hql : q < L.length := by omega
                obtain ⟨ad, e, hx⟩ := Kd.at_int (Kd.C_below HC.out HB.out) (q : Int) (Int.natCast_nonneg _) (Int.ofNat_lt.2 hql)
                cases e
                obtain ⟨b, hb⟩ : ∃ b, b = L.getD q 0 := ⟨_, rfl⟩
                have he : rd L (q : Int) = b := by rw [hb]; rfl
                rw [he, Int.toNat_natCast] at hx
                have hby := byt_getD HBY.out q
                rw [← hb] at hby
                have HS := Aside0.mk (show clear_ L N (t + 1) = !(b / 2 ^ (7 - r) % 2 == 1) by rw [clear_succ, hcl, Bool.true_and, ← hi, bitAt, ← hq, ← hr, ← hb])
                have h1 : (i : Int) / 8 = (q : Int) := by omega
                have h2 : (i : Int) % 8 = (r : Int) := by omega
                have h5 : (q : Int) < (L.length : Int) := by omega
                have hi9 : (i : Int) < 160 := by omega
                have hiL : (i : Int) < 8 * (L.length : Int) := by omega
                have h8 : q < 1000000000000 := by omega
                have h9 : r < 8 := by omega
                have hr8 : (r : Int) < 8 := by omega
                have h3 := w64_seven h9
                have h4 := w64_nat h8
                have hand := and1_u8 (n := 7 - r) hby.1 hby.2
                have HLT := Aside0.mk hlt
                have HI := Aside0.mk hi
                clear he hby hb hq hr h8 h9 hcl ht hi hlt
                go_wp2
                refine ⟨⟨t + 1, by have := HLT.out; have := HI.out; omega, by rw [← Nat.add_assoc, ← HI.out]; first | rfl | go_num, ?_⟩, ?_⟩
                · rw [HS.out]
                  obtain ⟨z, hz⟩ : ∃ z, z = b / 2 ^ (7 - r) % 2 := ⟨_, rfl⟩
                  rw [← hz]
                  have : z = 0 ∨ z = 1 := by omega
                  rcases this with h | h <;> rw [h] <;> rfl
                · have := HLT.out
                  simp [intOf]
                  omega
              · skip
                have hd4 : decide ((i : Int) < 8 * (L.length : Int)) = false := decide_eq_false (by omega)
                have HPL := Aside0.mk HPK.out.2
                have HPP := Aside0.mk HPK.out.1
                have HMM := Aside0.mk (show M.length < 100000000000 by have := HPK.out.2; omega)
                obtain ⟨s, hs⟩ : ∃ s, s = strOfNums L := ⟨_, rfl⟩
                have HSS := Aside0.mk hs
                have HCD := Aside0.mk (Kd.C_below HC.out HB.out)
                have hcp := Kd.C_string (P := Try.prog) (c := c0) Try.underlying22 Try.underlying5 Try.underlying9 (Kd.C_drew HCD.out)
                rw [← hs] at hcp
                clear hcl hlt hi ht hs
                go_wp2
                go_region_with (first
                  | (go_at_call 16; refine (bits_Len (HBO.out.toP.below (Below.drew (Below.refl _ _)))).mono ?_; rw [HPL.out]; rintro e w' ⟨rfl, rfl⟩)
                  | (go_at_call 17; refine (bits_Bytes (HBO.out.toP.below (Below.drew (Below.refl _ _))) HMM.out).mono ?_; rw [HPP.out]; rintro e w8 ⟨v8, rfl, hR, hb⟩; obtain ⟨A8, c8, rfl, _, hC8⟩ := Kd.R_reads hR; have hcv := Kd.C_string (P := Try.prog) (c := c8) Try.underlying22 Try.underlying5 Try.underlying9 hC8; rw [← HSS.out] at hcv; have hcq := Kd.C_string (P := Try.prog) (c := c0) Try.underlying22 Try.underlying5 Try.underlying9 (Kd.C_below (Kd.C_drew HCD.out) hb); rw [← HSS.out] at hcq; have m2_ := Aside0.mk (below_step HB.out.drew hb); clear HB; have HB := m2_; clear m2_ hb hR hC8))
                all_goals
                  clear hcp hcv hcq
                  simp only [Act.put, List.getElem_toArray, List.getElem_cons_succ, List.getElem_cons_zero, List.setIfInBounds_toArray, List.set_cons_zero, List.set_cons_succ]
                  go_wp2
                  go_ret
                  exact ⟨rfl, HB.out⟩
theorem BitsOf.walk (P : True) (a0 : Option Addr) (len0 cap0 : Nat) (z0 : List Int) (n : Int) (w : World) (w0 : (a0 = none ∧ len0 = 0 ∧ cap0 = 0 ∧ z0 = []) ∨ ∃ x, a0 = some x ∧ len0 ≤ cap0 ∧ cap0 ≤ maxLen ∧ z0.length = cap0 ∧ (∀ i, i < z0.length → w.cell? (x.add i) = some (.int .u8 (z0.getD i 0))) ∧ ∀ n ∈ z0, (Lit.int .u8 n).wf = true) (y0 : len0 * 1 ≤ 140737488351232) (w1 : (Lit.int .i64 n).wf = true) :
    Calls Try.prog 3 #[.slice a0 len0 cap0, .int .i64 n] w fun e w' => e = .returned (.bool true) ∧ Below w.heap.size w w' := by
  obtain ⟨l0, rfl, hr0, hm0, hw0, hc0⟩ := ReadsInt.ofRowC w0
  exact BitsOf.core _ _ l0 n w (Kd.C_of_reads (d := (0 : Int)) (h1 := fun _ => rfl) hr0) hc0 (Byt.of_wf hw0)
end Go.Proofs.Ytbaopegmdllbeaa.GL
