-- Written by wip/xprint.py, this session's wrapper round the kit's print program. Not trusted: Lean checks it.
import Derived.Test.YtobdfehpbgcloaaXTrix0
import Derived.Test.YtobdfehpbgcloaaXTrix18
import Derived.Test.YtobdfehpbgcloaaXTrix19
namespace Go.Proofs.Ytobdfehpbgcloaa.XTri
open Go.RowKit Go.Proofs.Ytobdfehpbgcloaa.G Go.Proofs.YtobdfehpbgcloaaW.PrintWords Go.Proofs.YtobdfehpbgcloaaW.PrintLast Go.Proofs.YtobdfehpbgcloaaW.PrintMore
attribute [local go_sem] max2_int min2_int max_two min_two max_three min_three max_four min_four   -- for this text's walks alone
set_option linter.unusedVariables false
set_option linter.unusedSimpArgs false

/-! ### loessref6_Rank: function 11 -/
mutual
def loessref6_Rank.l0 : Nat → List Bool → Int → Int → Int → Int → Int → Option (Int × Bool)
  | 0, _, _, _, _, _, _ => none
  | k + 1, x0, x1, x2, x8, x9, x10 => if x1 > 1 then (if x10 > 63 then (some (0, false)) else ((loessref6_GetGamma.f k x0 x8).bind fun bt119 => (if bt119.2.2 = true then (loessref6_Rank.j1 k x0 x1 x2 x9 x10 bt119.1 bt119.2.1 (decide (bt119.1 > (IntKind.u64.wrap ((IntKind.u64.wrap (x1)) + 1))))) else (loessref6_Rank.j1 k x0 x1 x2 x9 x10 bt119.1 bt119.2.1 true)))) else (if x1 < 1 then (some (0, false)) else (some (x9, true)))
def loessref6_Rank.j1 : Nat → List Bool → Int → Int → Int → Int → Int → Int → Bool → Option (Int × Bool)
  | 0, _, _, _, _, _, _, _, _ => none
  | k + 1, x0, x1, x2, x9, x10, x11, x12, x36 => if x36 = true then (some (0, false)) else (if 0 ≤ (IntKind.u64.wrap (wrap64 (63 - x10))) then (if (Go.bits .and .u64 (shr .u64 x2 (IntKind.u64.wrap (wrap64 (63 - x10)))) 1) = 0 then (loessref6_Rank.l0 k x0 (wrap64 (IntKind.u64.wrap (x11 - 1))) x2 x12 x9 (wrap64 (x10 + 1))) else ((loessref6_Skip.f k x0 x12 (wrap64 (IntKind.u64.wrap (x11 - 1))) (wrap64 (x10 + 1))).bind fun bt122 => (if bt122.2 = true then (loessref6_Rank.l0 k x0 (wrap64 (x1 - (wrap64 (IntKind.u64.wrap (x11 - 1))))) x2 bt122.1 (wrap64 (x9 + (wrap64 (IntKind.u64.wrap (x11 - 1))))) (wrap64 (x10 + 1))) else (some (0, false))))) else (none))
end
def loessref6_Rank.f (k : Nat) (l0 : List Bool) (a1 : Int) (a2 : Int) : Option (Int × Bool) := loessref6_Rank.l0 k l0 a1 a2 0 0 0
theorem loessref6_Rank.mono_l : ∀ k, (∀ y0 y1 y2 y3 y4 y5, LeO (loessref6_Rank.l0 k y0 y1 y2 y3 y4 y5) (loessref6_Rank.l0 (k + 1) y0 y1 y2 y3 y4 y5)) ∧ (∀ y0 y1 y2 y3 y4 y5 y6 y7, LeO (loessref6_Rank.j1 k y0 y1 y2 y3 y4 y5 y6 y7) (loessref6_Rank.j1 (k + 1) y0 y1 y2 y3 y4 y5 y6 y7))
  | 0 => ⟨fun _ _ _ _ _ _ r h => by simp [loessref6_Rank.l0] at h, fun _ _ _ _ _ _ _ _ r h => by simp [loessref6_Rank.j1] at h⟩
  | k + 1 => by
    obtain ⟨ih0, ih1⟩ := loessref6_Rank.mono_l k
    refine ⟨?_, ?_⟩
    · intro y0 y1 y2 y3 y4 y5
      unfold loessref6_Rank.l0
      repeat' first
      | (with_reducible exact ih0 _ _ _ _ _ _)
      | (with_reducible exact ih1 _ _ _ _ _ _ _ _)
      | (with_reducible exact loessref6_GetGamma.mono _ _ _)
      | (with_reducible exact loessref6_Skip.mono _ _ _ _ _)
      | (with_reducible exact LeO.refl _)
      | (with_reducible exact LeO.none _)
      | (with_reducible refine LeO.ite ?_ ?_)
      | (with_reducible refine LeO.bind ?_ (fun _ => ?_))
      | exact ih0 _ _ _ _ _ _
      | exact ih1 _ _ _ _ _ _ _ _
      | exact loessref6_GetGamma.mono _ _ _
      | exact loessref6_Skip.mono _ _ _ _ _
      | exact LeO.none _
      | refine LeO.ite ?_ ?_
      | refine LeO.bind ?_ (fun _ => ?_)
    · intro y0 y1 y2 y3 y4 y5 y6 y7
      unfold loessref6_Rank.j1
      repeat' first
      | (with_reducible exact ih0 _ _ _ _ _ _)
      | (with_reducible exact ih1 _ _ _ _ _ _ _ _)
      | (with_reducible exact loessref6_GetGamma.mono _ _ _)
      | (with_reducible exact loessref6_Skip.mono _ _ _ _ _)
      | (with_reducible exact LeO.refl _)
      | (with_reducible exact LeO.none _)
      | (with_reducible refine LeO.ite ?_ ?_)
      | (with_reducible refine LeO.bind ?_ (fun _ => ?_))
      | exact ih0 _ _ _ _ _ _
      | exact ih1 _ _ _ _ _ _ _ _
      | exact loessref6_GetGamma.mono _ _ _
      | exact loessref6_Skip.mono _ _ _ _ _
      | exact LeO.none _
      | refine LeO.ite ?_ ?_
      | refine LeO.bind ?_ (fun _ => ?_)
theorem loessref6_Rank.mono : ∀ a0 a1 a2 k, LeO (loessref6_Rank.f k a0 a1 a2) (loessref6_Rank.f (k + 1) a0 a1 a2) := by
  intro a0 a1 a2 k
  obtain ⟨ih0, ih1⟩ := loessref6_Rank.mono_l k
  unfold loessref6_Rank.f
  repeat' first
      | (with_reducible exact ih0 _ _ _ _ _ _)
      | (with_reducible exact ih1 _ _ _ _ _ _ _ _)
      | (with_reducible exact loessref6_GetGamma.mono _ _ _)
      | (with_reducible exact loessref6_Skip.mono _ _ _ _ _)
      | (with_reducible exact LeO.refl _)
      | (with_reducible exact LeO.none _)
      | (with_reducible refine LeO.ite ?_ ?_)
      | (with_reducible refine LeO.bind ?_ (fun _ => ?_))
      | exact ih0 _ _ _ _ _ _
      | exact ih1 _ _ _ _ _ _ _ _
      | exact loessref6_GetGamma.mono _ _ _
      | exact loessref6_Skip.mono _ _ _ _ _
      | exact LeO.none _
      | refine LeO.ite ?_ ?_
      | refine LeO.bind ?_ (fun _ => ?_)
set_option maxHeartbeats 8000000 in
set_option maxRecDepth 100000 in
theorem loessref6_Rank.calls (k : Nat) (A0 : Option Addr) (c0 : Nat) (l0 : List Bool) (a1 : Int) (a2 : Int) (r1 : Int) (r2 : Bool) (w : World) (hr0 : Kd.C Kd.bool w A0 l0.length l0) (hc0 : l0.length ≤ c0) (h : loessref6_Rank.f k l0 a1 a2 = some (r1, r2)) :
    Calls Try.prog 11 #[.slice A0 l0.length c0, .int .i64 a1, .int .u64 a2] w fun e w' => e = .returned (.tuple #[.int .i64 r1, .bool r2]) ∧ Drawn0 w w' := by
  have HR0 := Aside0.mk hr0
  have HC0 := Aside0.mk hc0
  clear hr0 hc0
  have H : (loessref6_Rank.l0 k l0 a1 a2 0 0 0) = some (r1, r2) := h
  clear h
  have H' := Aside0.mk H
  clear H
  go_enter Try.func11, Try.ntmps11
  go_wp2
  go_loopg [1, 8, 9, 10] k (fun kq v1 v8 v9 v10 w' => ∃ (x1_1 : Int) (x8_1 : Int) (x9_1 : Int) (x10_1 : Int), v1 = .int .i64 x1_1 ∧ v8 = .int .i64 x8_1 ∧ v9 = .int .i64 x9_1 ∧ v10 = .int .i64 x10_1 ∧ Aside0 (loessref6_Rank.l0 kq l0 x1_1 a2 x8_1 x9_1 x10_1 = some (r1, r2)) ∧ Aside0 (kq ≤ k) ∧ Drawn0 w w')
  case atStart => exact ⟨(a1), (0), (0), (0), (by first | rfl | (simp; done) | (simp [*]; done)), (by first | rfl | (simp; done) | (simp [*]; done)), (by first | rfl | (simp; done) | (simp [*]; done)), (by first | rfl | (simp; done) | (simp [*]; done)), H', ⟨Nat.le_refl _⟩, by repeat (first | exact Drawn0.refl _ | apply Drawn0.step)⟩
  case round =>
    clear H'
    try clear c1
    try clear p2
    obtain ⟨x1_1, x8_1, x9_1, x10_1, rfl, rfl, rfl, rfl, HA, HK1, ⟨m1, rfl⟩⟩ := hrel
    cases gk with
    | zero => exact absurd HA.out (by simp [loessref6_Rank.l0])
    | succ k1 =>
      have H := HA.out
      clear HA
      simp only [loessref6_Rank.l0] at H
      by_cases c4 : x1_1 > 1
      · rw [if_pos c4] at H
        have c4b0 : decide (1 < x1_1) = true := decide_eq_true c4
        clear c4
        by_cases c5 : x10_1 > 63
        · rw [if_pos c5] at H
          have c5b0 : decide (63 < x10_1) = true := decide_eq_true c5
          clear c5
          simp only [Option.some.injEq, Prod.mk.injEq] at H
          obtain ⟨rfl, rfl⟩ := H
          go_wp2
          go_ret2
          exact ⟨by first | rfl | (simp; done) | (simp [*]; done), by repeat (first | exact Drawn0.refl _ | apply Drawn0.step)⟩
        · rw [if_neg c5] at H
          have c5b0 : decide (63 < x10_1) = false := decide_eq_false c5
          clear c5
          replace H := Option.bind_eq_some_iff.mp H
          obtain ⟨⟨t119, t120, t121⟩, A60, H⟩ := H
          replace H : (if t121 = true then (loessref6_Rank.j1 k1 l0 x1_1 a2 x9_1 x10_1 t119 t120 (decide (t119 > (IntKind.u64.wrap ((IntKind.u64.wrap (x1_1)) + 1))))) else (loessref6_Rank.j1 k1 l0 x1_1 a2 x9_1 x10_1 t119 t120 true)) = some (r1, r2) := H
          have A6 := Aside0.mk A60
          clear A60
          have HC7 := Aside0.mk H
          clear H
          go_upto_region 8 with (first | ((with_reducible refine gate_callee (f := 23) rfl ?_); refine goesL_ (some 24) rfl rfl Try.func23 (by kernel_rfl) rfl #[.slice A0 l0.length c0, .int .i64 x8_1] rfl (by (try simp only [List.map_toArray, List.map_cons, List.map_nil]); first | done | rfl | (simp only [List.length_drop, List.length_take]; rfl)) ?_; (with_reducible refine (loessref6_GetGamma.calls k1 _ _ l0 x8_1 t119 t120 t121 _ ?side1 ?side2 A6.out).mono ?_); (case side1 => repeat (first | exact HR0.out | (with_reducible refine Kd.C_alloc ?_ _) | (with_reducible refine Kd.C_drewN ?_ _) | (with_reducible refine Kd.C_drew ?_))); (case side2 => exact HC0.out); rintro e w' ⟨rfl, ⟨nd, rfl⟩⟩; refine ⟨_, rfl, ?_⟩))
          (try simp only [Act.put, List.setIfInBounds_toArray, List.set_cons_zero, List.set_cons_succ])
          go_cut [36] (fun v36 wc => ∃ (kq : Nat) (x36_6 : Bool), v36 = .bool x36_6 ∧ Aside0 (loessref6_Rank.j1 kq l0 x1_1 a2 x9_1 x10_1 t119 t120 x36_6 = some (r1, r2)) ∧ Aside0 (kq ≤ k1) ∧ Drawn0 w wc)
          case first =>
            have H := HC7.out
            clear HC7
            by_cases c8 : t121 = true
            · subst c8
              have H1 : (loessref6_Rank.j1 k1 l0 x1_1 a2 x9_1 x10_1 t119 t120 (decide (t119 > (IntKind.u64.wrap ((IntKind.u64.wrap (x1_1)) + 1))))) = some (r1, r2) := by rw [if_pos rfl] at H; exact H
              clear H
              have H := H1
              clear H1
              have H' := Aside0.mk H
              clear H
              go_wp2
              go_meet
              case rel => exact ⟨_, (decide (t119 > (IntKind.u64.wrap ((IntKind.u64.wrap (x1_1)) + 1)))), (by first | rfl | (simp; done) | (simp [*]; done)), H', ⟨by have := HK1.out; first | omega | exact Nat.le_refl _⟩, by repeat (first | exact Drawn0.refl _ | apply Drawn0.step)⟩
            · replace c8 := Bool.eq_false_iff.mpr c8
              subst c8
              have H1 : (loessref6_Rank.j1 k1 l0 x1_1 a2 x9_1 x10_1 t119 t120 true) = some (r1, r2) := by rw [if_neg (show ¬ (false = true) by decide)] at H; exact H
              clear H
              have H := H1
              clear H1
              have H' := Aside0.mk H
              clear H
              go_wp2
              go_meet
              case rel => exact ⟨_, (true), (by first | rfl | (simp; done) | (simp [*]; done)), H', ⟨by have := HK1.out; first | omega | exact Nat.le_refl _⟩, by repeat (first | exact Drawn0.refl _ | apply Drawn0.step)⟩
          case rest =>
            clear HC7
            try clear c1
            try clear c2
            try clear p2
            try clear c4
            try clear c4b0
            try clear c5
            try clear c5b0
            try clear c8
            try clear p2
            obtain ⟨kq, x36_6, rfl, HA, HJ6, ⟨mc6, rfl⟩⟩ := hcut
            cases kq with
            | zero => exact absurd HA.out (by simp [loessref6_Rank.j1])
            | succ kj6 =>
              have H := HA.out
              clear HA
              simp only [loessref6_Rank.j1] at H
              by_cases c9 : x36_6 = true
              · subst c9
                have H1 : (some (0, false)) = some (r1, r2) := by rw [if_pos rfl] at H; exact H
                clear H
                have H := H1
                clear H1
                simp only [Option.some.injEq, Prod.mk.injEq] at H
                obtain ⟨rfl, rfl⟩ := H
                go_wp2
                go_ret2
                exact ⟨by first | rfl | (simp; done) | (simp [*]; done), by repeat (first | exact Drawn0.refl _ | apply Drawn0.step)⟩
              · replace c9 := Bool.eq_false_iff.mpr c9
                subst c9
                have H1 : (if 0 ≤ (IntKind.u64.wrap (wrap64 (63 - x10_1))) then (if (Go.bits .and .u64 (shr .u64 a2 (IntKind.u64.wrap (wrap64 (63 - x10_1)))) 1) = 0 then (loessref6_Rank.l0 kj6 l0 (wrap64 (IntKind.u64.wrap (t119 - 1))) a2 t120 x9_1 (wrap64 (x10_1 + 1))) else ((loessref6_Skip.f kj6 l0 t120 (wrap64 (IntKind.u64.wrap (t119 - 1))) (wrap64 (x10_1 + 1))).bind fun bt122 => (if bt122.2 = true then (loessref6_Rank.l0 kj6 l0 (wrap64 (x1_1 - (wrap64 (IntKind.u64.wrap (t119 - 1))))) a2 bt122.1 (wrap64 (x9_1 + (wrap64 (IntKind.u64.wrap (t119 - 1))))) (wrap64 (x10_1 + 1))) else (some (0, false))))) else (none)) = some (r1, r2) := by rw [if_neg (show ¬ (false = true) by decide)] at H; exact H
                clear H
                have H := H1
                clear H1
                obtain ⟨ji10, hji10⟩ : ∃ j_ : Int, (IntKind.u64.wrap (wrap64 (63 - x10_1))) = j_ := ⟨_, rfl⟩
                replace H : (if 0 ≤ (ji10) then (if (Go.bits .and .u64 (shr .u64 a2 (ji10)) 1) = 0 then (loessref6_Rank.l0 kj6 l0 (wrap64 (IntKind.u64.wrap (t119 - 1))) a2 t120 x9_1 (wrap64 (x10_1 + 1))) else ((loessref6_Skip.f kj6 l0 t120 (wrap64 (IntKind.u64.wrap (t119 - 1))) (wrap64 (x10_1 + 1))).bind fun bt122 => (if bt122.2 = true then (loessref6_Rank.l0 kj6 l0 (wrap64 (x1_1 - (wrap64 (IntKind.u64.wrap (t119 - 1))))) a2 bt122.1 (wrap64 (x9_1 + (wrap64 (IntKind.u64.wrap (t119 - 1))))) (wrap64 (x10_1 + 1))) else (some (0, false))))) else (none)) = some (r1, r2) := by first | (rw [hji10] at H; exact H) | (simp only [hji10] at H ⊢; exact H)
                by_cases c11 : 0 ≤ (ji10)
                · rw [if_pos c11] at H
                  have c11b0 := eq_true c11
                  have c11b1 : decide (0 ≤ (ji10)) = true := decide_eq_true c11
                  clear c11
                  obtain ⟨ji12, hji12⟩ : ∃ j_ : Int, (shr .u64 a2 (ji10)) = j_ := ⟨_, rfl⟩
                  replace H : (if (Go.bits .and .u64 (ji12) 1) = 0 then (loessref6_Rank.l0 kj6 l0 (wrap64 (IntKind.u64.wrap (t119 - 1))) a2 t120 x9_1 (wrap64 (x10_1 + 1))) else ((loessref6_Skip.f kj6 l0 t120 (wrap64 (IntKind.u64.wrap (t119 - 1))) (wrap64 (x10_1 + 1))).bind fun bt122 => (if bt122.2 = true then (loessref6_Rank.l0 kj6 l0 (wrap64 (x1_1 - (wrap64 (IntKind.u64.wrap (t119 - 1))))) a2 bt122.1 (wrap64 (x9_1 + (wrap64 (IntKind.u64.wrap (t119 - 1))))) (wrap64 (x10_1 + 1))) else (some (0, false))))) = some (r1, r2) := by first | (rw [hji12] at H; exact H) | (simp only [hji12] at H ⊢; exact H)
                  have hji12_ : (a2 / 2 ^ min (ji10).toNat 64) = ji12 := hji12
                  have hji12z : (ji10) ≤ 64 → (a2 / 2 ^ (ji10).toNat) = ji12 := shr_small hji12
                  by_cases c13 : (Go.bits .and .u64 (ji12) 1) = 0
                  · rw [if_pos c13] at H
                    have c13b0 : ((Go.bits .and .u64 (ji12) 1) == 0) = true := beq_iff_eq.mpr c13
                    have c13b1 : ((Go.bits .and .u64 (ji12) 1) != 0) = false := bne_eq_false_iff_eq.mpr c13
                    clear c13
                    have H' := Aside0.mk H
                    clear H
                    go_wp2
                    go_roundg kj6
                    case measure => have := HK1.out; have := HJ6.out; omega
                    case rel => exact ⟨(wrap64 (IntKind.u64.wrap (t119 - 1))), (t120), (x9_1), (wrap64 (x10_1 + 1)), (by first | rfl | (simp; done) | (simp [*]; done)), (by first | rfl | (simp; done) | (simp [*]; done)), (by first | rfl | (simp; done) | (simp [*]; done)), (by first | rfl | (simp; done) | (simp [*]; done)), H', ⟨by have := HK1.out; have := HJ6.out; omega⟩, by repeat (first | exact Drawn0.refl _ | apply Drawn0.step)⟩
                  · rw [if_neg c13] at H
                    have c13b0 : ((Go.bits .and .u64 (ji12) 1) == 0) = false := beq_eq_false_iff_ne.mpr c13
                    have c13b1 : ((Go.bits .and .u64 (ji12) 1) != 0) = true := bne_iff_ne.mpr c13
                    replace H := Option.bind_eq_some_iff.mp H
                    obtain ⟨⟨t122, t123⟩, A140, H⟩ := H
                    replace H : (if t123 = true then (loessref6_Rank.l0 kj6 l0 (wrap64 (x1_1 - (wrap64 (IntKind.u64.wrap (t119 - 1))))) a2 t122 (wrap64 (x9_1 + (wrap64 (IntKind.u64.wrap (t119 - 1))))) (wrap64 (x10_1 + 1))) else (some (0, false))) = some (r1, r2) := H
                    have A14 := Aside0.mk A140
                    clear A140
                    by_cases c15 : t123 = true
                    · subst c15
                      have H1 : (loessref6_Rank.l0 kj6 l0 (wrap64 (x1_1 - (wrap64 (IntKind.u64.wrap (t119 - 1))))) a2 t122 (wrap64 (x9_1 + (wrap64 (IntKind.u64.wrap (t119 - 1))))) (wrap64 (x10_1 + 1))) = some (r1, r2) := by rw [if_pos rfl] at H; exact H
                      clear H
                      have H := H1
                      clear H1
                      have H' := Aside0.mk H
                      clear H
                      go_wp2_with (first | ((with_reducible refine gate_callee (f := 12) rfl ?_); refine goesL_ (some 55) rfl rfl Try.func12 (by kernel_rfl) rfl #[.slice A0 l0.length c0, .int .i64 t120, .int .i64 (wrap64 (IntKind.u64.wrap (t119 - 1))), .int .i64 (wrap64 (x10_1 + 1))] rfl (by (try simp only [List.map_toArray, List.map_cons, List.map_nil]); first | done | rfl | (simp only [List.length_drop, List.length_take]; rfl)) ?_; (with_reducible refine (loessref6_Skip.calls kj6 _ _ l0 t120 (wrap64 (IntKind.u64.wrap (t119 - 1))) (wrap64 (x10_1 + 1)) t122 true _ ?side1 ?side2 A14.out).mono ?_); (case side1 => repeat (first | exact HR0.out | (with_reducible refine Kd.C_alloc ?_ _) | (with_reducible refine Kd.C_drewN ?_ _) | (with_reducible refine Kd.C_drew ?_))); (case side2 => exact HC0.out); rintro e w' ⟨rfl, ⟨nd, rfl⟩⟩; refine ⟨_, rfl, ?_⟩))
                      go_roundg kj6
                      case measure => have := HK1.out; have := HJ6.out; omega
                      case rel => exact ⟨(wrap64 (x1_1 - (wrap64 (IntKind.u64.wrap (t119 - 1))))), (t122), (wrap64 (x9_1 + (wrap64 (IntKind.u64.wrap (t119 - 1))))), (wrap64 (x10_1 + 1)), (by first | rfl | (simp; done) | (simp [*]; done)), (by first | rfl | (simp; done) | (simp [*]; done)), (by first | rfl | (simp; done) | (simp [*]; done)), (by first | rfl | (simp; done) | (simp [*]; done)), H', ⟨by have := HK1.out; have := HJ6.out; omega⟩, by repeat (first | exact Drawn0.refl _ | apply Drawn0.step)⟩
                    · replace c15 := Bool.eq_false_iff.mpr c15
                      subst c15
                      have H1 : (some (0, false)) = some (r1, r2) := by rw [if_neg (show ¬ (false = true) by decide)] at H; exact H
                      clear H
                      have H := H1
                      clear H1
                      simp only [Option.some.injEq, Prod.mk.injEq] at H
                      obtain ⟨rfl, rfl⟩ := H
                      go_wp2_with (first | ((with_reducible refine gate_callee (f := 12) rfl ?_); refine goesL_ (some 55) rfl rfl Try.func12 (by kernel_rfl) rfl #[.slice A0 l0.length c0, .int .i64 t120, .int .i64 (wrap64 (IntKind.u64.wrap (t119 - 1))), .int .i64 (wrap64 (x10_1 + 1))] rfl (by (try simp only [List.map_toArray, List.map_cons, List.map_nil]); first | done | rfl | (simp only [List.length_drop, List.length_take]; rfl)) ?_; (with_reducible refine (loessref6_Skip.calls kj6 _ _ l0 t120 (wrap64 (IntKind.u64.wrap (t119 - 1))) (wrap64 (x10_1 + 1)) t122 false _ ?side1 ?side2 A14.out).mono ?_); (case side1 => repeat (first | exact HR0.out | (with_reducible refine Kd.C_alloc ?_ _) | (with_reducible refine Kd.C_drewN ?_ _) | (with_reducible refine Kd.C_drew ?_))); (case side2 => exact HC0.out); rintro e w' ⟨rfl, ⟨nd, rfl⟩⟩; refine ⟨_, rfl, ?_⟩))
                      go_ret2
                      exact ⟨by first | rfl | (simp; done) | (simp only [← hji10, ← hji12] <;> (first | rfl | simp)) | (simp [*]; done), by repeat (first | exact Drawn0.refl _ | apply Drawn0.step)⟩
                · rw [if_neg c11] at H
                  exact absurd H (by simp)
      · rw [if_neg c4] at H
        have c4b0 : decide (1 < x1_1) = false := decide_eq_false c4
        clear c4
        by_cases c16 : x1_1 < 1
        · rw [if_pos c16] at H
          have c16b0 : decide (x1_1 < 1) = true := decide_eq_true c16
          clear c16
          simp only [Option.some.injEq, Prod.mk.injEq] at H
          obtain ⟨rfl, rfl⟩ := H
          go_wp2
          go_ret2
          exact ⟨by first | rfl | (simp; done) | (simp [*]; done), by repeat (first | exact Drawn0.refl _ | apply Drawn0.step)⟩
        · rw [if_neg c16] at H
          have c16b0 : decide (x1_1 < 1) = false := decide_eq_false c16
          clear c16
          simp only [Option.some.injEq, Prod.mk.injEq] at H
          obtain ⟨rfl, rfl⟩ := H
          go_wp2
          go_ret2
          exact ⟨by first | rfl | (simp; done) | (simp [*]; done), by repeat (first | exact Drawn0.refl _ | apply Drawn0.step)⟩

end Go.Proofs.Ytobdfehpbgcloaa.XTri
