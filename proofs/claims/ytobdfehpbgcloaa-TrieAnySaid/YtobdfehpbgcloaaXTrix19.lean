-- Written by wip/xprint.py, this session's wrapper round the kit's print program. Not trusted: Lean checks it.
import Derived.Test.YtobdfehpbgcloaaXTrix0
import Derived.Test.YtobdfehpbgcloaaXTrix18
namespace Go.Proofs.Ytobdfehpbgcloaa.XTri
open Go.RowKit Go.Proofs.Ytobdfehpbgcloaa.G Go.Proofs.YtobdfehpbgcloaaW.PrintWords Go.Proofs.YtobdfehpbgcloaaW.PrintLast Go.Proofs.YtobdfehpbgcloaaW.PrintMore
attribute [local go_sem] max2_int min2_int max_two min_two max_three min_three max_four min_four   -- for this text's walks alone
set_option linter.unusedVariables false
set_option linter.unusedSimpArgs false

/-! ### loessref6_Skip: function 12 -/
mutual
def loessref6_Skip.j0 : Nat → List Bool → Int → Int → Int → Int → Int → Bool → Option (Int × Bool)
  | 0, _, _, _, _, _, _, _ => none
  | k + 1, x0, x1, x2, x3, x10, x11, x35 => if x35 = true then (some (x1, false)) else ((loessref6_Skip.f k x0 x11 (wrap64 (IntKind.u64.wrap (x10 - 1))) (wrap64 (x3 + 1))).bind fun bt115 => (if bt115.2 = true then ((loessref6_Skip.f k x0 bt115.1 (wrap64 (x2 - (wrap64 (IntKind.u64.wrap (x10 - 1))))) (wrap64 (x3 + 1))).bind fun bt117 => (some (bt117.1, bt117.2))) else (some (x1, false))))
def loessref6_Skip.f : Nat → List Bool → Int → Int → Int → Option (Int × Bool)
  | 0, _, _, _, _ => none
  | k + 1, l0, a1, a2, a3 => if a2 ≤ 1 then (some (a1, true)) else (if a3 > 63 then (some (a1, false)) else ((loessref6_GetGamma.f k l0 a1).bind fun bt112 => (if bt112.2.2 = true then (loessref6_Skip.j0 k l0 a1 a2 a3 bt112.1 bt112.2.1 (decide (bt112.1 > (IntKind.u64.wrap ((IntKind.u64.wrap (a2)) + 1))))) else (loessref6_Skip.j0 k l0 a1 a2 a3 bt112.1 bt112.2.1 true))))
end
theorem loessref6_Skip.mono_l : ∀ k, (∀ y0 y1 y2 y3, LeO (loessref6_Skip.f k y0 y1 y2 y3) (loessref6_Skip.f (k + 1) y0 y1 y2 y3)) ∧ (∀ y0 y1 y2 y3 y4 y5 y6, LeO (loessref6_Skip.j0 k y0 y1 y2 y3 y4 y5 y6) (loessref6_Skip.j0 (k + 1) y0 y1 y2 y3 y4 y5 y6))
  | 0 => ⟨fun _ _ _ _ r h => by simp [loessref6_Skip.f] at h, fun _ _ _ _ _ _ _ r h => by simp [loessref6_Skip.j0] at h⟩
  | k + 1 => by
    obtain ⟨ih0, ih1⟩ := loessref6_Skip.mono_l k
    refine ⟨?_, ?_⟩
    · intro y0 y1 y2 y3
      unfold loessref6_Skip.f
      repeat' first
      | (with_reducible exact ih0 _ _ _ _)
      | (with_reducible exact ih1 _ _ _ _ _ _ _)
      | (with_reducible exact loessref6_GetGamma.mono _ _ _)
      | (with_reducible exact LeO.refl _)
      | (with_reducible exact LeO.none _)
      | (with_reducible refine LeO.ite ?_ ?_)
      | (with_reducible refine LeO.bind ?_ (fun _ => ?_))
      | exact ih0 _ _ _ _
      | exact ih1 _ _ _ _ _ _ _
      | exact loessref6_GetGamma.mono _ _ _
      | exact LeO.none _
      | refine LeO.ite ?_ ?_
      | refine LeO.bind ?_ (fun _ => ?_)
    · intro y0 y1 y2 y3 y4 y5 y6
      unfold loessref6_Skip.j0
      repeat' first
      | (with_reducible exact ih0 _ _ _ _)
      | (with_reducible exact ih1 _ _ _ _ _ _ _)
      | (with_reducible exact loessref6_GetGamma.mono _ _ _)
      | (with_reducible exact LeO.refl _)
      | (with_reducible exact LeO.none _)
      | (with_reducible refine LeO.ite ?_ ?_)
      | (with_reducible refine LeO.bind ?_ (fun _ => ?_))
      | exact ih0 _ _ _ _
      | exact ih1 _ _ _ _ _ _ _
      | exact loessref6_GetGamma.mono _ _ _
      | exact LeO.none _
      | refine LeO.ite ?_ ?_
      | refine LeO.bind ?_ (fun _ => ?_)
theorem loessref6_Skip.mono : ∀ a0 a1 a2 a3 k, LeO (loessref6_Skip.f k a0 a1 a2 a3) (loessref6_Skip.f (k + 1) a0 a1 a2 a3) := by
  intro a0 a1 a2 a3 k
  obtain ⟨ih0, ih1⟩ := loessref6_Skip.mono_l k
  exact ih0 a0 a1 a2 a3
set_option maxHeartbeats 8000000 in
set_option maxRecDepth 100000 in
theorem loessref6_Skip.calls (k : Nat) : ∀ (A0 : Option Addr) (c0 : Nat) (l0 : List Bool) (a1 : Int) (a2 : Int) (a3 : Int) (r1 : Int) (r2 : Bool) (w : World) (hr0 : Kd.C Kd.bool w A0 l0.length l0) (hc0 : l0.length ≤ c0) (h : loessref6_Skip.f k l0 a1 a2 a3 = some (r1, r2)),
    Calls Try.prog 12 #[.slice A0 l0.length c0, .int .i64 a1, .int .i64 a2, .int .i64 a3] w fun e w' => e = .returned (.tuple #[.int .i64 r1, .bool r2]) ∧ Drawn0 w w' := by
  induction k using Nat.strongRecOn with
  | _ k ih =>
  intro A0 c0 l0 a1 a2 a3 r1 r2 w hr0 hc0 h
  cases k with
  | zero => exact absurd h (by simp [loessref6_Skip.f])
  | succ k =>
  simp only [loessref6_Skip.f] at h
  have HR0 := Aside0.mk hr0
  have HC0 := Aside0.mk hc0
  clear hr0 hc0
  have H : (if a2 ≤ 1 then (some (a1, true)) else (if a3 > 63 then (some (a1, false)) else ((loessref6_GetGamma.f k l0 a1).bind fun bt112 => (if bt112.2.2 = true then (loessref6_Skip.j0 k l0 a1 a2 a3 bt112.1 bt112.2.1 (decide (bt112.1 > (IntKind.u64.wrap ((IntKind.u64.wrap (a2)) + 1))))) else (loessref6_Skip.j0 k l0 a1 a2 a3 bt112.1 bt112.2.1 true))))) = some (r1, r2) := h
  clear h
  by_cases c5 : a2 ≤ 1
  · rw [if_pos c5] at H
    have c5b0 : decide (a2 ≤ 1) = true := decide_eq_true c5
    clear c5
    simp only [Option.some.injEq, Prod.mk.injEq] at H
    obtain ⟨rfl, rfl⟩ := H
    go_enter Try.func12, Try.ntmps12
    go_wp2
    go_ret2
    exact ⟨by first | rfl | (simp; done) | (simp [*]; done), by repeat (first | exact Drawn0.refl _ | apply Drawn0.step)⟩
  · rw [if_neg c5] at H
    have c5b0 : decide (a2 ≤ 1) = false := decide_eq_false c5
    clear c5
    by_cases c6 : a3 > 63
    · rw [if_pos c6] at H
      have c6b0 : decide (63 < a3) = true := decide_eq_true c6
      clear c6
      simp only [Option.some.injEq, Prod.mk.injEq] at H
      obtain ⟨rfl, rfl⟩ := H
      go_enter Try.func12, Try.ntmps12
      go_wp2
      go_ret2
      exact ⟨by first | rfl | (simp; done) | (simp [*]; done), by repeat (first | exact Drawn0.refl _ | apply Drawn0.step)⟩
    · rw [if_neg c6] at H
      have c6b0 : decide (63 < a3) = false := decide_eq_false c6
      clear c6
      replace H := Option.bind_eq_some_iff.mp H
      obtain ⟨⟨t112, t113, t114⟩, A70, H⟩ := H
      replace H : (if t114 = true then (loessref6_Skip.j0 k l0 a1 a2 a3 t112 t113 (decide (t112 > (IntKind.u64.wrap ((IntKind.u64.wrap (a2)) + 1))))) else (loessref6_Skip.j0 k l0 a1 a2 a3 t112 t113 true)) = some (r1, r2) := H
      have A7 := Aside0.mk A70
      clear A70
      have HC8 := Aside0.mk H
      clear H
      go_enter Try.func12, Try.ntmps12
      go_upto_region 6 with (first | ((with_reducible refine gate_callee (f := 23) rfl ?_); refine goesL_ (some 23) rfl rfl Try.func23 (by kernel_rfl) rfl #[.slice A0 l0.length c0, .int .i64 a1] rfl (by (try simp only [List.map_toArray, List.map_cons, List.map_nil]); first | done | rfl | (simp only [List.length_drop, List.length_take]; rfl)) ?_; (with_reducible refine (loessref6_GetGamma.calls k _ _ l0 a1 t112 t113 t114 _ ?side1 ?side2 A7.out).mono ?_); (case side1 => repeat (first | exact HR0.out | (with_reducible refine Kd.C_alloc ?_ _) | (with_reducible refine Kd.C_drewN ?_ _) | (with_reducible refine Kd.C_drew ?_))); (case side2 => exact HC0.out); rintro e w' ⟨rfl, ⟨nd, rfl⟩⟩; refine ⟨_, rfl, ?_⟩))
      (try simp only [Act.put, List.setIfInBounds_toArray, List.set_cons_zero, List.set_cons_succ])
      go_cut [35] (fun v35 wc => ∃ (kq : Nat) (x35_7 : Bool), v35 = .bool x35_7 ∧ Aside0 (loessref6_Skip.j0 kq l0 a1 a2 a3 t112 t113 x35_7 = some (r1, r2)) ∧ Aside0 (kq ≤ k) ∧ Drawn0 w wc)
      case first =>
        have H := HC8.out
        clear HC8
        by_cases c9 : t114 = true
        · subst c9
          have H1 : (loessref6_Skip.j0 k l0 a1 a2 a3 t112 t113 (decide (t112 > (IntKind.u64.wrap ((IntKind.u64.wrap (a2)) + 1))))) = some (r1, r2) := by rw [if_pos rfl] at H; exact H
          clear H
          have H := H1
          clear H1
          have H' := Aside0.mk H
          clear H
          go_wp2
          go_meet
          case rel => exact ⟨_, (decide (t112 > (IntKind.u64.wrap ((IntKind.u64.wrap (a2)) + 1)))), (by first | rfl | (simp; done) | (simp [*]; done)), H', ⟨by first | omega | exact Nat.le_refl _⟩, by repeat (first | exact Drawn0.refl _ | apply Drawn0.step)⟩
        · replace c9 := Bool.eq_false_iff.mpr c9
          subst c9
          have H1 : (loessref6_Skip.j0 k l0 a1 a2 a3 t112 t113 true) = some (r1, r2) := by rw [if_neg (show ¬ (false = true) by decide)] at H; exact H
          clear H
          have H := H1
          clear H1
          have H' := Aside0.mk H
          clear H
          go_wp2
          go_meet
          case rel => exact ⟨_, (true), (by first | rfl | (simp; done) | (simp [*]; done)), H', ⟨by first | omega | exact Nat.le_refl _⟩, by repeat (first | exact Drawn0.refl _ | apply Drawn0.step)⟩
      case rest =>
        clear HC8
        try clear c1
        try clear c2
        try clear p2
        try clear c5
        try clear c5b0
        try clear c6
        try clear c6b0
        try clear c9
        obtain ⟨kq, x35_7, rfl, HA, HJ7, ⟨mc7, rfl⟩⟩ := hcut
        cases kq with
        | zero => exact absurd HA.out (by simp [loessref6_Skip.j0])
        | succ kj7 =>
          have H := HA.out
          clear HA
          simp only [loessref6_Skip.j0] at H
          by_cases c10 : x35_7 = true
          · subst c10
            have H1 : (some (a1, false)) = some (r1, r2) := by rw [if_pos rfl] at H; exact H
            clear H
            have H := H1
            clear H1
            simp only [Option.some.injEq, Prod.mk.injEq] at H
            obtain ⟨rfl, rfl⟩ := H
            go_wp2
            go_ret2
            exact ⟨by first | rfl | (simp; done) | (simp [*]; done), by repeat (first | exact Drawn0.refl _ | apply Drawn0.step)⟩
          · replace c10 := Bool.eq_false_iff.mpr c10
            subst c10
            have H1 : ((loessref6_Skip.f kj7 l0 t113 (wrap64 (IntKind.u64.wrap (t112 - 1))) (wrap64 (a3 + 1))).bind fun bt115 => (if bt115.2 = true then ((loessref6_Skip.f kj7 l0 bt115.1 (wrap64 (a2 - (wrap64 (IntKind.u64.wrap (t112 - 1))))) (wrap64 (a3 + 1))).bind fun bt117 => (some (bt117.1, bt117.2))) else (some (a1, false)))) = some (r1, r2) := by rw [if_neg (show ¬ (false = true) by decide)] at H; exact H
            clear H
            have H := H1
            clear H1
            replace H := Option.bind_eq_some_iff.mp H
            obtain ⟨⟨t115, t116⟩, A110, H⟩ := H
            replace H : (if t116 = true then ((loessref6_Skip.f kj7 l0 t115 (wrap64 (a2 - (wrap64 (IntKind.u64.wrap (t112 - 1))))) (wrap64 (a3 + 1))).bind fun bt117 => (some (bt117.1, bt117.2))) else (some (a1, false))) = some (r1, r2) := H
            have A11 := Aside0.mk A110
            clear A110
            by_cases c12 : t116 = true
            · subst c12
              have H1 : ((loessref6_Skip.f kj7 l0 t115 (wrap64 (a2 - (wrap64 (IntKind.u64.wrap (t112 - 1))))) (wrap64 (a3 + 1))).bind fun bt117 => (some (bt117.1, bt117.2))) = some (r1, r2) := by rw [if_pos rfl] at H; exact H
              clear H
              have H := H1
              clear H1
              replace H := Option.bind_eq_some_iff.mp H
              obtain ⟨⟨t117, t118⟩, A130, H⟩ := H
              replace H : (some (t117, t118)) = some (r1, r2) := H
              have A13 := Aside0.mk A130
              clear A130
              simp only [Option.some.injEq, Prod.mk.injEq] at H
              obtain ⟨rfl, rfl⟩ := H
              go_wp2_with (first | ((with_reducible refine gate_callee (f := 12) rfl ?_); refine goesL_ (some 46) rfl rfl Try.func12 (by kernel_rfl) rfl #[.slice A0 l0.length c0, .int .i64 t113, .int .i64 (wrap64 (IntKind.u64.wrap (t112 - 1))), .int .i64 (wrap64 (a3 + 1))] rfl (by (try simp only [List.map_toArray, List.map_cons, List.map_nil]); first | done | rfl | (simp only [List.length_drop, List.length_take]; rfl)) ?_; (with_reducible refine (ih kj7 (by have := HJ7.out; omega) _ _ l0 t113 (wrap64 (IntKind.u64.wrap (t112 - 1))) (wrap64 (a3 + 1)) t115 true _ ?side1 ?side2 A11.out).mono ?_); (case side1 => repeat (first | exact HR0.out | (with_reducible refine Kd.C_alloc ?_ _) | (with_reducible refine Kd.C_drewN ?_ _) | (with_reducible refine Kd.C_drew ?_))); (case side2 => exact HC0.out); rintro e w' ⟨rfl, ⟨nd, rfl⟩⟩; refine ⟨_, rfl, ?_⟩) | ((with_reducible refine gate_callee (f := 12) rfl ?_); refine goesL_ (some 59) rfl rfl Try.func12 (by kernel_rfl) rfl #[.slice A0 l0.length c0, .int .i64 t115, .int .i64 (wrap64 (a2 - (wrap64 (IntKind.u64.wrap (t112 - 1))))), .int .i64 (wrap64 (a3 + 1))] rfl (by (try simp only [List.map_toArray, List.map_cons, List.map_nil]); first | done | rfl | (simp only [List.length_drop, List.length_take]; rfl)) ?_; (with_reducible refine (ih kj7 (by have := HJ7.out; omega) _ _ l0 t115 (wrap64 (a2 - (wrap64 (IntKind.u64.wrap (t112 - 1))))) (wrap64 (a3 + 1)) t117 t118 _ ?side1 ?side2 A13.out).mono ?_); (case side1 => repeat (first | exact HR0.out | (with_reducible refine Kd.C_alloc ?_ _) | (with_reducible refine Kd.C_drewN ?_ _) | (with_reducible refine Kd.C_drew ?_))); (case side2 => exact HC0.out); rintro e w' ⟨rfl, ⟨nd, rfl⟩⟩; refine ⟨_, rfl, ?_⟩))
              go_ret2
              exact ⟨by first | rfl | (simp; done) | (simp [*]; done), by repeat (first | exact Drawn0.refl _ | apply Drawn0.step)⟩
            · replace c12 := Bool.eq_false_iff.mpr c12
              subst c12
              have H1 : (some (a1, false)) = some (r1, r2) := by rw [if_neg (show ¬ (false = true) by decide)] at H; exact H
              clear H
              have H := H1
              clear H1
              simp only [Option.some.injEq, Prod.mk.injEq] at H
              obtain ⟨rfl, rfl⟩ := H
              go_wp2_with (first | ((with_reducible refine gate_callee (f := 12) rfl ?_); refine goesL_ (some 46) rfl rfl Try.func12 (by kernel_rfl) rfl #[.slice A0 l0.length c0, .int .i64 t113, .int .i64 (wrap64 (IntKind.u64.wrap (t112 - 1))), .int .i64 (wrap64 (a3 + 1))] rfl (by (try simp only [List.map_toArray, List.map_cons, List.map_nil]); first | done | rfl | (simp only [List.length_drop, List.length_take]; rfl)) ?_; (with_reducible refine (ih kj7 (by have := HJ7.out; omega) _ _ l0 t113 (wrap64 (IntKind.u64.wrap (t112 - 1))) (wrap64 (a3 + 1)) t115 false _ ?side1 ?side2 A11.out).mono ?_); (case side1 => repeat (first | exact HR0.out | (with_reducible refine Kd.C_alloc ?_ _) | (with_reducible refine Kd.C_drewN ?_ _) | (with_reducible refine Kd.C_drew ?_))); (case side2 => exact HC0.out); rintro e w' ⟨rfl, ⟨nd, rfl⟩⟩; refine ⟨_, rfl, ?_⟩))
              go_ret2
              exact ⟨by first | rfl | (simp; done) | (simp [*]; done), by repeat (first | exact Drawn0.refl _ | apply Drawn0.step)⟩

end Go.Proofs.Ytobdfehpbgcloaa.XTri
