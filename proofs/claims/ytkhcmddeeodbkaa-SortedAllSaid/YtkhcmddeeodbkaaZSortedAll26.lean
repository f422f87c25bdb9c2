import Derived.Test.YtkhcmddeeodbkaaZSortedAll25
-- Own texts and, of the words that the kit's print program wrote for this claim, those that are needed here: put together by wip/prune.py.
set_option linter.unusedSimpArgs false
set_option linter.unusedVariables false
namespace Go.Proofs.Ytkhcmddeeodbkaa.XSor
open Go.RowKit Go.Proofs.Ytkhcmddeeodbkaa.G Go.Proofs.YtkhcmddeeodbkaaW.PrintWords Go.Proofs.YtkhcmddeeodbkaaW.PrintLast Go.Proofs.YtkhcmddeeodbkaaW.PrintMore
attribute [local go_sem] max2_int min2_int max_two min_two max_three min_three max_four min_four
mutual
def loessref6_Rank.l0 : Nat → List Bool → Int → Int → Int → Int → Int → Option (Int × Bool)
 | 0, _, _, _, _, _, _ => none
 | k + 1, x0, x1, x2, x8, x9, x10 => if x1 > 1 then (if x10 > 63 then (some (0, false)) else ((loessref6_GetGamma.f k x0 x8).bind fun bt395 => (if bt395.2.2 = true then (loessref6_Rank.j1 k x0 x1 x2 x9 x10 bt395.1 bt395.2.1 (decide (bt395.1 > (IntKind.u64.wrap ((IntKind.u64.wrap (x1)) + 1))))) else (loessref6_Rank.j1 k x0 x1 x2 x9 x10 bt395.1 bt395.2.1 true)))) else (if x1 < 1 then (some (0, false)) else (some (x9, true)))
def loessref6_Rank.j1 : Nat → List Bool → Int → Int → Int → Int → Int → Int → Bool → Option (Int × Bool)
 | 0, _, _, _, _, _, _, _, _ => none
 | k + 1, x0, x1, x2, x9, x10, x11, x12, x36 => if x36 = true then (some (0, false)) else (if 0 ≤ (IntKind.u64.wrap (wrap64 (63 - x10))) then (if (Go.bits .and .u64 (shr .u64 x2 (IntKind.u64.wrap (wrap64 (63 - x10)))) 1) = 0 then (loessref6_Rank.l0 k x0 (wrap64 (IntKind.u64.wrap (x11 - 1))) x2 x12 x9 (wrap64 (x10 + 1))) else ((loessref6_Skip.f k x0 x12 (wrap64 (IntKind.u64.wrap (x11 - 1))) (wrap64 (x10 + 1))).bind fun bt398 => (if bt398.2 = true then (loessref6_Rank.l0 k x0 (wrap64 (x1 - (wrap64 (IntKind.u64.wrap (x11 - 1))))) x2 bt398.1 (wrap64 (x9 + (wrap64 (IntKind.u64.wrap (x11 - 1))))) (wrap64 (x10 + 1))) else (some (0, false))))) else (none))
end
def loessref6_Rank.f (k : Nat) (l0 : List Bool) (a1 : Int) (a2 : Int) : Option (Int × Bool) := loessref6_Rank.l0 k l0 a1 a2 0 0 0
theorem loessref6_Rank.mono_l : ∀ k, (∀ y0 y1 y2 y3 y4 y5, LeO (loessref6_Rank.l0 k y0 y1 y2 y3 y4 y5) (loessref6_Rank.l0 (k + 1) y0 y1 y2 y3 y4 y5)) ∧ (∀ y0 y1 y2 y3 y4 y5 y6 y7, LeO (loessref6_Rank.j1 k y0 y1 y2 y3 y4 y5 y6 y7) (loessref6_Rank.j1 (k + 1) y0 y1 y2 y3 y4 y5 y6 y7))
 | 0 => ⟨fun _ _ _ _ _ _ r h => by simp [loessref6_Rank.l0] at h, fun _ _ _ _ _ _ _ _ r h => by simp [loessref6_Rank.j1] at h⟩
 | k + 1 => by
   obtain ⟨ih0, ih1⟩ := loessref6_Rank.mono_l k
   refine ⟨?_, ?_⟩
   · intro y0 y1 y2 y3 y4 y5
     unfold loessref6_Rank.l0
     repeat' first
     | (with_reducible exact ih0 _ _ _ _ _ _)
     | (with_reducible exact ih1 _ _ _ _ _ _ _ _)
     | (with_reducible exact loessref6_GetGamma.mono _ _ _)
     | (with_reducible exact loessref6_Skip.mono _ _ _ _ _)
     | (with_reducible exact LeO.refl _)
     | (with_reducible exact LeO.none _)
     | (with_reducible refine LeO.ite ?_ ?_)
     | (with_reducible refine LeO.bind ?_ (fun _ => ?_))
     | exact ih0 _ _ _ _ _ _
     | exact ih1 _ _ _ _ _ _ _ _
     | exact loessref6_GetGamma.mono _ _ _
     | exact loessref6_Skip.mono _ _ _ _ _
     | exact LeO.none _
     | refine LeO.ite ?_ ?_
     | refine LeO.bind ?_ (fun _ => ?_)
   · intro y0 y1 y2 y3 y4 y5 y6 y7
     unfold loessref6_Rank.j1
     repeat' first
     | (with_reducible exact ih0 _ _ _ _ _ _)
     | (with_reducible exact ih1 _ _ _ _ _ _ _ _)
     | (with_reducible exact loessref6_GetGamma.mono _ _ _)
     | (with_reducible exact loessref6_Skip.mono _ _ _ _ _)
     | (with_reducible exact LeO.refl _)
     | (with_reducible exact LeO.none _)
     | (with_reducible refine LeO.ite ?_ ?_)
     | (with_reducible refine LeO.bind ?_ (fun _ => ?_))
     | exact ih0 _ _ _ _ _ _
     | exact ih1 _ _ _ _ _ _ _ _
     | exact loessref6_GetGamma.mono _ _ _
     | exact loessref6_Skip.mono _ _ _ _ _
     | exact LeO.none _
     | refine LeO.ite ?_ ?_
     | refine LeO.bind ?_ (fun _ => ?_)
theorem loessref6_Rank.mono : ∀ a0 a1 a2 k, LeO (loessref6_Rank.f k a0 a1 a2) (loessref6_Rank.f (k + 1) a0 a1 a2) := by
 intro a0 a1 a2 k
 obtain ⟨ih0, ih1⟩ := loessref6_Rank.mono_l k
 unfold loessref6_Rank.f
 repeat' first
     | (with_reducible exact ih0 _ _ _ _ _ _)
     | (with_reducible exact ih1 _ _ _ _ _ _ _ _)
     | (with_reducible exact loessref6_GetGamma.mono _ _ _)
     | (with_reducible exact loessref6_Skip.mono _ _ _ _ _)
     | (with_reducible exact LeO.refl _)
     | (with_reducible exact LeO.none _)
     | (with_reducible refine LeO.ite ?_ ?_)
     | (with_reducible refine LeO.bind ?_ (fun _ => ?_))
     | exact ih0 _ _ _ _ _ _
     | exact ih1 _ _ _ _ _ _ _ _
     | exact loessref6_GetGamma.mono _ _ _
     | exact loessref6_Skip.mono _ _ _ _ _
     | exact LeO.none _
     | refine LeO.ite ?_ ?_
     | refine LeO.bind ?_ (fun _ => ?_)
set_option maxHeartbeats 8000000 in
set_option maxRecDepth 100000 in
theorem loessref6_Rank.calls (k : Nat) (A0 : Option Addr) (c0 : Nat) (l0 : List Bool) (a1 : Int) (a2 : Int) (r1 : Int) (r2 : Bool) (w : World) (hr0 : Kd.C Kd.bool w A0 l0.length l0) (hc0 : l0.length ≤ c0) (h : loessref6_Rank.f k l0 a1 a2 = some (r1, r2)) :
    Calls Try.prog 66 #[.slice A0 l0.length c0, .int .i64 a1, .int .u64 a2] w fun e w' => e = .returned (.tuple #[.int .i64 r1, .bool r2]) ∧ Drawn0 w w' := by
 have HR0 := Aside0.mk hr0
 have HC0 := Aside0.mk hc0
 clear hr0 hc0
 have H : (loessref6_Rank.l0 k l0 a1 a2 0 0 0) = some (r1, r2) := h
 clear h
 have H' := Aside0.mk H
 clear H
 go_enter Try.func66, Try.ntmps66
 go_wp2
 go_loopg [1, 8, 9, 10] k (fun kq v1 v8 v9 v10 w' => ∃ (x1_1 : Int) (x8_1 : Int) (x9_1 : Int) (x10_1 : Int), v1 = .int .i64 x1_1 ∧ v8 = .int .i64 x8_1 ∧ v9 = .int .i64 x9_1 ∧ v10 = .int .i64 x10_1 ∧ Aside0 (loessref6_Rank.l0 kq l0 x1_1 a2 x8_1 x9_1 x10_1 = some (r1, r2)) ∧ Aside0 (kq ≤ k) ∧ Drawn0 w w')
 case atStart => exact ⟨(a1), (0), (0), (0), (by first | rfl | (simp; done) | (simp [*]; done)), (by first | rfl | (simp; done) | (simp [*]; done)), (by first | rfl | (simp; done) | (simp [*]; done)), (by first | rfl | (simp; done) | (simp [*]; done)), H', ⟨Nat.le_refl _⟩, by repeat (first | exact Drawn0.refl _ | apply Drawn0.step)⟩
 case round =>
  clear H'
  try clear p2
  obtain ⟨x1_1, x8_1, x9_1, x10_1, rfl, rfl, rfl, rfl, HA, HK1, ⟨m1, rfl⟩⟩ := hrel
  cases gk with
  | zero => exact absurd HA.out (by simp [loessref6_Rank.l0])
  | succ k1 =>
    have H := HA.out
    clear HA
    simp only [loessref6_Rank.l0] at H
    by_cases c4 : x1_1 > 1
    · rw [if_pos c4] at H
      have c4b0 : decide (1 < x1_1) = true := decide_eq_true c4
      clear c4
      by_cases c5 : x10_1 > 63
      · rw [if_pos c5] at H
        have c5b0 : decide (63 < x10_1) = true := decide_eq_true c5
        clear c5
        simp only [Option.some.injEq, Prod.mk.injEq] at H
        obtain ⟨rfl, rfl⟩ := H
        go_wp2
        go_ret2
        exact ⟨by first | rfl | (simp; done) | (simp [*]; done), by repeat (first | exact Drawn0.refl _ | apply Drawn0.step)⟩
      · rw [if_neg c5] at H
        have c5b0 : decide (63 < x10_1) = false := decide_eq_false c5
        clear c5
        replace H := Option.bind_eq_some_iff.mp H
        obtain ⟨⟨t395, t396, t397⟩, A60, H⟩ := H
        replace H : (if t397 = true then (loessref6_Rank.j1 k1 l0 x1_1 a2 x9_1 x10_1 t395 t396 (decide (t395 > (IntKind.u64.wrap ((IntKind.u64.wrap (x1_1)) + 1))))) else (loessref6_Rank.j1 k1 l0 x1_1 a2 x9_1 x10_1 t395 t396 true)) = some (r1, r2) := H
        have A6 := Aside0.mk A60
        clear A60
        have HC7 := Aside0.mk H
        clear H
        go_upto_region 8 with (first | ((with_reducible refine gate_callee (f := 80) rfl ?_); refine goesL_ (some 24) rfl rfl Try.func80 (by kernel_rfl) rfl #[.slice A0 l0.length c0, .int .i64 x8_1] rfl (by (try simp only [List.map_toArray, List.map_cons, List.map_nil]); first | done | rfl | (simp only [List.length_drop, List.length_take]; rfl)) ?_; (with_reducible refine (loessref6_GetGamma.calls k1 _ _ l0 x8_1 t395 t396 t397 _ ?side1 ?side2 A6.out).mono ?_); (case side1 => repeat (first | exact HR0.out | (with_reducible refine Kd.C_alloc ?_ _) | (with_reducible refine Kd.C_drewN ?_ _) | (with_reducible refine Kd.C_drew ?_))); (case side2 => exact HC0.out); rintro e w' ⟨rfl, ⟨nd, rfl⟩⟩; refine ⟨_, rfl, ?_⟩))
        (try simp only [Act.put, List.setIfInBounds_toArray, List.set_cons_zero, List.set_cons_succ])
        go_cut [36] (fun v36 wc => ∃ (kq : Nat) (x36_6 : Bool), v36 = .bool x36_6 ∧ Aside0 (loessref6_Rank.j1 kq l0 x1_1 a2 x9_1 x10_1 t395 t396 x36_6 = some (r1, r2)) ∧ Aside0 (kq ≤ k1) ∧ Drawn0 w wc)
        case first =>
         have H := HC7.out
         clear HC7
         by_cases c8 : t397 = true
         · subst c8
           have H1 : (loessref6_Rank.j1 k1 l0 x1_1 a2 x9_1 x10_1 t395 t396 (decide (t395 > (IntKind.u64.wrap ((IntKind.u64.wrap (x1_1)) + 1))))) = some (r1, r2) := by rw [if_pos rfl] at H; exact H
           clear H
           have H := H1
           clear H1
           have H' := Aside0.mk H
           clear H
           go_wp2
           go_meet
           case rel => exact ⟨_, (decide (t395 > (IntKind.u64.wrap ((IntKind.u64.wrap (x1_1)) + 1)))), (by first | rfl | (simp; done) | (simp [*]; done)), H', ⟨by have := HK1.out; first | omega | exact Nat.le_refl _⟩, by repeat (first | exact Drawn0.refl _ | apply Drawn0.step)⟩
         · replace c8 := Bool.eq_false_iff.mpr c8
           subst c8
           have H1 : (loessref6_Rank.j1 k1 l0 x1_1 a2 x9_1 x10_1 t395 t396 true) = some (r1, r2) := by rw [if_neg (show ¬ (false = true) by decide)] at H; exact H
           clear H
           have H := H1
           clear H1
           have H' := Aside0.mk H
           clear H
           go_wp2
           go_meet
           case rel => exact ⟨_, (true), (by first | rfl | (simp; done) | (simp [*]; done)), H', ⟨by have := HK1.out; first | omega | exact Nat.le_refl _⟩, by repeat (first | exact Drawn0.refl _ | apply Drawn0.step)⟩
        case rest =>
         clear HC7
         try clear p2
         try clear c4
         try clear c4b0
         try clear c5
         try clear c5b0
         try clear c6
         try clear c8
         try clear p2
         obtain ⟨kq, x36_6, rfl, HA, HJ6, ⟨mc6, rfl⟩⟩ := hcut
         cases kq with
         | zero => exact absurd HA.out (by simp [loessref6_Rank.j1])
         | succ kj6 =>
           have H := HA.out
           clear HA
           simp only [loessref6_Rank.j1] at H
           by_cases c9 : x36_6 = true
           · subst c9
             have H1 : (some (0, false)) = some (r1, r2) := by rw [if_pos rfl] at H; exact H
             clear H
             have H := H1
             clear H1
             simp only [Option.some.injEq, Prod.mk.injEq] at H
             obtain ⟨rfl, rfl⟩ := H
             go_wp2
             go_ret2
             exact ⟨by first | rfl | (simp; done) | (simp [*]; done), by repeat (first | exact Drawn0.refl _ | apply Drawn0.step)⟩
           · replace c9 := Bool.eq_false_iff.mpr c9
             subst c9
             have H1 : (if 0 ≤ (IntKind.u64.wrap (wrap64 (63 - x10_1))) then (if (Go.bits .and .u64 (shr .u64 a2 (IntKind.u64.wrap (wrap64 (63 - x10_1)))) 1) = 0 then (loessref6_Rank.l0 kj6 l0 (wrap64 (IntKind.u64.wrap (t395 - 1))) a2 t396 x9_1 (wrap64 (x10_1 + 1))) else ((loessref6_Skip.f kj6 l0 t396 (wrap64 (IntKind.u64.wrap (t395 - 1))) (wrap64 (x10_1 + 1))).bind fun bt398 => (if bt398.2 = true then (loessref6_Rank.l0 kj6 l0 (wrap64 (x1_1 - (wrap64 (IntKind.u64.wrap (t395 - 1))))) a2 bt398.1 (wrap64 (x9_1 + (wrap64 (IntKind.u64.wrap (t395 - 1))))) (wrap64 (x10_1 + 1))) else (some (0, false))))) else (none)) = some (r1, r2) := by rw [if_neg (show ¬ (false = true) by decide)] at H; exact H
             clear H
             have H := H1
             clear H1
             obtain ⟨ji10, hji10⟩ : ∃ j_ : Int, (IntKind.u64.wrap (wrap64 (63 - x10_1))) = j_ := ⟨_, rfl⟩
             replace H : (if 0 ≤ (ji10) then (if (Go.bits .and .u64 (shr .u64 a2 (ji10)) 1) = 0 then (loessref6_Rank.l0 kj6 l0 (wrap64 (IntKind.u64.wrap (t395 - 1))) a2 t396 x9_1 (wrap64 (x10_1 + 1))) else ((loessref6_Skip.f kj6 l0 t396 (wrap64 (IntKind.u64.wrap (t395 - 1))) (wrap64 (x10_1 + 1))).bind fun bt398 => (if bt398.2 = true then (loessref6_Rank.l0 kj6 l0 (wrap64 (x1_1 - (wrap64 (IntKind.u64.wrap (t395 - 1))))) a2 bt398.1 (wrap64 (x9_1 + (wrap64 (IntKind.u64.wrap (t395 - 1))))) (wrap64 (x10_1 + 1))) else (some (0, false))))) else (none)) = some (r1, r2) := by first | (rw [hji10] at H; exact H) | (simp only [hji10] at H ⊢; exact H)
             by_cases c11 : 0 ≤ (ji10)
             · rw [if_pos c11] at H
               have c11b0 := eq_true c11
               have c11b1 : decide (0 ≤ (ji10)) = true := decide_eq_true c11
               clear c11
               obtain ⟨ji12, hji12⟩ : ∃ j_ : Int, (shr .u64 a2 (ji10)) = j_ := ⟨_, rfl⟩
               replace H : (if (Go.bits .and .u64 (ji12) 1) = 0 then (loessref6_Rank.l0 kj6 l0 (wrap64 (IntKind.u64.wrap (t395 - 1))) a2 t396 x9_1 (wrap64 (x10_1 + 1))) else ((loessref6_Skip.f kj6 l0 t396 (wrap64 (IntKind.u64.wrap (t395 - 1))) (wrap64 (x10_1 + 1))).bind fun bt398 => (if bt398.2 = true then (loessref6_Rank.l0 kj6 l0 (wrap64 (x1_1 - (wrap64 (IntKind.u64.wrap (t395 - 1))))) a2 bt398.1 (wrap64 (x9_1 + (wrap64 (IntKind.u64.wrap (t395 - 1))))) (wrap64 (x10_1 + 1))) else (some (0, false))))) = some (r1, r2) := by first | (rw [hji12] at H; exact H) | (simp only [hji12] at H ⊢; exact H)
               have hji12_ : (a2 / 2 ^ min (ji10).toNat 64) = ji12 := hji12
               have hji12z : (ji10) ≤ 64 → (a2 / 2 ^ (ji10).toNat) = ji12 := shr_small hji12
               by_cases c13 : (Go.bits .and .u64 (ji12) 1) = 0
               · rw [if_pos c13] at H
                 have c13b0 : ((Go.bits .and .u64 (ji12) 1) == 0) = true := beq_iff_eq.mpr c13
                 have c13b1 : ((Go.bits .and .u64 (ji12) 1) != 0) = false := bne_eq_false_iff_eq.mpr c13
                 clear c13
                 have H' := Aside0.mk H
                 clear H
                 go_wp2
                 go_roundg kj6
                 case measure => have := HK1.out; have := HJ6.out; omega
                 case rel => exact ⟨(wrap64 (IntKind.u64.wrap (t395 - 1))), (t396), (x9_1), (wrap64 (x10_1 + 1)), (by first | rfl | (simp; done) | (simp [*]; done)), (by first | rfl | (simp; done) | (simp [*]; done)), (by first | rfl | (simp; done) | (simp [*]; done)), (by first | rfl | (simp; done) | (simp [*]; done)), H', ⟨by have := HK1.out; have := HJ6.out; omega⟩, by repeat (first | exact Drawn0.refl _ | apply Drawn0.step)⟩
               · rw [if_neg c13] at H
                 have c13b0 : ((Go.bits .and .u64 (ji12) 1) == 0) = false := beq_eq_false_iff_ne.mpr c13
                 have c13b1 : ((Go.bits .and .u64 (ji12) 1) != 0) = true := bne_iff_ne.mpr c13
                 replace H := Option.bind_eq_some_iff.mp H
                 obtain ⟨⟨t398, t399⟩, A140, H⟩ := H
                 replace H : (if t399 = true then (loessref6_Rank.l0 kj6 l0 (wrap64 (x1_1 - (wrap64 (IntKind.u64.wrap (t395 - 1))))) a2 t398 (wrap64 (x9_1 + (wrap64 (IntKind.u64.wrap (t395 - 1))))) (wrap64 (x10_1 + 1))) else (some (0, false))) = some (r1, r2) := H
                 have A14 := Aside0.mk A140
                 clear A140
                 by_cases c15 : t399 = true
                 · subst c15
                   have H1 : (loessref6_Rank.l0 kj6 l0 (wrap64 (x1_1 - (wrap64 (IntKind.u64.wrap (t395 - 1))))) a2 t398 (wrap64 (x9_1 + (wrap64 (IntKind.u64.wrap (t395 - 1))))) (wrap64 (x10_1 + 1))) = some (r1, r2) := by rw [if_pos rfl] at H; exact H
                   clear H
                   have H := H1
                   clear H1
                   have H' := Aside0.mk H
                   clear H
                   go_wp2_with (first | ((with_reducible refine gate_callee (f := 81) rfl ?_); refine goesL_ (some 55) rfl rfl Try.func81 (by kernel_rfl) rfl #[.slice A0 l0.length c0, .int .i64 t396, .int .i64 (wrap64 (IntKind.u64.wrap (t395 - 1))), .int .i64 (wrap64 (x10_1 + 1))] rfl (by (try simp only [List.map_toArray, List.map_cons, List.map_nil]); first | done | rfl | (simp only [List.length_drop, List.length_take]; rfl)) ?_; (with_reducible refine (loessref6_Skip.calls kj6 _ _ l0 t396 (wrap64 (IntKind.u64.wrap (t395 - 1))) (wrap64 (x10_1 + 1)) t398 true _ ?side1 ?side2 A14.out).mono ?_); (case side1 => repeat (first | exact HR0.out | (with_reducible refine Kd.C_alloc ?_ _) | (with_reducible refine Kd.C_drewN ?_ _) | (with_reducible refine Kd.C_drew ?_))); (case side2 => exact HC0.out); rintro e w' ⟨rfl, ⟨nd, rfl⟩⟩; refine ⟨_, rfl, ?_⟩))
                   go_roundg kj6
                   case measure => have := HK1.out; have := HJ6.out; omega
                   case rel => exact ⟨(wrap64 (x1_1 - (wrap64 (IntKind.u64.wrap (t395 - 1))))), (t398), (wrap64 (x9_1 + (wrap64 (IntKind.u64.wrap (t395 - 1))))), (wrap64 (x10_1 + 1)), (by first | rfl | (simp; done) | (simp [*]; done)), (by first | rfl | (simp; done) | (simp [*]; done)), (by first | rfl | (simp; done) | (simp [*]; done)), (by first | rfl | (simp; done) | (simp [*]; done)), H', ⟨by have := HK1.out; have := HJ6.out; omega⟩, by repeat (first | exact Drawn0.refl _ | apply Drawn0.step)⟩
                 · replace c15 := Bool.eq_false_iff.mpr c15
                   subst c15
                   have H1 : (some (0, false)) = some (r1, r2) := by rw [if_neg (show ¬ (false = true) by decide)] at H; exact H
                   clear H
                   have H := H1
                   clear H1
                   simp only [Option.some.injEq, Prod.mk.injEq] at H
                   obtain ⟨rfl, rfl⟩ := H
                   go_wp2_with (first | ((with_reducible refine gate_callee (f := 81) rfl ?_); refine goesL_ (some 55) rfl rfl Try.func81 (by kernel_rfl) rfl #[.slice A0 l0.length c0, .int .i64 t396, .int .i64 (wrap64 (IntKind.u64.wrap (t395 - 1))), .int .i64 (wrap64 (x10_1 + 1))] rfl (by (try simp only [List.map_toArray, List.map_cons, List.map_nil]); first | done | rfl | (simp only [List.length_drop, List.length_take]; rfl)) ?_; (with_reducible refine (loessref6_Skip.calls kj6 _ _ l0 t396 (wrap64 (IntKind.u64.wrap (t395 - 1))) (wrap64 (x10_1 + 1)) t398 false _ ?side1 ?side2 A14.out).mono ?_); (case side1 => repeat (first | exact HR0.out | (with_reducible refine Kd.C_alloc ?_ _) | (with_reducible refine Kd.C_drewN ?_ _) | (with_reducible refine Kd.C_drew ?_))); (case side2 => exact HC0.out); rintro e w' ⟨rfl, ⟨nd, rfl⟩⟩; refine ⟨_, rfl, ?_⟩))
                   go_ret2
                   exact ⟨by first | rfl | (simp; done) | (simp only [← hji10, ← hji12] <;> (first | rfl | simp)) | (simp [*]; done), by repeat (first | exact Drawn0.refl _ | apply Drawn0.step)⟩
             · rw [if_neg c11] at H
               exact absurd H (by simp)
    · rw [if_neg c4] at H
      have c4b0 : decide (1 < x1_1) = false := decide_eq_false c4
      clear c4
      by_cases c16 : x1_1 < 1
      · rw [if_pos c16] at H
        have c16b0 : decide (x1_1 < 1) = true := decide_eq_true c16
        clear c16
        simp only [Option.some.injEq, Prod.mk.injEq] at H
        obtain ⟨rfl, rfl⟩ := H
        go_wp2
        go_ret2
        exact ⟨by first | rfl | (simp; done) | (simp [*]; done), by repeat (first | exact Drawn0.refl _ | apply Drawn0.step)⟩
      · rw [if_neg c16] at H
        have c16b0 : decide (x1_1 < 1) = false := decide_eq_false c16
        clear c16
        simp only [Option.some.injEq, Prod.mk.injEq] at H
        obtain ⟨rfl, rfl⟩ := H
        go_wp2
        go_ret2
        exact ⟨by first | rfl | (simp; done) | (simp [*]; done), by repeat (first | exact Drawn0.refl _ | apply Drawn0.step)⟩
end Go.Proofs.Ytkhcmddeeodbkaa.XSor
namespace Go.Proofs.Ytkhcmddeeodbkaa.GL
open Go.RowKit Go.Proofs.YtkhcmddeeodbkaaW.PrintWords Go.Proofs.YtkhcmddeeodbkaaW.PrintMore Go.Proofs.Ytkhcmddeeodbkaa.Q Go.Proofs.Ytkhcmddeeodbkaa.XSor
theorem evC {α : Type} {f g : Nat → Option α} {a : α} (h : ∀ r, f r = g r) (hg : Ev g a) : Ev f a := Ev.congr h hg
def SkP (o : Option Int) (v : Int) : Prop := ∀ t, o = some t → v = t
theorem readT_none {L : List Bool} {at_ n : Int} (h : getG L at_ = none) : readT L at_ n = none := by unfold readT; rw [h]
theorem readT_some {L : List Bool} {at_ n x e : Int} (h : getG L at_ = some (x, e)) : readT L at_ n = if n < x - 1 then none else some (x - 1, e) := by unfold readT; rw [h]
theorem skipT_s {L : List Bool} {k : Nat} {at_ n : Int} (h : ¬ n < 2) : skipT L (k + 1) at_ n = match readT L at_ n with
    | none => none
    | some (l, e) => match skipT L k e l with
      | none => none
      | some t => skipT L k t (n - l) := if_neg h
theorem skip_bd {L : List Bool} : ∀ (k : Nat) (at_ n t : Int), at_ ≤ L.length ∨ n < 2 → skipT L k at_ n = some t → t = at_ ∨ t ≤ L.length := by
 intro k
 induction k with
 | zero =>
   intro at_ n t _ h
   rw [skipT] at h
   split at h
   · injection h with h; exact .inl h.symm
   · cases h
 | succ k ih =>
   intro at_ n t _ h
   by_cases h2 : n < 2
   · rw [skipT, if_pos h2] at h
     injection h with h
     exact .inl h.symm
   · rw [skipT_s h2] at h
     cases hr : readT L at_ n with
     | none => rw [hr] at h; cases h
     | some le =>
       obtain ⟨l, e⟩ := le
       rw [hr] at h
       have hsp := readT_spec hr
       cases hs : skipT L k e l with
       | none => simp only [hs] at h; cases h
       | some u =>
         simp only [hs] at h
         have h1 := ih e l u (.inl hsp.2.2.1) hs
         have hu : u ≤ L.length := by omega
         have h3 := ih u (n - l) t (.inl hu) h
         omega
theorem skip_ev (L : List Bool) (hl : L.length < 100000000000) : ∀ (k : Nat) (at_ n d : Int), d = 64 - (k : Int) → k ≤ 64 → at_ ≤ 100000000000 → 0 ≤ n → n ≤ 4096 →
    ∃ v, Ev (fun r => loessref6_Skip.f r L at_ n d) (v, (skipT L k at_ n).isSome) ∧ SkP (skipT L k at_ n) v := by
 intro k
 induction k with
 | zero =>
   intro at_ n d hd _ _ h0 h1
   refine ⟨at_, ?_, ?_⟩
   · by_cases h2 : n < 2
     · have e : skipT L 0 at_ n = some at_ := if_pos h2
       rw [e]
       refine Ev.step (f := fun _ => some (at_, true)) (fun r => ?_) (Ev.now _)
       simp only [loessref6_Skip.f]
       rw [if_pos (by omega)]
     · have e : skipT L 0 at_ n = none := if_neg h2
       rw [e]
       refine Ev.step (f := fun _ => some (at_, false)) (fun r => ?_) (Ev.now _)
       simp only [loessref6_Skip.f]
       rw [if_neg (by omega), if_pos (by omega)]
   · intro t ht
     rw [skipT] at ht
     split at ht
     · injection ht
     · cases ht
 | succ k ih =>
   intro at_ n d hd hk ha h0 h1
   by_cases h2 : n < 2
   · have e : skipT L (k + 1) at_ n = some at_ := by rw [skipT, if_pos h2]
     rw [e]
     refine ⟨at_, ?_, fun t ht => by injection ht⟩
     refine Ev.step (f := fun _ => some (at_, true)) (fun r => ?_) (Ev.now _)
     simp only [loessref6_Skip.f]
     rw [if_pos (by omega)]
   · have hu1 : Aside0 (IntKind.u64.wrap (IntKind.u64.wrap n + 1) = n + 1) := ⟨by rw [u64 (x := n) (by omega) (by omega), u64 (by omega) (by omega)]⟩
     have hd1 : Aside0 (wrap64 (d + 1) = 64 - (k : Int)) := ⟨by rw [w64 (by omega) (by omega)]; omega⟩
     have hbig : ¬ n ≤ 1 := by omega
     have hdeep : ¬ d > 63 := by omega
     have hno : ∀ (x e : Int) (t : Bool), Ev (fun r => loessref6_Skip.j0 r L at_ n d x e true) (at_, false) := by
      intro x e _
      refine Ev.step (f := fun _ => some (at_, false)) (fun r => ?_) (Ev.now _)
      simp only [loessref6_Skip.j0]
      exact if_pos trivial
     have hstep : ∀ v, Ev (fun r => (loessref6_GetGamma.f r L at_).bind fun bt => if bt.2.2 = true then loessref6_Skip.j0 r L at_ n d bt.1 bt.2.1 (decide (bt.1 > n + 1)) else loessref6_Skip.j0 r L at_ n d bt.1 bt.2.1 true) v → Ev (fun r => loessref6_Skip.f r L at_ n d) v := by
      intro v hv
      refine Ev.step (fun r => ?_) hv
      simp only [loessref6_Skip.f]
      rw [if_neg hbig, if_neg hdeep, hu1.out]
     cases hg : getG L at_ with
     | none =>
       have e : skipT L (k + 1) at_ n = none := by rw [skipT_s h2, readT_none hg]
       rw [e]
       refine ⟨at_, hstep _ (Ev.bind (getGamma_ev L at_ hl (by omega)) ?_), fun t ht => by cases ht⟩
       rw [hg]
       exact evC (fun r => if_neg (by show ¬ (false : Bool) = true; decide)) (hno 0 at_ true)
     | some xe =>
       obtain ⟨x, e⟩ := xe
       have hsp := getG_spec hg
       by_cases hx : n < x - 1
       · have e' : skipT L (k + 1) at_ n = none := by rw [skipT_s h2, readT_some hg, if_pos hx]
         rw [e']
         refine ⟨at_, hstep _ (Ev.bind (getGamma_ev L at_ hl (by omega)) ?_), fun t ht => by cases ht⟩
         rw [hg]
         refine evC (g := fun r => loessref6_Skip.j0 r L at_ n d x e true) (fun r => ?_) (hno x e true)
         show (if true = true then loessref6_Skip.j0 r L at_ n d x e (decide (x > n + 1)) else loessref6_Skip.j0 r L at_ n d x e true) = _
         rw [if_pos rfl, decide_eq_true (show x > n + 1 by omega)]
       · have hrd : readT L at_ n = some (x - 1, e) := by rw [readT_some hg, if_neg hx]
         have hw : Aside0 (wrap64 (IntKind.u64.wrap (x - 1)) = x - 1) := ⟨by rw [u64 (by omega) (by omega), w64 (by omega) (by omega)]⟩
         have hw2 : Aside0 (wrap64 (n - (x - 1)) = n - (x - 1)) := ⟨w64 (by omega) (by omega)⟩
         have hgo : ∀ v, Ev (fun r => (loessref6_Skip.f r L e (x - 1) (64 - (k : Int))).bind fun bt => if bt.2 = true then ((loessref6_Skip.f r L bt.1 (n - (x - 1)) (64 - (k : Int))).bind fun bt117 => (some (bt117.1, bt117.2))) else some (at_, false)) v → Ev (fun r => loessref6_Skip.f r L at_ n d) v := by
          intro v hv
          refine hstep _ (Ev.bind (getGamma_ev L at_ hl (by omega)) ?_)
          rw [hg]
          refine evC (g := fun r => loessref6_Skip.j0 r L at_ n d x e false) (fun r => ?_) ?_
          · show (if true = true then loessref6_Skip.j0 r L at_ n d x e (decide (x > n + 1)) else loessref6_Skip.j0 r L at_ n d x e true) = _
            rw [if_pos rfl, decide_eq_false (show ¬ x > n + 1 by omega)]
          · refine Ev.step (fun r => ?_) hv
            simp only [loessref6_Skip.j0]
            rw [if_neg (by simp), hw.out, hw2.out, hd1.out]
         obtain ⟨v1, he1, hv1⟩ := ih e (x - 1) (64 - (k : Int)) rfl (by omega) (by omega) (by omega) (by omega)
         cases hs : skipT L k e (x - 1) with
         | none =>
           have e' : skipT L (k + 1) at_ n = none := by rw [skipT_s h2, hrd]; simp only [hs]
           rw [hs] at he1
           rw [e']
           refine ⟨at_, hgo _ (Ev.bind he1 ?_), fun t ht => by cases ht⟩
           exact evC (fun r => if_neg (by show ¬ (false : Bool) = true; decide)) (Ev.now _)
         | some t =>
           have e' : skipT L (k + 1) at_ n = skipT L k t (n - (x - 1)) := by rw [skipT_s h2, hrd]; simp only [hs]
           have hvt := hv1 t hs
           subst hvt
           rw [hs] at he1
           have hbd := skip_bd k e (x - 1) v1 (.inl hsp.2.2.1) hs
           obtain ⟨v2, he2, hv2⟩ := ih v1 (n - (x - 1)) (64 - (k : Int)) rfl (by omega) (by omega) (by omega) (by omega)
           rw [e']
           refine ⟨v2, hgo _ (Ev.bind he1 ?_), hv2⟩
           refine evC (g := fun r => (loessref6_Skip.f r L v1 (n - (x - 1)) (64 - (k : Int))).bind fun bt117 => (some (bt117.1, bt117.2))) (fun r => if_pos rfl) (Ev.bind he2 (Ev.now _))
theorem rank_ev (L : List Bool) (h : Int) (hl : L.length < 100000000000) (hh0 : 0 ≤ h) (hh1 : h < 18446744073709551616) : ∀ (k : Nat) (at_ n a d : Int), d = 64 - (k : Int) → k ≤ 64 → at_ ≤ 100000000000 → 0 ≤ n → n ≤ 4096 → 0 ≤ a → a ≤ 4096 * (65 - (k : Int)) →
    Ev (fun r => loessref6_Rank.l0 r L n h at_ a d) (numP (rankT L h k at_ n a)) := by
 intro k
 induction k with
 | zero =>
   intro at_ n a d hd _ _ h0 h1 _ _
   by_cases hz : n = 0
   · subst hz
     rw [rankT_0]
     refine Ev.step (f := fun _ => some (0, false)) (fun r => ?_) (Ev.now _)
     simp only [loessref6_Rank.l0]
     rw [if_neg (by omega), if_pos (by omega)]
   · by_cases ho : n = 1
     · subst ho
       rw [rankT_1]
       refine Ev.step (f := fun _ => some (a, true)) (fun r => ?_) (Ev.now _)
       simp only [loessref6_Rank.l0]
       rw [if_neg (by omega), if_neg (by omega)]
     · rw [rankT_e (by omega)]
       refine Ev.step (f := fun _ => some (0, false)) (fun r => ?_) (Ev.now _)
       simp only [loessref6_Rank.l0]
       rw [if_pos (by omega), if_pos (by omega)]
 | succ k ih =>
   intro at_ n a d hd hk ha h0 h1 ha0 ha1
   by_cases hz : n = 0
   · subst hz
     rw [rankT_0]
     refine Ev.step (f := fun _ => some (0, false)) (fun r => ?_) (Ev.now _)
     simp only [loessref6_Rank.l0]
     rw [if_neg (by omega), if_pos (by omega)]
   · by_cases ho : n = 1
     · subst ho
       rw [rankT_1]
       refine Ev.step (f := fun _ => some (a, true)) (fun r => ?_) (Ev.now _)
       simp only [loessref6_Rank.l0]
       rw [if_neg (by omega), if_neg (by omega)]
     · have hu1 : Aside0 (IntKind.u64.wrap (IntKind.u64.wrap n + 1) = n + 1) := ⟨by rw [u64 (x := n) (by omega) (by omega), u64 (by omega) (by omega)]⟩
       have hd1 : Aside0 (wrap64 (d + 1) = 64 - (k : Int)) := ⟨by rw [w64 (by omega) (by omega)]; omega⟩
       have hsh : Aside0 (IntKind.u64.wrap (wrap64 (63 - d)) = (k : Int)) := ⟨by rw [w64 (by omega) (by omega), u64 (by omega) (by omega)]; omega⟩
       have hs : Aside0 (shr .u64 h (k : Int) = h / 2 ^ k) := ⟨by
        unfold shr
        rw [show IntKind.u64.bits = 64 from rfl, show min (k : Int).toNat 64 = k by omega]⟩
       have hbig : n > 1 := by omega
       have hdeep : ¬ d > 63 := by omega
       have hno : ∀ (x e : Int), Ev (fun r => loessref6_Rank.j1 r L n h a d x e true) (0, false) := by
        intro x e
        refine Ev.step (f := fun _ => some (0, false)) (fun r => ?_) (Ev.now _)
        simp only [loessref6_Rank.j1]
        exact if_pos trivial
       have hstep : ∀ v, Ev (fun r => (loessref6_GetGamma.f r L at_).bind fun bt => if bt.2.2 = true then loessref6_Rank.j1 r L n h a d bt.1 bt.2.1 (decide (bt.1 > n + 1)) else loessref6_Rank.j1 r L n h a d bt.1 bt.2.1 true) v → Ev (fun r => loessref6_Rank.l0 r L n h at_ a d) v := by
        intro v hv
        refine Ev.step (fun r => ?_) hv
        simp only [loessref6_Rank.l0]
        rw [if_pos hbig, if_neg hdeep, hu1.out]
       rw [rankT_s (by omega)]
       cases hg : getG L at_ with
       | none =>
         rw [readT_none hg]
         refine hstep _ (Ev.bind (getGamma_ev L at_ hl (by omega)) ?_)
         rw [hg]
         exact evC (fun r => if_neg (by show ¬ (false : Bool) = true; decide)) (hno 0 at_)
       | some xe =>
         obtain ⟨x, e⟩ := xe
         have hsp := getG_spec hg
         by_cases hx : n < x - 1
         · rw [readT_some hg, if_pos hx]
           refine hstep _ (Ev.bind (getGamma_ev L at_ hl (by omega)) ?_)
           rw [hg]
           refine evC (g := fun r => loessref6_Rank.j1 r L n h a d x e true) (fun r => ?_) (hno x e)
           show (if true = true then loessref6_Rank.j1 r L n h a d x e (decide (x > n + 1)) else loessref6_Rank.j1 r L n h a d x e true) = _
           rw [if_pos rfl, decide_eq_true (show x > n + 1 by omega)]
         · rw [readT_some hg, if_neg hx]
           have hw : Aside0 (wrap64 (IntKind.u64.wrap (x - 1)) = x - 1) := ⟨by rw [u64 (by omega) (by omega), w64 (by omega) (by omega)]⟩
           have hw2 : Aside0 (wrap64 (n - (x - 1)) = n - (x - 1)) := ⟨w64 (by omega) (by omega)⟩
           have hw3 : Aside0 (wrap64 (a + (x - 1)) = a + (x - 1)) := ⟨w64 (by omega) (by omega)⟩
           have hkk : 0 ≤ (k : Int) := by omega
           have hgo : ∀ v, Ev (fun r => if h / 2 ^ k % 2 = 0 then loessref6_Rank.l0 r L (x - 1) h e a (64 - (k : Int)) else (loessref6_Skip.f r L e (x - 1) (64 - (k : Int))).bind fun bt => if bt.2 = true then loessref6_Rank.l0 r L (n - (x - 1)) h bt.1 (a + (x - 1)) (64 - (k : Int)) else some (0, false)) v → Ev (fun r => loessref6_Rank.l0 r L n h at_ a d) v := by
            intro v hv
            refine hstep _ (Ev.bind (getGamma_ev L at_ hl (by omega)) ?_)
            rw [hg]
            refine evC (g := fun r => loessref6_Rank.j1 r L n h a d x e false) (fun r => ?_) ?_
            · show (if true = true then loessref6_Rank.j1 r L n h a d x e (decide (x > n + 1)) else loessref6_Rank.j1 r L n h a d x e true) = _
              rw [if_pos rfl, decide_eq_false (show ¬ x > n + 1 by omega)]
            · refine Ev.step (fun r => ?_) hv
              simp only [loessref6_Rank.j1]
              rw [if_neg (by simp), hsh.out, if_pos hkk, hs.out, and1_shr k hh0 hh1, hw.out, hw2.out, hw3.out, hd1.out]
           show Ev _ (numP (if bitT h k = true then (match skipT L k e (x - 1) with
            | none => none
            | some t => rankT L h k t (n - (x - 1)) (a + (x - 1))) else rankT L h k e (x - 1) a))
           by_cases hb : h / 2 ^ k % 2 = 0
           · have hbt : ¬ bitT h k = true := by unfold bitT; rw [hb]; decide
             rw [if_neg hbt]
             refine hgo _ (evC (fun r => if_pos hb) ?_)
             exact ih e (x - 1) a (64 - (k : Int)) rfl (by omega) (by omega) (by omega) (by omega) ha0 (by omega)
           · have hbt : bitT h k = true := by
               unfold bitT
               have : h / 2 ^ k % 2 = 1 := by omega
               rw [this]
               rfl
             rw [if_pos hbt]
             refine hgo _ (evC (fun r => if_neg hb) ?_)
             obtain ⟨v1, he1, hv1⟩ := skip_ev L hl k e (x - 1) (64 - (k : Int)) rfl (by omega) (by omega) (by omega) (by omega)
             cases hs2 : skipT L k e (x - 1) with
             | none =>
               rw [hs2] at he1
               refine Ev.bind he1 ?_
               exact evC (fun r => if_neg (by show ¬ (false : Bool) = true; decide)) (Ev.now _)
             | some t =>
               have hvt := hv1 t hs2
               subst hvt
               rw [hs2] at he1
               have hbd := skip_bd k e (x - 1) v1 (.inl hsp.2.2.1) hs2
               refine Ev.bind he1 ?_
               refine evC (g := fun r => loessref6_Rank.l0 r L (n - (x - 1)) h v1 (a + (x - 1)) (64 - (k : Int))) (fun r => if_pos rfl) ?_
               exact ih v1 (n - (x - 1)) (a + (x - 1)) (64 - (k : Int)) rfl (by omega) (by omega) (by omega) (by omega) (by omega) (by omega)
theorem rankF_ev (L : List Bool) (h n : Int) (hl : L.length < 100000000000) (hh0 : 0 ≤ h) (hh1 : h < 18446744073709551616) (h0 : 0 ≤ n) (h1 : n ≤ 4096) : Ev (fun r => loessref6_Rank.f r L n h) (numP (rankI L h n)) := by
 unfold loessref6_Rank.f rankI
 rw [if_neg (by omega)]
 exact rank_ev L h hl hh0 hh1 64 0 n 0 0 rfl (by omega) (by decide) h0 h1 (by decide) (by decide)
end Go.Proofs.Ytkhcmddeeodbkaa.GL
