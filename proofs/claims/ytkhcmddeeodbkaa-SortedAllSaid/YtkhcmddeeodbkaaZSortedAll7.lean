import Derived.Test.YtkhcmddeeodbkaaZSortedAll6
-- Own texts and, of the words that the kit's print program wrote for this claim, those that are needed here: put together by wip/prune.py.
set_option linter.unusedSimpArgs false
set_option linter.unusedVariables false
namespace Go.Proofs.Ytkhcmddeeodbkaa.XSor
open Go.RowKit Go.Proofs.Ytkhcmddeeodbkaa.G Go.Proofs.YtkhcmddeeodbkaaW.PrintWords Go.Proofs.YtkhcmddeeodbkaaW.PrintLast Go.Proofs.YtkhcmddeeodbkaaW.PrintMore
attribute [local go_sem] max2_int min2_int max_two min_two max_three min_three max_four min_four
mutual
def num_Get.l0 : Nat → Int → List Int → Int → Int → Option (Int × Int × Int)
 | 0, _, _, _, _ => none
 | k + 1, x5, x9, x10, x11 => if x11 < x10 then (if 0 ≤ x11 then (if x11 < (x9.length : Int) then (if x11 = 9 then (num_Get.j1 k x5 x11 (rd x9 x11) x9 x10 x11 (decide ((rd x9 x11) > 1))) else (num_Get.j1 k x5 x11 (rd x9 x11) x9 x10 x11 false)) else (none)) else (none)) else (some (0, 0, 2))
def num_Get.j1 : Nat → Int → Int → Int → List Int → Int → Int → Bool → Option (Int × Int × Int)
 | 0, _, _, _, _, _, _, _ => none
 | k + 1, x5, x6, x7, x9, x10, x11, x21 => if x21 = true then (some (0, 0, 1)) else (if 0 ≤ (wrap64 (7 * x6)) then (if x7 > 127 then (num_Get.l0 k (Go.bits .or .u64 x5 (shl .u64 (IntKind.u64.wrap (Go.bits .and .u8 x7 127)) (wrap64 (7 * x6)))) x9 x10 (wrap64 (x11 + 1))) else (if x6 > 0 then (num_Get.j2 k (Go.bits .or .u64 x5 (shl .u64 (IntKind.u64.wrap (Go.bits .and .u8 x7 127)) (wrap64 (7 * x6)))) x6 (x7 == 0)) else (num_Get.j2 k (Go.bits .or .u64 x5 (shl .u64 (IntKind.u64.wrap (Go.bits .and .u8 x7 127)) (wrap64 (7 * x6)))) x6 false))) else (none))
def num_Get.j2 : Nat → Int → Int → Bool → Option (Int × Int × Int)
 | 0, _, _, _ => none
 | k + 1, x5, x6, x37 => if x37 = true then (some (0, 0, 1)) else (if (Go.bits .and .u64 x5 1) = 1 then (some (Go.bits .xor .i64 (-1) (wrap64 (x5 / 2)), wrap64 (x6 + 1), 0)) else (some (wrap64 (x5 / 2), wrap64 (x6 + 1), 0)))
end
def num_Get.f (k : Nat) (l0 : List Int) : Option (Int × Int × Int) := num_Get.l0 k 0 l0 (l0.length : Int) 0
theorem num_Get.mono_l : ∀ k, (∀ y0 y1 y2 y3, LeO (num_Get.l0 k y0 y1 y2 y3) (num_Get.l0 (k + 1) y0 y1 y2 y3)) ∧ (∀ y0 y1 y2 y3 y4 y5 y6, LeO (num_Get.j1 k y0 y1 y2 y3 y4 y5 y6) (num_Get.j1 (k + 1) y0 y1 y2 y3 y4 y5 y6)) ∧ (∀ y0 y1 y2, LeO (num_Get.j2 k y0 y1 y2) (num_Get.j2 (k + 1) y0 y1 y2))
 | 0 => ⟨fun _ _ _ _ r h => by simp [num_Get.l0] at h, fun _ _ _ _ _ _ _ r h => by simp [num_Get.j1] at h, fun _ _ _ r h => by simp [num_Get.j2] at h⟩
 | k + 1 => by
   obtain ⟨ih0, ih1, ih2⟩ := num_Get.mono_l k
   refine ⟨?_, ?_, ?_⟩
   · intro y0 y1 y2 y3
     unfold num_Get.l0
     repeat' first
     | (with_reducible exact ih0 _ _ _ _)
     | (with_reducible exact ih1 _ _ _ _ _ _ _)
     | (with_reducible exact ih2 _ _ _)
     | (with_reducible exact LeO.refl _)
     | (with_reducible exact LeO.none _)
     | (with_reducible refine LeO.ite ?_ ?_)
     | (with_reducible refine LeO.bind ?_ (fun _ => ?_))
     | exact ih0 _ _ _ _
     | exact ih1 _ _ _ _ _ _ _
     | exact ih2 _ _ _
     | exact LeO.none _
     | refine LeO.ite ?_ ?_
     | refine LeO.bind ?_ (fun _ => ?_)
   · intro y0 y1 y2 y3 y4 y5 y6
     unfold num_Get.j1
     repeat' first
     | (with_reducible exact ih0 _ _ _ _)
     | (with_reducible exact ih1 _ _ _ _ _ _ _)
     | (with_reducible exact ih2 _ _ _)
     | (with_reducible exact LeO.refl _)
     | (with_reducible exact LeO.none _)
     | (with_reducible refine LeO.ite ?_ ?_)
     | (with_reducible refine LeO.bind ?_ (fun _ => ?_))
     | exact ih0 _ _ _ _
     | exact ih1 _ _ _ _ _ _ _
     | exact ih2 _ _ _
     | exact LeO.none _
     | refine LeO.ite ?_ ?_
     | refine LeO.bind ?_ (fun _ => ?_)
   · intro y0 y1 y2
     unfold num_Get.j2
     repeat' first
     | (with_reducible exact ih0 _ _ _ _)
     | (with_reducible exact ih1 _ _ _ _ _ _ _)
     | (with_reducible exact ih2 _ _ _)
     | (with_reducible exact LeO.refl _)
     | (with_reducible exact LeO.none _)
     | (with_reducible refine LeO.ite ?_ ?_)
     | (with_reducible refine LeO.bind ?_ (fun _ => ?_))
     | exact ih0 _ _ _ _
     | exact ih1 _ _ _ _ _ _ _
     | exact ih2 _ _ _
     | exact LeO.none _
     | refine LeO.ite ?_ ?_
     | refine LeO.bind ?_ (fun _ => ?_)
theorem num_Get.mono : ∀ a0 k, LeO (num_Get.f k a0) (num_Get.f (k + 1) a0) := by
 intro a0 k
 obtain ⟨ih0, ih1, ih2⟩ := num_Get.mono_l k
 unfold num_Get.f
 repeat' first
     | (with_reducible exact ih0 _ _ _ _)
     | (with_reducible exact ih1 _ _ _ _ _ _ _)
     | (with_reducible exact ih2 _ _ _)
     | (with_reducible exact LeO.refl _)
     | (with_reducible exact LeO.none _)
     | (with_reducible refine LeO.ite ?_ ?_)
     | (with_reducible refine LeO.bind ?_ (fun _ => ?_))
     | exact ih0 _ _ _ _
     | exact ih1 _ _ _ _ _ _ _
     | exact ih2 _ _ _
     | exact LeO.none _
     | refine LeO.ite ?_ ?_
     | refine LeO.bind ?_ (fun _ => ?_)
set_option maxHeartbeats 8000000 in
set_option maxRecDepth 100000 in
theorem num_Get.calls (k : Nat) (A0 : Option Addr) (c0 : Nat) (l0 : List Int) (r1 : Int) (r2 : Int) (r3 : Int) (w : World) (hr0 : Kd.C (Kd.int .u8) w A0 l0.length l0) (hc0 : l0.length ≤ c0) (h : num_Get.f k l0 = some (r1, r2, r3)) :
    Calls Try.prog 48 #[.slice A0 l0.length c0] w fun e w' => e = .returned (.tuple #[.int .i64 r1, .int .i64 r2, .int .i64 r3]) ∧ Drawn0 w w' := by
 have HR0 := Aside0.mk hr0
 have HC0 := Aside0.mk hc0
 clear hr0 hc0
 have H : (num_Get.l0 k 0 l0 (l0.length : Int) 0) = some (r1, r2, r3) := h
 clear h
 have H' := Aside0.mk H
 clear H
 go_enter Try.func48, Try.ntmps48
 go_wp2
 go_loopg [5, 11] k (fun kq v5 v11 w' => ∃ (x5_1 : Int) (x11_1 : Int), v5 = .int .u64 x5_1 ∧ v11 = .int .i64 x11_1 ∧ Aside0 (num_Get.l0 kq x5_1 l0 (l0.length : Int) x11_1 = some (r1, r2, r3)) ∧ Aside0 (kq ≤ k) ∧ Drawn0 w w')
 case atStart => exact ⟨(0), (0), (by first | rfl | (simp; done) | (simp [*]; done)), (by first | rfl | (simp; done) | (simp [*]; done)), H', ⟨Nat.le_refl _⟩, by repeat (first | exact Drawn0.refl _ | apply Drawn0.step)⟩
 case round =>
  clear H'
  obtain ⟨x5_1, x11_1, rfl, rfl, HA, HK1, ⟨m1, rfl⟩⟩ := hrel
  cases gk with
  | zero => exact absurd HA.out (by simp [num_Get.l0])
  | succ k1 =>
    have H := HA.out
    clear HA
    simp only [num_Get.l0] at H
    by_cases c2 : x11_1 < (l0.length : Int)
    · rw [if_pos c2] at H
      have c2b0 : decide (x11_1 < (l0.length : Int)) = true := decide_eq_true c2
      clear c2
      by_cases c3 : 0 ≤ x11_1
      · rw [if_pos c3] at H
        have c3b0 : decide (0 ≤ x11_1) = true := decide_eq_true c3
        clear c3
        by_cases c4 : x11_1 < (l0.length : Int)
        · rw [if_pos c4] at H
          have c4b0 : decide (x11_1 < (l0.length : Int)) = true := decide_eq_true c4
          clear c4
          have HC5 := Aside0.mk H
          clear H
          have p247 : 0 ≤ (x11_1 : Int) := of_decide_eq_true (by first | (with_reducible assumption) | assumption)
          have q247 : x11_1 < (l0.length : Int) := of_decide_eq_true (by first | (with_reducible assumption) | assumption)
          obtain ⟨ad247, e247, hx247_0⟩ := Kd.at_int HR0.out x11_1 p247 q247
          cases e247
          replace p247 := eq_true p247
          replace q247 := eq_true q247
          go_upto_region 5 with (fail)
          go_cut [21] (fun v21 wc => ∃ (kq : Nat) (x21_4 : Bool), v21 = .bool x21_4 ∧ Aside0 (num_Get.j1 kq x5_1 x11_1 (rd l0 x11_1) l0 (l0.length : Int) x11_1 x21_4 = some (r1, r2, r3)) ∧ Aside0 (kq ≤ k1) ∧ Drawn0 w wc)
          case first =>
           have H := HC5.out
           clear HC5
           by_cases c6 : x11_1 = 9
           · rw [if_pos c6] at H
             have c6b0 : (x11_1 == 9) = true := beq_iff_eq.mpr c6
             have c6b1 : (x11_1 != 9) = false := bne_eq_false_iff_eq.mpr c6
             clear c6
             (first | rw [c6b0] | (simp only [i64_w, i32_w]; rw [c6b0]) | skip)
             have H' := Aside0.mk H
             clear H
             go_wp2
             go_meet
             case rel => exact ⟨_, (decide ((rd l0 x11_1) > 1)), (by first | rfl | (simp; done) | (simp [*]; done)), H', ⟨by have := HK1.out; first | omega | exact Nat.le_refl _⟩, by repeat (first | exact Drawn0.refl _ | apply Drawn0.step)⟩
           · rw [if_neg c6] at H
             have c6b0 : (x11_1 == 9) = false := beq_eq_false_iff_ne.mpr c6
             have c6b1 : (x11_1 != 9) = true := bne_iff_ne.mpr c6
             (first | rw [c6b0] | (simp only [i64_w, i32_w]; rw [c6b0]) | skip)
             have H' := Aside0.mk H
             clear H
             go_wp2
             go_meet
             case rel => exact ⟨_, (false), (by first | rfl | (simp; done) | (simp [*]; done)), H', ⟨by have := HK1.out; first | omega | exact Nat.le_refl _⟩, by repeat (first | exact Drawn0.refl _ | apply Drawn0.step)⟩
          case rest =>
           clear HC5
           try clear c2
           try clear c2b0
           try clear p2
           try clear q2
           try clear hx2
           try clear c3
           try clear c3b0
           try clear c4
           try clear c4b0
           try clear c6
           try clear c6b0
           try clear c6b1
           try clear hx247_0
           try clear p247
           try clear q247
           obtain ⟨kq, x21_4, rfl, HA, HJ4, ⟨mc4, rfl⟩⟩ := hcut
           cases kq with
           | zero => exact absurd HA.out (by simp [num_Get.j1])
           | succ kj4 =>
             have H := HA.out
             clear HA
             simp only [num_Get.j1] at H
             by_cases c7 : x21_4 = true
             · subst c7
               have H1 : (some (0, 0, 1)) = some (r1, r2, r3) := by rw [if_pos rfl] at H; exact H
               clear H
               have H := H1
               clear H1
               simp only [Option.some.injEq, Prod.mk.injEq] at H
               obtain ⟨rfl, rfl, rfl⟩ := H
               go_wp2
               go_ret3
               exact ⟨by first | rfl | (simp; done) | (simp [*]; done), by repeat (first | exact Drawn0.refl _ | apply Drawn0.step)⟩
             · replace c7 := Bool.eq_false_iff.mpr c7
               subst c7
               have H1 : (if 0 ≤ (wrap64 (7 * x11_1)) then (if (rd l0 x11_1) > 127 then (num_Get.l0 kj4 (Go.bits .or .u64 x5_1 (shl .u64 (IntKind.u64.wrap (Go.bits .and .u8 (rd l0 x11_1) 127)) (wrap64 (7 * x11_1)))) l0 (l0.length : Int) (wrap64 (x11_1 + 1))) else (if x11_1 > 0 then (num_Get.j2 kj4 (Go.bits .or .u64 x5_1 (shl .u64 (IntKind.u64.wrap (Go.bits .and .u8 (rd l0 x11_1) 127)) (wrap64 (7 * x11_1)))) x11_1 ((rd l0 x11_1) == 0)) else (num_Get.j2 kj4 (Go.bits .or .u64 x5_1 (shl .u64 (IntKind.u64.wrap (Go.bits .and .u8 (rd l0 x11_1) 127)) (wrap64 (7 * x11_1)))) x11_1 false))) else (none)) = some (r1, r2, r3) := by rw [if_neg (show ¬ (false = true) by decide)] at H; exact H
               clear H
               have H := H1
               clear H1
               obtain ⟨ji8, hji8⟩ : ∃ j_ : Int, (wrap64 (7 * x11_1)) = j_ := ⟨_, rfl⟩
               replace H : (if 0 ≤ (ji8) then (if (rd l0 x11_1) > 127 then (num_Get.l0 kj4 (Go.bits .or .u64 x5_1 (shl .u64 (IntKind.u64.wrap (Go.bits .and .u8 (rd l0 x11_1) 127)) (ji8))) l0 (l0.length : Int) (wrap64 (x11_1 + 1))) else (if x11_1 > 0 then (num_Get.j2 kj4 (Go.bits .or .u64 x5_1 (shl .u64 (IntKind.u64.wrap (Go.bits .and .u8 (rd l0 x11_1) 127)) (ji8))) x11_1 ((rd l0 x11_1) == 0)) else (num_Get.j2 kj4 (Go.bits .or .u64 x5_1 (shl .u64 (IntKind.u64.wrap (Go.bits .and .u8 (rd l0 x11_1) 127)) (ji8))) x11_1 false))) else (none)) = some (r1, r2, r3) := by first | (rw [hji8] at H; exact H) | (simp only [hji8] at H ⊢; exact H)
               have hji8w : (IntKind.i64.wrap (7 * x11_1)) = ji8 := (i64_w _).trans hji8
               by_cases c9 : 0 ≤ (ji8)
               · rw [if_pos c9] at H
                 have c9b0 := eq_true c9
                 have c9b1 : decide (0 ≤ (ji8)) = true := decide_eq_true c9
                 clear c9
                 obtain ⟨ji10, hji10⟩ : ∃ j_ : Int, (shl .u64 (IntKind.u64.wrap (Go.bits .and .u8 (rd l0 x11_1) 127)) (ji8)) = j_ := ⟨_, rfl⟩
                 replace H : (if (rd l0 x11_1) > 127 then (num_Get.l0 kj4 (Go.bits .or .u64 x5_1 (ji10)) l0 (l0.length : Int) (wrap64 (x11_1 + 1))) else (if x11_1 > 0 then (num_Get.j2 kj4 (Go.bits .or .u64 x5_1 (ji10)) x11_1 ((rd l0 x11_1) == 0)) else (num_Get.j2 kj4 (Go.bits .or .u64 x5_1 (ji10)) x11_1 false))) = some (r1, r2, r3) := by first | (rw [hji10] at H; exact H) | (simp only [hji10] at H ⊢; exact H)
                 have hji10_ : (IntKind.u64.wrap ((IntKind.u64.wrap (Go.bits .and .u8 (rd l0 x11_1) 127)) * 2 ^ min (ji8).toNat 64)) = ji10 := hji10
                 have hji10z : (ji8) ≤ 64 → (IntKind.u64.wrap ((IntKind.u64.wrap (Go.bits .and .u8 (rd l0 x11_1) 127)) * 2 ^ (ji8).toNat)) = ji10 := shl_small hji10
                 by_cases c11 : (rd l0 x11_1) > 127
                 · rw [if_pos c11] at H
                   have c11b0 : decide (127 < (rd l0 x11_1)) = true := decide_eq_true c11
                   clear c11
                   have H' := Aside0.mk H
                   clear H
                   go_wp2
                   go_roundg kj4
                   case measure => have := HK1.out; have := HJ4.out; omega
                   case rel => exact ⟨(Go.bits .or .u64 x5_1 (ji10)), (wrap64 (x11_1 + 1)), (by first | rfl | (simp; done) | (simp only [← hji10] <;> (first | rfl | simp)) | (simp [*]; done)), (by first | rfl | (simp; done) | (simp [*]; done)), H', ⟨by have := HK1.out; have := HJ4.out; omega⟩, by repeat (first | exact Drawn0.refl _ | apply Drawn0.step)⟩
                 · rw [if_neg c11] at H
                   have c11b0 : decide (127 < (rd l0 x11_1)) = false := decide_eq_false c11
                   clear c11
                   have HC12 := Aside0.mk H
                   clear H
                   go_upto_region 9 with (fail)
                   go_cut [37] (fun v37 wc => ∃ (kq : Nat) (x37_11 : Bool), v37 = .bool x37_11 ∧ Aside0 (num_Get.j2 kq (Go.bits .or .u64 x5_1 (ji10)) x11_1 x37_11 = some (r1, r2, r3)) ∧ Aside0 (kq ≤ kj4) ∧ Drawn0 w wc)
                   case first =>
                    have H := HC12.out
                    clear HC12
                    by_cases c13 : x11_1 > 0
                    · rw [if_pos c13] at H
                      have c13b0 : decide (0 < x11_1) = true := decide_eq_true c13
                      clear c13
                      (first | rw [c13b0] | (simp only [i64_w, i32_w]; rw [c13b0]) | skip)
                      have H' := Aside0.mk H
                      clear H
                      go_wp2
                      go_meet
                      case rel => exact ⟨_, (((rd l0 x11_1) == 0)), (by first | rfl | (simp; done) | (simp [*]; done)), H', ⟨by have := HK1.out; have := HJ4.out; first | omega | exact Nat.le_refl _⟩, by repeat (first | exact Drawn0.refl _ | apply Drawn0.step)⟩
                    · rw [if_neg c13] at H
                      have c13b0 : decide (0 < x11_1) = false := decide_eq_false c13
                      clear c13
                      (first | rw [c13b0] | (simp only [i64_w, i32_w]; rw [c13b0]) | skip)
                      have H' := Aside0.mk H
                      clear H
                      go_wp2
                      go_meet
                      case rel => exact ⟨_, (false), (by first | rfl | (simp; done) | (simp [*]; done)), H', ⟨by have := HK1.out; have := HJ4.out; first | omega | exact Nat.le_refl _⟩, by repeat (first | exact Drawn0.refl _ | apply Drawn0.step)⟩
                   case rest =>
                    clear HC12
                    try clear c1
                    try clear c2
                    try clear c2b0
                    try clear p2
                    try clear q2
                    try clear hx2
                    try clear c3
                    try clear c3b0
                    try clear c4
                    try clear c4b0
                    try clear c6
                    try clear c6b0
                    try clear c6b1
                    try clear p6
                    try clear c7
                    try clear c9
                    try clear c9b0
                    try clear c9b1
                    try clear c11
                    try clear c11b0
                    try clear c13
                    try clear c13b0
                    try clear hx247_0
                    try clear p2
                    try clear p247
                    try clear q2
                    try clear q247
                    obtain ⟨kq, x37_11, rfl, HA, HJ11, ⟨mc11, rfl⟩⟩ := hcut
                    cases kq with
                    | zero => exact absurd HA.out (by simp [num_Get.j2])
                    | succ kj11 =>
                      have H := HA.out
                      clear HA
                      simp only [num_Get.j2] at H
                      by_cases c14 : x37_11 = true
                      · subst c14
                        have H1 : (some (0, 0, 1)) = some (r1, r2, r3) := by rw [if_pos rfl] at H; exact H
                        clear H
                        have H := H1
                        clear H1
                        simp only [Option.some.injEq, Prod.mk.injEq] at H
                        obtain ⟨rfl, rfl, rfl⟩ := H
                        go_wp2
                        go_ret3
                        exact ⟨by first | rfl | (simp; done) | (simp only [← hji8, ← hji10] <;> (first | rfl | simp)) | (simp [*]; done), by repeat (first | exact Drawn0.refl _ | apply Drawn0.step)⟩
                      · replace c14 := Bool.eq_false_iff.mpr c14
                        subst c14
                        have H1 : (if (Go.bits .and .u64 (Go.bits .or .u64 x5_1 (ji10)) 1) = 1 then (some (Go.bits .xor .i64 (-1) (wrap64 ((Go.bits .or .u64 x5_1 (ji10)) / 2)), wrap64 (x11_1 + 1), 0)) else (some (wrap64 ((Go.bits .or .u64 x5_1 (ji10)) / 2), wrap64 (x11_1 + 1), 0))) = some (r1, r2, r3) := by rw [if_neg (show ¬ (false = true) by decide)] at H; exact H
                        clear H
                        have H := H1
                        clear H1
                        by_cases c15 : (Go.bits .and .u64 (Go.bits .or .u64 x5_1 (ji10)) 1) = 1
                        · rw [if_pos c15] at H
                          have c15b0 : ((Go.bits .and .u64 (Go.bits .or .u64 x5_1 (ji10)) 1) == 1) = true := beq_iff_eq.mpr c15
                          have c15b1 : ((Go.bits .and .u64 (Go.bits .or .u64 x5_1 (ji10)) 1) != 1) = false := bne_eq_false_iff_eq.mpr c15
                          clear c15
                          simp only [Option.some.injEq, Prod.mk.injEq] at H
                          obtain ⟨rfl, rfl, rfl⟩ := H
                          go_wp2
                          go_ret3
                          exact ⟨by first | rfl | (simp; done) | (simp only [← hji8, ← hji10] <;> (first | rfl | simp)) | (simp [*]; done), by repeat (first | exact Drawn0.refl _ | apply Drawn0.step)⟩
                        · rw [if_neg c15] at H
                          have c15b0 : ((Go.bits .and .u64 (Go.bits .or .u64 x5_1 (ji10)) 1) == 1) = false := beq_eq_false_iff_ne.mpr c15
                          have c15b1 : ((Go.bits .and .u64 (Go.bits .or .u64 x5_1 (ji10)) 1) != 1) = true := bne_iff_ne.mpr c15
                          simp only [Option.some.injEq, Prod.mk.injEq] at H
                          obtain ⟨rfl, rfl, rfl⟩ := H
                          go_wp2
                          go_ret3
                          exact ⟨by first | rfl | (simp; done) | (simp only [← hji8, ← hji10] <;> (first | rfl | simp)) | (simp [*]; done), by repeat (first | exact Drawn0.refl _ | apply Drawn0.step)⟩
               · rw [if_neg c9] at H
                 exact absurd H (by simp)
        · rw [if_neg c4] at H
          exact absurd H (by simp)
      · rw [if_neg c3] at H
        exact absurd H (by simp)
    · rw [if_neg c2] at H
      have c2b0 : decide (x11_1 < (l0.length : Int)) = false := decide_eq_false c2
      clear c2
      simp only [Option.some.injEq, Prod.mk.injEq] at H
      obtain ⟨rfl, rfl, rfl⟩ := H
      go_wp2
      go_ret3
      exact ⟨by first | rfl | (simp; done) | (simp [*]; done), by repeat (first | exact Drawn0.refl _ | apply Drawn0.step)⟩
end Go.Proofs.Ytkhcmddeeodbkaa.XSor
namespace Go.Proofs.Ytkhcmddeeodbkaa.XSor
open Go.RowKit Go.Proofs.Ytkhcmddeeodbkaa.G Go.Proofs.YtkhcmddeeodbkaaW.PrintWords Go.Proofs.YtkhcmddeeodbkaaW.PrintLast Go.Proofs.YtkhcmddeeodbkaaW.PrintMore
attribute [local go_sem] max2_int min2_int max_two min_two max_three min_three max_four min_four
def num_GetText.j0 : Nat → List Int → Int → Int → Bool → Option (ByteArray × Int × Int)
 | 0, _, _, _, _ => none
 | k + 1, x0, x5, x6, x18 => if x18 = true then (some ((⟨#[]⟩ : ByteArray), 0, 1)) else (if x5 > (wrap64 ((x0.length : Int) - x6)) then (some ((⟨#[]⟩ : ByteArray), 0, 2)) else (if 0 ≤ x6 then (if x6 ≤ (wrap64 (x6 + x5)) then (if (wrap64 (x6 + x5)) ≤ (x0.length : Int) then (some (strOfNums ((x0.take ((wrap64 (x6 + x5)) : Int).toNat).drop (x6 : Int).toNat), wrap64 (x6 + x5), 0)) else (none)) else (none)) else (none)))
def num_GetText.f (k : Nat) (l0 : List Int) : Option (ByteArray × Int × Int) := (num_Get.f k l0).bind fun bt248 => (if bt248.2.2 = 0 then (if bt248.1 < 0 then (num_GetText.j0 k l0 bt248.1 bt248.2.1 true) else (num_GetText.j0 k l0 bt248.1 bt248.2.1 (decide (bt248.1 > 65536)))) else (some ((⟨#[]⟩ : ByteArray), 0, bt248.2.2)))
theorem num_GetText.mono_l : ∀ k, (∀ y0 y1 y2 y3, LeO (num_GetText.j0 k y0 y1 y2 y3) (num_GetText.j0 (k + 1) y0 y1 y2 y3))
 | 0 => fun _ _ _ _ r h => by simp [num_GetText.j0] at h
 | k + 1 => by
   have ih0 := num_GetText.mono_l k
   · intro y0 y1 y2 y3
     unfold num_GetText.j0
     repeat' first
     | (with_reducible exact ih0 _ _ _ _)
     | (with_reducible exact num_Get.mono _ _)
     | (with_reducible exact LeO.refl _)
     | (with_reducible exact LeO.none _)
     | (with_reducible refine LeO.ite ?_ ?_)
     | (with_reducible refine LeO.bind ?_ (fun _ => ?_))
     | exact ih0 _ _ _ _
     | exact num_Get.mono _ _
     | exact LeO.none _
     | refine LeO.ite ?_ ?_
     | refine LeO.bind ?_ (fun _ => ?_)
theorem num_GetText.mono : ∀ a0 k, LeO (num_GetText.f k a0) (num_GetText.f (k + 1) a0) := by
 intro a0 k
 have ih0 := num_GetText.mono_l k
 unfold num_GetText.f
 repeat' first
     | (with_reducible exact ih0 _ _ _ _)
     | (with_reducible exact num_Get.mono _ _)
     | (with_reducible exact LeO.refl _)
     | (with_reducible exact LeO.none _)
     | (with_reducible refine LeO.ite ?_ ?_)
     | (with_reducible refine LeO.bind ?_ (fun _ => ?_))
     | exact ih0 _ _ _ _
     | exact num_Get.mono _ _
     | exact LeO.none _
     | refine LeO.ite ?_ ?_
     | refine LeO.bind ?_ (fun _ => ?_)
set_option maxHeartbeats 8000000 in
set_option maxRecDepth 100000 in
theorem num_GetText.calls (k : Nat) (A0 : Option Addr) (c0 : Nat) (l0 : List Int) (r1 : ByteArray) (r2 : Int) (r3 : Int) (w : World) (hr0 : Kd.C (Kd.int .u8) w A0 l0.length l0) (hc0 : l0.length ≤ c0) (h : num_GetText.f k l0 = some (r1, r2, r3)) :
    Calls Try.prog 68 #[.slice A0 l0.length c0] w fun e w' => e = .returned (.tuple #[.string r1, .int .i64 r2, .int .i64 r3]) ∧ Drawn0 w w' := by
 have HR0 := Aside0.mk hr0
 have HC0 := Aside0.mk hc0
 clear hr0 hc0
 have H : ((num_Get.f k l0).bind fun bt248 => (if bt248.2.2 = 0 then (if bt248.1 < 0 then (num_GetText.j0 k l0 bt248.1 bt248.2.1 true) else (num_GetText.j0 k l0 bt248.1 bt248.2.1 (decide (bt248.1 > 65536)))) else (some ((⟨#[]⟩ : ByteArray), 0, bt248.2.2)))) = some (r1, r2, r3) := h
 clear h
 replace H := Option.bind_eq_some_iff.mp H
 obtain ⟨⟨t248, t249, t250⟩, A20, H⟩ := H
 replace H : (if t250 = 0 then (if t248 < 0 then (num_GetText.j0 k l0 t248 t249 true) else (num_GetText.j0 k l0 t248 t249 (decide (t248 > 65536)))) else (some ((⟨#[]⟩ : ByteArray), 0, t250))) = some (r1, r2, r3) := H
 have A2 := Aside0.mk A20
 clear A20
 by_cases c3 : t250 = 0
 · rw [if_pos c3] at H
   have c3b0 : (t250 == 0) = true := beq_iff_eq.mpr c3
   have c3b1 : (t250 != 0) = false := bne_eq_false_iff_eq.mpr c3
   clear c3
   have HC4 := Aside0.mk H
   clear H
   go_enter Try.func68, Try.ntmps68
   go_upto_region 4 with (first | ((with_reducible refine gate_callee (f := 48) rfl ?_); refine goesL_ (some 10) rfl rfl Try.func48 (by kernel_rfl) rfl #[.slice A0 l0.length c0] rfl (by (try simp only [List.map_toArray, List.map_cons, List.map_nil]); first | done | rfl | (simp only [List.length_drop, List.length_take]; rfl)) ?_; (with_reducible refine (num_Get.calls k _ _ l0 t248 t249 t250 _ ?side1 ?side2 A2.out).mono ?_); (case side1 => repeat (first | exact HR0.out | (with_reducible refine Kd.C_alloc ?_ _) | (with_reducible refine Kd.C_drewN ?_ _) | (with_reducible refine Kd.C_drew ?_))); (case side2 => exact HC0.out); rintro e w' ⟨rfl, ⟨nd, rfl⟩⟩; refine ⟨_, rfl, ?_⟩))
   (try simp only [Act.put, List.setIfInBounds_toArray, List.set_cons_zero, List.set_cons_succ])
   go_cut [18] (fun v18 wc => ∃ (kq : Nat) (x18_3 : Bool), v18 = .bool x18_3 ∧ Aside0 (num_GetText.j0 kq l0 t248 t249 x18_3 = some (r1, r2, r3)) ∧ Aside0 (kq ≤ k) ∧ Drawn0 w wc)
   case first =>
    have H := HC4.out
    clear HC4
    by_cases c5 : t248 < 0
    · rw [if_pos c5] at H
      have c5b0 : decide (t248 < 0) = true := decide_eq_true c5
      clear c5
      (first | rw [c5b0] | (simp only [i64_w, i32_w]; rw [c5b0]) | skip)
      have H' := Aside0.mk H
      clear H
      go_wp2
      go_meet
      case rel => exact ⟨_, (true), (by first | rfl | (simp; done) | (simp [*]; done)), H', ⟨by first | omega | exact Nat.le_refl _⟩, by repeat (first | exact Drawn0.refl _ | apply Drawn0.step)⟩
    · rw [if_neg c5] at H
      have c5b0 : decide (t248 < 0) = false := decide_eq_false c5
      clear c5
      (first | rw [c5b0] | (simp only [i64_w, i32_w]; rw [c5b0]) | skip)
      have H' := Aside0.mk H
      clear H
      go_wp2
      go_meet
      case rel => exact ⟨_, (decide (t248 > 65536)), (by first | rfl | (simp; done) | (simp [*]; done)), H', ⟨by first | omega | exact Nat.le_refl _⟩, by repeat (first | exact Drawn0.refl _ | apply Drawn0.step)⟩
   case rest =>
    clear HC4
    try clear p2
    try clear c3
    try clear c3b0
    try clear c3b1
    try clear c4
    try clear c5
    try clear c5b0
    obtain ⟨kq, x18_3, rfl, HA, HJ3, ⟨mc3, rfl⟩⟩ := hcut
    cases kq with
    | zero => exact absurd HA.out (by simp [num_GetText.j0])
    | succ kj3 =>
      have H := HA.out
      clear HA
      simp only [num_GetText.j0] at H
      by_cases c6 : x18_3 = true
      · subst c6
        have H1 : (some ((⟨#[]⟩ : ByteArray), 0, 1)) = some (r1, r2, r3) := by rw [if_pos rfl] at H; exact H
        clear H
        have H := H1
        clear H1
        simp only [Option.some.injEq, Prod.mk.injEq] at H
        obtain ⟨rfl, rfl, rfl⟩ := H
        go_wp2
        go_ret3
        exact ⟨by first | rfl | (simp; done) | (simp [*]; done), by repeat (first | exact Drawn0.refl _ | apply Drawn0.step)⟩
      · replace c6 := Bool.eq_false_iff.mpr c6
        subst c6
        have H1 : (if t248 > (wrap64 ((l0.length : Int) - t249)) then (some ((⟨#[]⟩ : ByteArray), 0, 2)) else (if 0 ≤ t249 then (if t249 ≤ (wrap64 (t249 + t248)) then (if (wrap64 (t249 + t248)) ≤ (l0.length : Int) then (some (strOfNums ((l0.take ((wrap64 (t249 + t248)) : Int).toNat).drop (t249 : Int).toNat), wrap64 (t249 + t248), 0)) else (none)) else (none)) else (none))) = some (r1, r2, r3) := by rw [if_neg (show ¬ (false = true) by decide)] at H; exact H
        clear H
        have H := H1
        clear H1
        by_cases c7 : t248 > (wrap64 ((l0.length : Int) - t249))
        · rw [if_pos c7] at H
          have c7b0 : decide ((wrap64 ((l0.length : Int) - t249)) < t248) = true := decide_eq_true c7
          clear c7
          simp only [Option.some.injEq, Prod.mk.injEq] at H
          obtain ⟨rfl, rfl, rfl⟩ := H
          go_wp2
          go_ret3
          exact ⟨by first | rfl | (simp; done) | (simp [*]; done), by repeat (first | exact Drawn0.refl _ | apply Drawn0.step)⟩
        · rw [if_neg c7] at H
          have c7b0 : decide ((wrap64 ((l0.length : Int) - t249)) < t248) = false := decide_eq_false c7
          clear c7
          by_cases c8 : 0 ≤ t249
          · rw [if_pos c8] at H
            have c8b0 := eq_true c8
            have c8b1 : decide (0 ≤ t249) = true := decide_eq_true c8
            clear c8
            by_cases c9 : t249 ≤ (wrap64 (t249 + t248))
            · rw [if_pos c9] at H
              have c9b0 := eq_true c9
              have c9b1 : decide (t249 ≤ (wrap64 (t249 + t248))) = true := decide_eq_true c9
              by_cases c10 : (wrap64 (t249 + t248)) ≤ (l0.length : Int)
              · rw [if_pos c10] at H
                have c10b0 := eq_true c10
                have c10b1 : decide ((wrap64 (t249 + t248)) ≤ (l0.length : Int)) = true := decide_eq_true c10
                obtain ⟨y251, hy251⟩ : ∃ y_ : List Int, y_ = ((l0.take ((wrap64 (t249 + t248)) : Int).toNat).drop (t249 : Int).toNat) := ⟨_, rfl⟩
                replace H : (some (strOfNums y251, wrap64 (t249 + t248), 0)) = some (r1, r2, r3) := by first | (rw [hy251]; with_reducible exact H) | (have H2_ := (Option.bind_some _ _).symm.trans H; rw [hy251]; with_reducible exact H2_) | (have H2_ := (Option.bind_some _ _).symm.trans H; with_reducible exact H2_) | with_reducible exact H | (rw [hy251]; exact H) | exact H
                have Ny251 := Aside0.mk hy251
                clear hy251
                simp only [Option.some.injEq, Prod.mk.injEq] at H
                obtain ⟨rfl, rfl, rfl⟩ := H
                have q11 : ((wrap64 (t249 + t248)) : Int) ≤ ((l0.length : Int) : Int) := of_decide_eq_true (by first | (with_reducible assumption) | assumption)
                obtain ⟨i011, hi011, _, hsz11, _⟩ := info_parts info5
                have hroom11 : l0.length ≤ c0 := HC0.out
                have hC11 : Kd.C (Kd.int .u8) _ A0 l0.length l0 := HR0.out
                have ql11 : (t249 : Int) ≤ ((wrap64 (t249 + t248)) : Int) := of_decide_eq_true (by first | (with_reducible assumption) | assumption)
                have q011 : (0 : Int) ≤ (t249 : Int) := of_decide_eq_true (by first | (with_reducible assumption) | assumption)
                have hcut11 := cut_mid (P := Try.prog) 40 5 .i64 .i64 Try.underlying40 hi011 1 hsz11 A0 l0.length c0 t249 (wrap64 (t249 + t248)) q011 ql11 q11 hroom11
                have hr11 := Kd.C_mid (lo := (t249 : Int).toNat) (hi := ((wrap64 (t249 + t248)) : Int).toNat) (c := c0) hC11 (by omega) (by omega) hroom11
                obtain ⟨A11, hA11⟩ : ∃ A1, A1 = (if c0 = (t249 : Int).toNat then A0 else (A0 : Option Addr).map (·.add ((t249 : Int).toNat * 1))) := ⟨_, rfl⟩
                obtain ⟨c11, hc11⟩ : ∃ c1, c1 = c0 - (t249 : Int).toNat := ⟨_, rfl⟩
                have hy11 : y251.length = ((wrap64 (t249 + t248)) : Int).toNat - (t249 : Int).toNat := (by rw [Ny251.out, List.length_drop, List.length_take] <;> omega)
                rw [show ((l0).take ((wrap64 (t249 + t248)) : Int).toNat).drop (t249 : Int).toNat = y251 from Ny251.out.symm] at hr11
                replace hr11 : Kd.C (Kd.int .u8) _ A11 y251.length y251 := (by rw [hA11]; exact hr11)
                rw [← hy11, ← hA11, ← hc11] at hcut11
                have HR254 := Aside0.mk hr11
                have HC254 := Aside0.mk (show y251.length ≤ c11 from by rw [hy11, hc11]; exact Nat.sub_le_sub_right (Nat.le_trans (by omega) hroom11) _)
                clear hr11 hC11 hroom11 hi011 hsz11 hc11
                have KY11 := Aside0.mk hy11
                have KA11 := Aside0.mk hA11
                clear hy11 hA11
                replace q11 := eq_true q11
                have hcv12 := Kd.C_string (P := Try.prog) (A := A11) (c := c11) Try.underlying40 Try.underlying5 Try.underlying9 HR254.out
                have hcvz12 := fun m_ : Nat => Kd.C_string (P := Try.prog) (A := A11) (c := c11) Try.underlying40 Try.underlying5 Try.underlying9 (Kd.C_drewN HR254.out m_)
                go_wp2
                go_ret3
                exact ⟨by first | rfl | (simp; done) | (simp [*]; done), by repeat (first | exact Drawn0.refl _ | apply Drawn0.step)⟩
              · rw [if_neg c10] at H
                exact absurd H (by simp)
            · rw [if_neg c9] at H
              exact absurd H (by simp)
          · rw [if_neg c8] at H
            exact absurd H (by simp)
 · rw [if_neg c3] at H
   have c3b0 : (t250 == 0) = false := beq_eq_false_iff_ne.mpr c3
   have c3b1 : (t250 != 0) = true := bne_iff_ne.mpr c3
   simp only [Option.some.injEq, Prod.mk.injEq] at H
   obtain ⟨rfl, rfl, rfl⟩ := H
   go_enter Try.func68, Try.ntmps68
   go_wp2_with (first | ((with_reducible refine gate_callee (f := 48) rfl ?_); refine goesL_ (some 10) rfl rfl Try.func48 (by kernel_rfl) rfl #[.slice A0 l0.length c0] rfl (by (try simp only [List.map_toArray, List.map_cons, List.map_nil]); first | done | rfl | (simp only [List.length_drop, List.length_take]; rfl)) ?_; (with_reducible refine (num_Get.calls k _ _ l0 t248 t249 t250 _ ?side1 ?side2 A2.out).mono ?_); (case side1 => repeat (first | exact HR0.out | (with_reducible refine Kd.C_alloc ?_ _) | (with_reducible refine Kd.C_drewN ?_ _) | (with_reducible refine Kd.C_drew ?_))); (case side2 => exact HC0.out); rintro e w' ⟨rfl, ⟨nd, rfl⟩⟩; refine ⟨_, rfl, ?_⟩))
   go_ret3
   exact ⟨by first | rfl | (simp; done) | (simp [*]; done), by repeat (first | exact Drawn0.refl _ | apply Drawn0.step)⟩
end Go.Proofs.Ytkhcmddeeodbkaa.XSor
namespace Go.Proofs.Ytkhcmddeeodbkaa.Q
open Go.RowKit Go.Proofs.YtkhcmddeeodbkaaW.PrintWords Go.Proofs.YtkhcmddeeodbkaaW.PrintMore Go.Proofs.Ytkhcmddeeodbkaa.XSor
theorem zig_bits {n : Int} (h : I64 n) : (if n < 0 then Go.bits .xor .u64 18446744073709551615 (IntKind.u64.wrap (IntKind.u64.wrap n * 2)) else IntKind.u64.wrap (IntKind.u64.wrap n * 2)) = (zig n : Int) := by
 unfold I64 at h
 unfold zig
 split
 · rw [u64_mod, u64_mod, not_u64 (by omega) (by omega)]
   omega
 · rw [u64_mod, u64_mod]
   omega
theorem num_Put_l (u : Nat) : ∀ l : List Int, l.length + (putU u).length ≤ 140737488355328 → Ev (fun k => num_Put.l0 k l (u : Int)) (l ++ putU u) := by
 induction u using Nat.strongRecOn with
 | _ u ih =>
   intro l hl
   by_cases h : u < 128
   · rw [putU_lt h] at hl ⊢
     refine Ev.step (f := fun _ => some (l ++ [(u : Int)])) (fun k => ?_) (Ev.now _)
     simp only [num_Put.l0]
     simp only [List.length_cons, List.length_nil] at hl
     rw [if_neg (by omega), if_pos (by omega), show (u : Int) % 256 = u by omega]
   · rw [putU_ge h] at hl ⊢
     simp only [List.length_cons] at hl
     refine Ev.step (f := fun k => num_Put.l0 k (l ++ [((u % 128 + 128 : Nat) : Int)]) ((u / 128 : Nat) : Int)) (fun k => ?_) ?_
     · simp only [num_Put.l0]
       rw [if_pos (by omega), if_pos (by omega), or128 (by omega) (by omega)]
       rw [show ((u : Int) % 256) % 128 + 128 = ((u % 128 + 128 : Nat) : Int) by omega, show (u : Int) / 128 = ((u / 128 : Nat) : Int) by omega]
     · refine evEq (ih (u / 128) (by omega) (l ++ [((u % 128 + 128 : Nat) : Int)]) (by simp only [List.length_append, List.length_cons, List.length_nil]; omega)) ?_
       rw [List.append_assoc]
       rfl
theorem num_Put_ev {n : Int} (h : I64 n) (l : List Int) (hl : l.length + 10 ≤ 140737488355328) : Ev (fun k => num_Put.f k l n) (l ++ putN n) := by
 have hz := zig_bits h
 have := putN_len h
 have h1 : Ev (fun k => num_Put.j0 k l (zig n : Int)) (l ++ putN n) := Ev.step (fun k => by simp only [num_Put.j0]) (num_Put_l (zig n) l (by unfold putN at this; omega))
 refine Ev.congr (fun k => ?_) h1
 unfold num_Put.f
 split
 · rename_i hn; rw [if_pos hn] at hz; rw [hz]
 · rename_i hn; rw [if_neg hn] at hz; rw [hz]
theorem num_PutText_ev {s : ByteArray} (h : s.size ≤ 70368744177664) (l : List Int) (hl : l.length ≤ 35184372088832) : Ev (fun k => num_PutText.f k l s) (l ++ putT s) := by
 have hi : I64 (s.size : Int) := by unfold I64; omega
 have := putN_len hi
 have h2 : Ev (fun _ => if (l ++ putN (s.size : Int)).length + s.size < 140737488355328 then some ((l ++ putN (s.size : Int)) ++ bytesOf s) else none) ((l ++ putN (s.size : Int)) ++ bytesOf s) :=
  evC (if_pos (by simp only [List.length_append]; omega))
 refine evEq (Ev.bind (num_Put_ev hi l (by omega)) h2) ?_
 unfold putT
 rw [List.append_assoc]
theorem num_Get_l : ∀ (r pre : List Int) (u : Int), Byt (pre ++ r) → (pre ++ r).length < 9223372036854775800 → pre.length ≤ 9 → 0 ≤ u → u < 128 ^ pre.length →
    Ev (fun k => num_Get.l0 k u (pre ++ r) ((pre ++ r).length : Int) (pre.length : Int)) (ug r pre.length u) := by
 intro r
 induction r with
 | nil =>
   intro pre u hb hl hi h0 h1
   refine Ev.step (f := fun _ => some (0, 0, 2)) (fun k => ?_) (Ev.now _)
   simp only [num_Get.l0]
   rw [if_neg (by simp)]
 | cons c r ih =>
   intro pre u hb hl hi h0 h1
   have hc := hb.right.head
   have hll : (pre ++ c :: r).length = pre.length + r.length + 1 := by simp; omega
   have hlt : (pre.length : Int) < ((pre ++ c :: r).length : Int) := by omega
   have hpp := p128 pre.length
   have e7 : wrap64 (7 * (pre.length : Int)) = 7 * pre.length := w64 (by omega) (by omega)
   have ep : (2 : Int) ^ (7 * (pre.length : Int)).toNat = 128 ^ pre.length := by
    rw [show (7 * (pre.length : Int)).toNat = 7 * pre.length by omega, Int.pow_mul]
    rfl
   have hcm : c % 128 * 128 ^ pre.length < 2 ^ 64 ∨ (pre.length = 9 ∧ c > 1) := by
    by_cases h9 : pre.length = 9
    · by_cases hc1 : c > 1
      · exact .inr ⟨h9, hc1⟩
      · rw [h9]
        have : c % 128 ≤ 1 := by omega
        left; omega
    · have h8 := pow128_mono (i := pre.length) (j := 8) (by omega)
      have h2 : c % 128 * 128 ^ pre.length ≤ 127 * 128 ^ pre.length := Int.mul_le_mul_of_nonneg_right (by omega) (Int.le_of_lt hpp)
      have e8 : (128 : Int) ^ 8 = 72057594037927936 := rfl
      left; omega
   have hbits : ¬ (pre.length = 9 ∧ c > 1) → Go.bits .or .u64 u (shl .u64 (IntKind.u64.wrap (Go.bits .and .u8 c 127)) (wrap64 (7 * (pre.length : Int)))) = u + c % 128 * 128 ^ pre.length := by
    intro hn
    have hcm' : c % 128 * 128 ^ pre.length < 2 ^ 64 := by
     rcases hcm with h | h
     · exact h
     · exact absurd h hn
    rw [e7, and127 hc.1 hc.2, u64 (by omega) (by omega), shl_u64 (by omega) (by omega) (by omega) (by rw [ep]; exact hcm'), ep]
    have e2 : (128 : Int) ^ pre.length = 2 ^ (7 * pre.length) := by rw [Int.pow_mul]; rfl
    refine or_join (7 * pre.length) (by omega) h0 (by rw [← e2]; exact h1) (Int.mul_nonneg (by omega) (Int.le_of_lt hpp)) (by rw [e2]; exact Int.mul_emod_left _ _) hcm'
   have hstep : ∀ k, num_Get.l0 (k + 1) u (pre ++ c :: r) ((pre ++ c :: r).length : Int) (pre.length : Int) = num_Get.j1 k u (pre.length : Int) c (pre ++ c :: r) ((pre ++ c :: r).length : Int) (pre.length : Int) (decide (pre.length = 9 ∧ c > 1)) := by
    intro k
    simp only [num_Get.l0]
    rw [if_pos hlt, if_pos (by omega), if_pos hlt, rd_append]
    by_cases h9 : pre.length = 9
    · rw [if_pos (by omega)]
      congr 1
      simp [h9]
    · rw [if_neg (by omega)]
      congr 1
      simp [h9]
   refine Ev.step hstep ?_
   by_cases hx : pre.length = 9 ∧ c > 1
   · refine Ev.step (f := fun _ => some (0, 0, 1)) (fun k => ?_) (evEq (Ev.now _) ?_)
     · simp only [num_Get.j1]
       rw [if_pos (by simp [hx])]
     · unfold ug; rw [if_pos hx]
   · have hbt := hbits hx
     have hd : decide (pre.length = 9 ∧ c > 1) = false := by simpa using fun h h2 => hx ⟨h, h2⟩
     rw [hd]
     by_cases hc1 : c > 127
     · have hi9 : pre.length ≠ 9 := fun h => hx ⟨h, by omega⟩
       have hrec := ih (pre ++ [c]) (u + (c - 128) * 128 ^ pre.length) (by rw [List.append_assoc]; exact hb) (by rw [List.append_assoc]; exact hl) (by simp; omega) (Int.add_nonneg h0 (Int.mul_nonneg (by omega) (Int.le_of_lt hpp))) (by
        simp only [List.length_append, List.length_cons, List.length_nil]
        have : (c - 128) * 128 ^ pre.length ≤ 127 * 128 ^ pre.length := Int.mul_le_mul_of_nonneg_right (by omega) (Int.le_of_lt hpp)
        rw [Int.pow_succ]
        omega)
       simp only [List.append_assoc, List.cons_append, List.nil_append, List.length_append, List.length_cons, List.length_nil] at hrec
       refine Ev.step (fun k => ?_) (evEq hrec ?_)
       · simp only [num_Get.j1]
         rw [if_neg (by simp), if_pos (by omega), if_pos hc1, hbt, w64 (by omega) (by omega)]
         rw [show c % 128 = c - 128 by omega]
         simp only [Nat.zero_add, Int.natCast_add, Int.natCast_one, List.length_append, List.length_cons]
       · conv => rhs; unfold ug
         rw [if_neg hx, if_pos hc1]
     · have e1 : c % 128 = c := by omega
       rw [e1] at hbt
       have hv : 0 ≤ u + c * 128 ^ pre.length ∧ u + c * 128 ^ pre.length < 18446744073709551616 := by
        refine ⟨Int.add_nonneg h0 (Int.mul_nonneg hc.1 (Int.le_of_lt hpp)), ?_⟩
        by_cases hi9 : pre.length = 9
        · have : c ≤ 1 := by
            rcases Int.lt_or_le 1 c with h | h
            · exact absurd ⟨hi9, h⟩ hx
            · exact h
          rw [hi9] at h1 ⊢
          omega
        · have h8 := pow128_mono (i := pre.length) (j := 8) (by omega)
          have h2 : c * 128 ^ pre.length ≤ 127 * 128 ^ pre.length := Int.mul_le_mul_of_nonneg_right (by omega) (Int.le_of_lt hpp)
          have e8 : (128 : Int) ^ 8 = 72057594037927936 := rfl
          omega
       by_cases hz : pre.length > 0 ∧ c = 0
       · refine Ev.step (f := fun k => num_Get.j2 k (u + c * 128 ^ pre.length) (pre.length : Int) true) (fun k => ?_) ?_
         · simp only [num_Get.j1]
           rw [if_neg (by simp), if_pos (by omega), if_neg hc1, hbt, if_pos (by omega)]
           congr 1
           simp [hz.2]
         · refine Ev.step (f := fun _ => some (0, 0, 1)) (fun k => ?_) (evEq (Ev.now _) ?_)
           · simp only [num_Get.j2]; rw [if_pos trivial]
           · unfold ug; rw [if_neg hx, if_neg hc1, if_pos hz]
       · refine Ev.step (f := fun k => num_Get.j2 k (u + c * 128 ^ pre.length) (pre.length : Int) false) (fun k => ?_) ?_
         · simp only [num_Get.j1]
           rw [if_neg (by simp), if_pos (by omega), if_neg hc1, hbt]
           by_cases hp : (pre.length : Int) > 0
           · rw [if_pos hp]
             congr 1
             simp only [beq_eq_false_iff_ne]
             exact fun h => hz ⟨by omega, h⟩
           · rw [if_neg hp]
         · refine Ev.step (f := fun _ => some (unzig (u + c * 128 ^ pre.length), (pre.length : Int) + 1, 0)) (fun k => ?_) (evEq (Ev.now _) ?_)
           · simp only [num_Get.j2]
             rw [if_neg (by simp), w64 (x := (pre.length : Int) + 1) (by omega) (by omega), w64 (x := (u + c * 128 ^ pre.length) / 2) (by omega) (by omega)]
             have ha : Go.bits .and .u64 (u + c * 128 ^ pre.length) 1 = (u + c * 128 ^ pre.length) % 2 := bits_mask .u64 64 (by decide) wraps_u64 1 (by decide) _ hv.1 (by omega)
             rw [ha, not_i64 (by omega) (by omega)]
             unfold unzig
             split <;> rfl
           · unfold ug; rw [if_neg hx, if_neg hc1, if_neg hz]
theorem num_Get_ev {l : List Int} (h : Byt l) (hl : l.length < 9223372036854775800) : Ev (fun k => num_Get.f k l) (getN l) := num_Get_l l [] 0 (by simpa using h) (by simpa using hl) (by simp) (by decide) (by simp)
theorem num_GetText_ev {l : List Int} (h : Byt l) (hl : l.length < 9223372036854775800) : Ev (fun k => num_GetText.f k l) (getT l) := by
 have hb := getN_bound l
 have hi := getN_i64 h
 unfold I64 at hi
 unfold num_GetText.f
 refine Ev.bind (num_Get_ev h hl) ?_
 unfold getT
 by_cases h0 : (getN l).2.2 = 0
 · simp only [h0, ne_eq, not_true_eq_false, if_false, if_true]
   by_cases h1 : (getN l).1 < 0 ∨ (getN l).1 > 65536
   · rw [if_pos h1]
     have e : ∀ k, (if (getN l).1 < 0 then num_GetText.j0 k l (getN l).1 (getN l).2.1 true else num_GetText.j0 k l (getN l).1 (getN l).2.1 (decide ((getN l).1 > 65536))) = num_GetText.j0 k l (getN l).1 (getN l).2.1 true := by
      intro k
      split
      · rfl
      · rw [decide_eq_true (by omega)]
     refine Ev.congr e (Ev.step (f := fun _ => some (⟨#[]⟩, 0, 1)) (fun k => ?_) (Ev.now _))
     simp only [num_GetText.j0]
     rw [if_pos trivial]
   · rw [if_neg h1]
     have e : ∀ k, (if (getN l).1 < 0 then num_GetText.j0 k l (getN l).1 (getN l).2.1 true else num_GetText.j0 k l (getN l).1 (getN l).2.1 (decide ((getN l).1 > 65536))) = num_GetText.j0 k l (getN l).1 (getN l).2.1 false := by
      intro k
      rw [if_neg (by omega), decide_eq_false (by omega)]
     refine Ev.congr e (Ev.step (f := fun _ => if (getN l).1 > (l.length : Int) - (getN l).2.1 then some (⟨#[]⟩, 0, 2) else some (strOfNums ((l.take ((getN l).2.1 + (getN l).1).toNat).drop (getN l).2.1.toNat), (getN l).2.1 + (getN l).1, 0)) (fun k => ?_) ?_)
     · simp only [num_GetText.j0]
       rw [if_neg (by simp), w64 (x := (l.length : Int) - (getN l).2.1) (by omega) (by omega)]
       split
       · rfl
       · rw [w64 (x := (getN l).2.1 + (getN l).1) (by omega) (by omega), if_pos (by omega), if_pos (by omega), if_pos (by omega)]
     · split <;> exact Ev.now _
 · have h0' : ¬ ((getN l).2.2 = 0) := h0
   simp only [ne_eq, h0, not_false_eq_true, if_true, if_false]
   exact Ev.now _
end Go.Proofs.Ytkhcmddeeodbkaa.Q
