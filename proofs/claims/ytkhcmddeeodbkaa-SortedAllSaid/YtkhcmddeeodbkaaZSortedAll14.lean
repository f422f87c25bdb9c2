import Derived.Test.YtkhcmddeeodbkaaZSortedAll13
-- Own texts and, of the words that the kit's print program wrote for this claim, those that are needed here: put together by wip/prune.py.
set_option linter.unusedSimpArgs false
set_option linter.unusedVariables false
namespace Go.Proofs.Ytkhcmddeeodbkaa.XSor
open Go.RowKit Go.Proofs.Ytkhcmddeeodbkaa.G Go.Proofs.YtkhcmddeeodbkaaW.PrintWords Go.Proofs.YtkhcmddeeodbkaaW.PrintLast Go.Proofs.YtkhcmddeeodbkaaW.PrintMore
attribute [local go_sem] max2_int min2_int max_two min_two max_three min_three max_four min_four
mutual
def loessref6_Bits_Num.j0 : Nat → List Bool → Int → Int → Bool → Option (Int × Bool)
 | 0, _, _, _, _ => none
 | k + 1, x0, x1, x2, x33 => if x33 = true then (some (0, false)) else (loessref6_Bits_Num.l0 k x0 x1 x2 0 0)
def loessref6_Bits_Num.l0 : Nat → List Bool → Int → Int → Int → Int → Option (Int × Bool)
 | 0, _, _, _, _, _ => none
 | k + 1, x0, x1, x2, x8, x9 => if x9 < x2 then (if 0 ≤ (wrap64 (x1 + x9)) then (if (wrap64 (x1 + x9)) < (x0.length : Int) then (if rdOf false x0 (wrap64 (x1 + x9)) = true then (loessref6_Bits_Num.l0 k x0 x1 x2 (IntKind.u64.wrap ((IntKind.u64.wrap (x8 * 2)) + 1)) (wrap64 (x9 + 1))) else (loessref6_Bits_Num.l0 k x0 x1 x2 (IntKind.u64.wrap (x8 * 2)) (wrap64 (x9 + 1)))) else (none)) else (none)) else (some (x8, true))
end
def loessref6_Bits_Num.f (k : Nat) (l0 : List Bool) (a1 : Int) (a2 : Int) : Option (Int × Bool) := if a1 < 0 then (loessref6_Bits_Num.j0 k l0 a1 a2 true) else (if a2 < 0 then (loessref6_Bits_Num.j0 k l0 a1 a2 true) else (if a2 > 64 then (loessref6_Bits_Num.j0 k l0 a1 a2 true) else (if a1 > (l0.length : Int) then (loessref6_Bits_Num.j0 k l0 a1 a2 true) else (loessref6_Bits_Num.j0 k l0 a1 a2 (decide (a2 > (wrap64 ((l0.length : Int) - a1))))))))
theorem loessref6_Bits_Num.mono_l : ∀ k, (∀ y0 y1 y2 y3, LeO (loessref6_Bits_Num.j0 k y0 y1 y2 y3) (loessref6_Bits_Num.j0 (k + 1) y0 y1 y2 y3)) ∧ (∀ y0 y1 y2 y3 y4, LeO (loessref6_Bits_Num.l0 k y0 y1 y2 y3 y4) (loessref6_Bits_Num.l0 (k + 1) y0 y1 y2 y3 y4))
 | 0 => ⟨fun _ _ _ _ r h => by simp [loessref6_Bits_Num.j0] at h, fun _ _ _ _ _ r h => by simp [loessref6_Bits_Num.l0] at h⟩
 | k + 1 => by
   obtain ⟨ih0, ih1⟩ := loessref6_Bits_Num.mono_l k
   refine ⟨?_, ?_⟩
   · intro y0 y1 y2 y3
     unfold loessref6_Bits_Num.j0
     repeat' first
     | (with_reducible exact ih0 _ _ _ _)
     | (with_reducible exact ih1 _ _ _ _ _)
     | (with_reducible exact LeO.refl _)
     | (with_reducible exact LeO.none _)
     | (with_reducible refine LeO.ite ?_ ?_)
     | (with_reducible refine LeO.bind ?_ (fun _ => ?_))
     | exact ih0 _ _ _ _
     | exact ih1 _ _ _ _ _
     | exact LeO.none _
     | refine LeO.ite ?_ ?_
     | refine LeO.bind ?_ (fun _ => ?_)
   · intro y0 y1 y2 y3 y4
     unfold loessref6_Bits_Num.l0
     repeat' first
     | (with_reducible exact ih0 _ _ _ _)
     | (with_reducible exact ih1 _ _ _ _ _)
     | (with_reducible exact LeO.refl _)
     | (with_reducible exact LeO.none _)
     | (with_reducible refine LeO.ite ?_ ?_)
     | (with_reducible refine LeO.bind ?_ (fun _ => ?_))
     | exact ih0 _ _ _ _
     | exact ih1 _ _ _ _ _
     | exact LeO.none _
     | refine LeO.ite ?_ ?_
     | refine LeO.bind ?_ (fun _ => ?_)
theorem loessref6_Bits_Num.mono : ∀ a0 a1 a2 k, LeO (loessref6_Bits_Num.f k a0 a1 a2) (loessref6_Bits_Num.f (k + 1) a0 a1 a2) := by
 intro a0 a1 a2 k
 obtain ⟨ih0, ih1⟩ := loessref6_Bits_Num.mono_l k
 unfold loessref6_Bits_Num.f
 repeat' first
     | (with_reducible exact ih0 _ _ _ _)
     | (with_reducible exact ih1 _ _ _ _ _)
     | (with_reducible exact LeO.refl _)
     | (with_reducible exact LeO.none _)
     | (with_reducible refine LeO.ite ?_ ?_)
     | (with_reducible refine LeO.bind ?_ (fun _ => ?_))
     | exact ih0 _ _ _ _
     | exact ih1 _ _ _ _ _
     | exact LeO.none _
     | refine LeO.ite ?_ ?_
     | refine LeO.bind ?_ (fun _ => ?_)
set_option maxHeartbeats 8000000 in
set_option maxRecDepth 100000 in
theorem loessref6_Bits_Num.calls (k : Nat) (A0 : Option Addr) (c0 : Nat) (l0 : List Bool) (a1 : Int) (a2 : Int) (r1 : Int) (r2 : Bool) (w : World) (hr0 : Kd.C Kd.bool w A0 l0.length l0) (hc0 : l0.length ≤ c0) (h : loessref6_Bits_Num.f k l0 a1 a2 = some (r1, r2)) :
    Calls Try.prog 86 #[.slice A0 l0.length c0, .int .i64 a1, .int .i64 a2] w fun e w' => e = .returned (.tuple #[.int .u64 r1, .bool r2]) ∧ Drawn0 w w' := by
 have HR0 := Aside0.mk hr0
 have HC0 := Aside0.mk hc0
 clear hr0 hc0
 have H : (if a1 < 0 then (loessref6_Bits_Num.j0 k l0 a1 a2 true) else (if a2 < 0 then (loessref6_Bits_Num.j0 k l0 a1 a2 true) else (if a2 > 64 then (loessref6_Bits_Num.j0 k l0 a1 a2 true) else (if a1 > (l0.length : Int) then (loessref6_Bits_Num.j0 k l0 a1 a2 true) else (loessref6_Bits_Num.j0 k l0 a1 a2 (decide (a2 > (wrap64 ((l0.length : Int) - a1))))))))) = some (r1, r2) := h
 clear h
 have HC4 := Aside0.mk H
 clear H
 go_enter Try.func86, Try.ntmps86
 go_upto_region 1 with (fail)
 go_cut [33] (fun v33 wc => ∃ (kq : Nat) (x33_3 : Bool), v33 = .bool x33_3 ∧ Aside0 (loessref6_Bits_Num.j0 kq l0 a1 a2 x33_3 = some (r1, r2)) ∧ Aside0 (kq ≤ k) ∧ Drawn0 w wc)
 case first =>
  have H := HC4.out
  clear HC4
  by_cases c5 : a1 < 0
  · rw [if_pos c5] at H
    have c5b0 : decide (a1 < 0) = true := decide_eq_true c5
    clear c5
    (first | rw [c5b0] | (simp only [i64_w, i32_w]; rw [c5b0]) | skip)
    have H' := Aside0.mk H
    clear H
    go_wp2
    go_meet
    case rel => exact ⟨_, (true), (by first | rfl | (simp; done) | (simp [*]; done)), H', ⟨by first | omega | exact Nat.le_refl _⟩, by repeat (first | exact Drawn0.refl _ | apply Drawn0.step)⟩
  · rw [if_neg c5] at H
    have c5b0 : decide (a1 < 0) = false := decide_eq_false c5
    clear c5
    (first | rw [c5b0] | (simp only [i64_w, i32_w]; rw [c5b0]) | skip)
    by_cases c6 : a2 < 0
    · rw [if_pos c6] at H
      have c6b0 : decide (a2 < 0) = true := decide_eq_true c6
      clear c6
      have H' := Aside0.mk H
      clear H
      go_wp2
      go_meet
      case rel => exact ⟨_, (true), (by first | rfl | (simp; done) | (simp [*]; done)), H', ⟨by first | omega | exact Nat.le_refl _⟩, by repeat (first | exact Drawn0.refl _ | apply Drawn0.step)⟩
    · rw [if_neg c6] at H
      have c6b0 : decide (a2 < 0) = false := decide_eq_false c6
      clear c6
      by_cases c7 : a2 > 64
      · rw [if_pos c7] at H
        have c7b0 : decide (64 < a2) = true := decide_eq_true c7
        clear c7
        have H' := Aside0.mk H
        clear H
        go_wp2
        go_meet
        case rel => exact ⟨_, (true), (by first | rfl | (simp; done) | (simp [*]; done)), H', ⟨by first | omega | exact Nat.le_refl _⟩, by repeat (first | exact Drawn0.refl _ | apply Drawn0.step)⟩
      · rw [if_neg c7] at H
        have c7b0 : decide (64 < a2) = false := decide_eq_false c7
        clear c7
        by_cases c8 : a1 > (l0.length : Int)
        · rw [if_pos c8] at H
          have c8b0 : decide ((l0.length : Int) < a1) = true := decide_eq_true c8
          clear c8
          have H' := Aside0.mk H
          clear H
          go_wp2
          go_meet
          case rel => exact ⟨_, (true), (by first | rfl | (simp; done) | (simp [*]; done)), H', ⟨by first | omega | exact Nat.le_refl _⟩, by repeat (first | exact Drawn0.refl _ | apply Drawn0.step)⟩
        · rw [if_neg c8] at H
          have c8b0 : decide ((l0.length : Int) < a1) = false := decide_eq_false c8
          clear c8
          have H' := Aside0.mk H
          clear H
          go_wp2
          go_meet
          case rel => exact ⟨_, (decide (a2 > (wrap64 ((l0.length : Int) - a1)))), (by first | rfl | (simp; done) | (simp [*]; done)), H', ⟨by first | omega | exact Nat.le_refl _⟩, by repeat (first | exact Drawn0.refl _ | apply Drawn0.step)⟩
 case rest =>
  clear HC4
  try clear p2
  try clear c5
  try clear c5b0
  try clear c6
  try clear c6b0
  try clear p6
  try clear c7
  try clear c7b0
  try clear c8
  try clear c8b0
  obtain ⟨kq, x33_3, rfl, HA, HJ3, ⟨mc3, rfl⟩⟩ := hcut
  cases kq with
  | zero => exact absurd HA.out (by simp [loessref6_Bits_Num.j0])
  | succ kj3 =>
    have H := HA.out
    clear HA
    simp only [loessref6_Bits_Num.j0] at H
    by_cases c9 : x33_3 = true
    · subst c9
      have H1 : (some (0, false)) = some (r1, r2) := by rw [if_pos rfl] at H; exact H
      clear H
      have H := H1
      clear H1
      simp only [Option.some.injEq, Prod.mk.injEq] at H
      obtain ⟨rfl, rfl⟩ := H
      go_wp2
      go_ret2
      exact ⟨by first | rfl | (simp; done) | (simp [*]; done), by repeat (first | exact Drawn0.refl _ | apply Drawn0.step)⟩
    · replace c9 := Bool.eq_false_iff.mpr c9
      subst c9
      have H1 : (loessref6_Bits_Num.l0 kj3 l0 a1 a2 0 0) = some (r1, r2) := by rw [if_neg (show ¬ (false = true) by decide)] at H; exact H
      clear H
      have H := H1
      clear H1
      have H' := Aside0.mk H
      clear H
      go_wp2
      go_loopg [8, 9] kj3 (fun kq v8 v9 w' => ∃ (x8_2 : Int) (x9_2 : Int), v8 = .int .u64 x8_2 ∧ v9 = .int .i64 x9_2 ∧ Aside0 (loessref6_Bits_Num.l0 kq l0 a1 a2 x8_2 x9_2 = some (r1, r2)) ∧ Aside0 (kq ≤ kj3) ∧ Drawn0 w w')
      case atStart => exact ⟨(0), (0), (by first | rfl | (simp; done) | (simp [*]; done)), (by first | rfl | (simp; done) | (simp [*]; done)), H', ⟨Nat.le_refl _⟩, by repeat (first | exact Drawn0.refl _ | apply Drawn0.step)⟩
      case round =>
       clear H'
       try clear p2
       try clear c3
       try clear c5
       try clear c5b0
       try clear c6
       try clear c6b0
       try clear p6
       try clear c7
       try clear c7b0
       try clear c8
       try clear c8b0
       try clear c9
       try clear p2
       try clear p6
       obtain ⟨x8_2, x9_2, rfl, rfl, HA, HK2, ⟨m2, rfl⟩⟩ := hrel
       cases gk with
       | zero => exact absurd HA.out (by simp [loessref6_Bits_Num.l0])
       | succ k2 =>
         have H := HA.out
         clear HA
         simp only [loessref6_Bits_Num.l0] at H
         by_cases c10 : x9_2 < a2
         · rw [if_pos c10] at H
           have c10b0 : decide (x9_2 < a2) = true := decide_eq_true c10
           clear c10
           obtain ⟨ji11, hji11⟩ : ∃ j_ : Int, (wrap64 (a1 + x9_2)) = j_ := ⟨_, rfl⟩
           replace H : (if 0 ≤ (ji11) then (if (ji11) < (l0.length : Int) then (if rdOf false l0 (ji11) = true then (loessref6_Bits_Num.l0 k2 l0 a1 a2 (IntKind.u64.wrap ((IntKind.u64.wrap (x8_2 * 2)) + 1)) (wrap64 (x9_2 + 1))) else (loessref6_Bits_Num.l0 k2 l0 a1 a2 (IntKind.u64.wrap (x8_2 * 2)) (wrap64 (x9_2 + 1)))) else (none)) else (none)) = some (r1, r2) := by first | (rw [hji11] at H; exact H) | (simp only [hji11] at H ⊢; exact H)
           have hji11w : (IntKind.i64.wrap (a1 + x9_2)) = ji11 := (i64_w _).trans hji11
           by_cases c12 : 0 ≤ (ji11)
           · rw [if_pos c12] at H
             have c12b0 : decide (0 ≤ (ji11)) = true := decide_eq_true c12
             clear c12
             by_cases c13 : (ji11) < (l0.length : Int)
             · rw [if_pos c13] at H
               have c13b0 : decide ((ji11) < (l0.length : Int)) = true := decide_eq_true c13
               clear c13
               obtain ⟨bq14, hbq14⟩ : ∃ b_ : Bool, b_ = (rdOf false l0 (ji11)) := ⟨_, rfl⟩
               replace H : (if bq14 = true then (loessref6_Bits_Num.l0 k2 l0 a1 a2 (IntKind.u64.wrap ((IntKind.u64.wrap (x8_2 * 2)) + 1)) (wrap64 (x9_2 + 1))) else (loessref6_Bits_Num.l0 k2 l0 a1 a2 (IntKind.u64.wrap (x8_2 * 2)) (wrap64 (x9_2 + 1)))) = some (r1, r2) := by rw [← hbq14] at H; exact H
               have Nbq14 := Aside0.mk hbq14
               clear hbq14
               by_cases c15 : bq14 = true
               · subst c15
                 have H1 : (loessref6_Bits_Num.l0 k2 l0 a1 a2 (IntKind.u64.wrap ((IntKind.u64.wrap (x8_2 * 2)) + 1)) (wrap64 (x9_2 + 1))) = some (r1, r2) := by rw [if_pos rfl] at H; exact H
                 clear H
                 have H := H1
                 clear H1
                 have H' := Aside0.mk H
                 clear H
                 have p384 : 0 ≤ ((ji11) : Int) := of_decide_eq_true (by first | (with_reducible assumption) | assumption)
                 have q384 : (ji11) < (l0.length : Int) := of_decide_eq_true (by first | (with_reducible assumption) | assumption)
                 obtain ⟨ad384, e384, hx384_0⟩ := Kd.at_bool HR0.out (ji11) p384 q384
                 (try rw [← Nbq14.out] at hx384_0)
                 cases e384
                 replace p384 := eq_true p384
                 replace q384 := eq_true q384
                 go_wp2
                 go_roundg k2
                 case measure => have := HJ3.out; have := HK2.out; omega
                 case rel => exact ⟨(IntKind.u64.wrap ((IntKind.u64.wrap (x8_2 * 2)) + 1)), (wrap64 (x9_2 + 1)), (by first | rfl | (simp; done) | (simp [*]; done)), (by first | rfl | (simp; done) | (simp [*]; done)), H', ⟨by have := HJ3.out; have := HK2.out; omega⟩, by repeat (first | exact Drawn0.refl _ | apply Drawn0.step)⟩
               · replace c15 := Bool.eq_false_iff.mpr c15
                 subst c15
                 have H1 : (loessref6_Bits_Num.l0 k2 l0 a1 a2 (IntKind.u64.wrap (x8_2 * 2)) (wrap64 (x9_2 + 1))) = some (r1, r2) := by rw [if_neg (show ¬ (false = true) by decide)] at H; exact H
                 clear H
                 have H := H1
                 clear H1
                 have H' := Aside0.mk H
                 clear H
                 have p384 : 0 ≤ ((ji11) : Int) := of_decide_eq_true (by first | (with_reducible assumption) | assumption)
                 have q384 : (ji11) < (l0.length : Int) := of_decide_eq_true (by first | (with_reducible assumption) | assumption)
                 obtain ⟨ad384, e384, hx384_0⟩ := Kd.at_bool HR0.out (ji11) p384 q384
                 (try rw [← Nbq14.out] at hx384_0)
                 cases e384
                 replace p384 := eq_true p384
                 replace q384 := eq_true q384
                 go_wp2
                 go_roundg k2
                 case measure => have := HJ3.out; have := HK2.out; omega
                 case rel => exact ⟨(IntKind.u64.wrap (x8_2 * 2)), (wrap64 (x9_2 + 1)), (by first | rfl | (simp; done) | (simp [*]; done)), (by first | rfl | (simp; done) | (simp [*]; done)), H', ⟨by have := HJ3.out; have := HK2.out; omega⟩, by repeat (first | exact Drawn0.refl _ | apply Drawn0.step)⟩
             · rw [if_neg c13] at H
               exact absurd H (by simp)
           · rw [if_neg c12] at H
             exact absurd H (by simp)
         · rw [if_neg c10] at H
           have c10b0 : decide (x9_2 < a2) = false := decide_eq_false c10
           clear c10
           simp only [Option.some.injEq, Prod.mk.injEq] at H
           obtain ⟨rfl, rfl⟩ := H
           go_wp2
           go_ret2
           exact ⟨by first | rfl | (simp; done) | (simp [*]; done), by repeat (first | exact Drawn0.refl _ | apply Drawn0.step)⟩
end Go.Proofs.Ytkhcmddeeodbkaa.XSor
namespace Go.Proofs.Ytkhcmddeeodbkaa.XSor
open Go.RowKit Go.Proofs.Ytkhcmddeeodbkaa.G Go.Proofs.YtkhcmddeeodbkaaW.PrintWords Go.Proofs.YtkhcmddeeodbkaaW.PrintLast Go.Proofs.YtkhcmddeeodbkaaW.PrintMore
attribute [local go_sem] max2_int min2_int max_two min_two max_three min_three max_four min_four
mutual
def loessref6_GetGamma.j1 : Nat → List Bool → Int → Int → Option (Int × Int × Bool)
 | 0, _, _, _ => none
 | k + 1, x0, x1, x7 => if x7 = 64 then (some (0, x1, false)) else ((loessref6_Bits_Num.f k x0 (wrap64 (x1 + x7)) (wrap64 (x7 + 1))).bind fun bt386 => (if bt386.2 = true then (if bt386.1 = 0 then (some (0, x1, false)) else (some (bt386.1, wrap64 ((wrap64 (x1 + (wrap64 (2 * x7)))) + 1), true))) else (some (0, x1, false))))
def loessref6_GetGamma.l0 : Nat → List Bool → Int → Int → Option (Int × Int × Bool)
 | 0, _, _, _ => none
 | k + 1, x0, x1, x7 => if x7 < 64 then (if (wrap64 (x1 + x7)) < (x0.length : Int) then (if 0 ≤ (wrap64 (x1 + x7)) then (if (rdOf false x0 (wrap64 (x1 + x7)) = true) then (loessref6_GetGamma.j1 k x0 x1 x7) else (loessref6_GetGamma.l0 k x0 x1 (wrap64 (x7 + 1)))) else (none)) else (loessref6_GetGamma.j1 k x0 x1 x7)) else (loessref6_GetGamma.j1 k x0 x1 x7)
end
def loessref6_GetGamma.f (k : Nat) (l0 : List Bool) (a1 : Int) : Option (Int × Int × Bool) := if a1 < 0 then (some (0, a1, false)) else (loessref6_GetGamma.l0 k l0 a1 0)
theorem loessref6_GetGamma.mono_l : ∀ k, (∀ y0 y1 y2, LeO (loessref6_GetGamma.j1 k y0 y1 y2) (loessref6_GetGamma.j1 (k + 1) y0 y1 y2)) ∧ (∀ y0 y1 y2, LeO (loessref6_GetGamma.l0 k y0 y1 y2) (loessref6_GetGamma.l0 (k + 1) y0 y1 y2))
 | 0 => ⟨fun _ _ _ r h => by simp [loessref6_GetGamma.j1] at h, fun _ _ _ r h => by simp [loessref6_GetGamma.l0] at h⟩
 | k + 1 => by
   obtain ⟨ih0, ih1⟩ := loessref6_GetGamma.mono_l k
   refine ⟨?_, ?_⟩
   · intro y0 y1 y2
     unfold loessref6_GetGamma.j1
     repeat' first
     | (with_reducible exact ih0 _ _ _)
     | (with_reducible exact ih1 _ _ _)
     | (with_reducible exact loessref6_Bits_Num.mono _ _ _ _)
     | (with_reducible exact LeO.refl _)
     | (with_reducible exact LeO.none _)
     | (with_reducible refine LeO.ite ?_ ?_)
     | (with_reducible refine LeO.bind ?_ (fun _ => ?_))
     | exact ih0 _ _ _
     | exact ih1 _ _ _
     | exact loessref6_Bits_Num.mono _ _ _ _
     | exact LeO.none _
     | refine LeO.ite ?_ ?_
     | refine LeO.bind ?_ (fun _ => ?_)
   · intro y0 y1 y2
     unfold loessref6_GetGamma.l0
     repeat' first
     | (with_reducible exact ih0 _ _ _)
     | (with_reducible exact ih1 _ _ _)
     | (with_reducible exact loessref6_Bits_Num.mono _ _ _ _)
     | (with_reducible exact LeO.refl _)
     | (with_reducible exact LeO.none _)
     | (with_reducible refine LeO.ite ?_ ?_)
     | (with_reducible refine LeO.bind ?_ (fun _ => ?_))
     | exact ih0 _ _ _
     | exact ih1 _ _ _
     | exact loessref6_Bits_Num.mono _ _ _ _
     | exact LeO.none _
     | refine LeO.ite ?_ ?_
     | refine LeO.bind ?_ (fun _ => ?_)
theorem loessref6_GetGamma.mono : ∀ a0 a1 k, LeO (loessref6_GetGamma.f k a0 a1) (loessref6_GetGamma.f (k + 1) a0 a1) := by
 intro a0 a1 k
 obtain ⟨ih0, ih1⟩ := loessref6_GetGamma.mono_l k
 unfold loessref6_GetGamma.f
 repeat' first
     | (with_reducible exact ih0 _ _ _)
     | (with_reducible exact ih1 _ _ _)
     | (with_reducible exact loessref6_Bits_Num.mono _ _ _ _)
     | (with_reducible exact LeO.refl _)
     | (with_reducible exact LeO.none _)
     | (with_reducible refine LeO.ite ?_ ?_)
     | (with_reducible refine LeO.bind ?_ (fun _ => ?_))
     | exact ih0 _ _ _
     | exact ih1 _ _ _
     | exact loessref6_Bits_Num.mono _ _ _ _
     | exact LeO.none _
     | refine LeO.ite ?_ ?_
     | refine LeO.bind ?_ (fun _ => ?_)
set_option maxHeartbeats 8000000 in
set_option maxRecDepth 100000 in
theorem loessref6_GetGamma.calls (k : Nat) (A0 : Option Addr) (c0 : Nat) (l0 : List Bool) (a1 : Int) (r1 : Int) (r2 : Int) (r3 : Bool) (w : World) (hr0 : Kd.C Kd.bool w A0 l0.length l0) (hc0 : l0.length ≤ c0) (h : loessref6_GetGamma.f k l0 a1 = some (r1, r2, r3)) :
    Calls Try.prog 80 #[.slice A0 l0.length c0, .int .i64 a1] w fun e w' => e = .returned (.tuple #[.int .u64 r1, .int .i64 r2, .bool r3]) ∧ Drawn0 w w' := by
 have HR0 := Aside0.mk hr0
 have HC0 := Aside0.mk hc0
 clear hr0 hc0
 have H : (if a1 < 0 then (some (0, a1, false)) else (loessref6_GetGamma.l0 k l0 a1 0)) = some (r1, r2, r3) := h
 clear h
 by_cases c3 : a1 < 0
 · rw [if_pos c3] at H
   have c3b0 : decide (a1 < 0) = true := decide_eq_true c3
   clear c3
   simp only [Option.some.injEq, Prod.mk.injEq] at H
   obtain ⟨rfl, rfl, rfl⟩ := H
   go_enter Try.func80, Try.ntmps80
   go_wp2
   go_ret3
   exact ⟨by first | rfl | (simp; done) | (simp [*]; done), by repeat (first | exact Drawn0.refl _ | apply Drawn0.step)⟩
 · rw [if_neg c3] at H
   have c3b0 : decide (a1 < 0) = false := decide_eq_false c3
   clear c3
   have HC4 := Aside0.mk H
   clear H
   go_enter Try.func80, Try.ntmps80
   go_upto_block 0 with (fail)
   go_cut [7] (fun v7 wc => ∃ (kq : Nat) (x7_3 : Int), v7 = .int .i64 x7_3 ∧ Aside0 (loessref6_GetGamma.j1 kq l0 a1 x7_3 = some (r1, r2, r3)) ∧ Aside0 (kq ≤ k) ∧ Drawn0 w wc)
   case first =>
    have H := HC4.out
    clear HC4
    have H' := Aside0.mk H
    clear H
    go_wp2
    go_loopg [7] k (fun kq v7 w' => ∃ (x7_1 : Int), v7 = .int .i64 x7_1 ∧ Aside0 (loessref6_GetGamma.l0 kq l0 a1 x7_1 = some (r1, r2, r3)) ∧ Aside0 (kq ≤ k) ∧ Drawn0 w w')
    case atStart => exact ⟨(0), (by first | rfl | (simp; done) | (simp [*]; done)), H', ⟨Nat.le_refl _⟩, by repeat (first | exact Drawn0.refl _ | apply Drawn0.step)⟩
    case round =>
     clear H'
     try clear p2
     try clear c3
     try clear c3b0
     obtain ⟨x7_1, rfl, HA, HK1, ⟨m1, rfl⟩⟩ := hrel
     cases gk with
     | zero => exact absurd HA.out (by simp [loessref6_GetGamma.l0])
     | succ k1 =>
       have H := HA.out
       clear HA
       simp only [loessref6_GetGamma.l0] at H
       by_cases c5 : x7_1 < 64
       · rw [if_pos c5] at H
         have c5b0 : decide (x7_1 < 64) = true := decide_eq_true c5
         clear c5
         (first | rw [c5b0] | (simp only [i64_w, i32_w]; rw [c5b0]) | skip)
         by_cases c6 : (wrap64 (a1 + x7_1)) < (l0.length : Int)
         · rw [if_pos c6] at H
           have c6b0 : decide ((wrap64 (a1 + x7_1)) < (l0.length : Int)) = true := decide_eq_true c6
           clear c6
           obtain ⟨ji7, hji7⟩ : ∃ j_ : Int, (wrap64 (a1 + x7_1)) = j_ := ⟨_, rfl⟩
           replace H : (if 0 ≤ (ji7) then (if (rdOf false l0 (ji7) = true) then (loessref6_GetGamma.j1 k1 l0 a1 x7_1) else (loessref6_GetGamma.l0 k1 l0 a1 (wrap64 (x7_1 + 1)))) else (none)) = some (r1, r2, r3) := by first | (rw [hji7] at H; exact H) | (simp only [hji7] at H ⊢; exact H)
           (try rw [hji7] at c6b0)
           have hji7w : (IntKind.i64.wrap (a1 + x7_1)) = ji7 := (i64_w _).trans hji7
           by_cases c8 : 0 ≤ (ji7)
           · rw [if_pos c8] at H
             have c8b0 : decide (0 ≤ (ji7)) = true := decide_eq_true c8
             clear c8
             obtain ⟨bq9, hbq9⟩ : ∃ b_ : Bool, b_ = (rdOf false l0 (ji7)) := ⟨_, rfl⟩
             replace H : (if (bq9 = true) then (loessref6_GetGamma.j1 k1 l0 a1 x7_1) else (loessref6_GetGamma.l0 k1 l0 a1 (wrap64 (x7_1 + 1)))) = some (r1, r2, r3) := by rw [← hbq9] at H; exact H
             have Nbq9 := Aside0.mk hbq9
             clear hbq9
             by_cases c10 : (bq9 = true)
             · subst c10
               have H1 : (loessref6_GetGamma.j1 k1 l0 a1 x7_1) = some (r1, r2, r3) := by rw [if_pos rfl] at H; exact H
               clear H
               have H := H1
               clear H1
               have H' := Aside0.mk H
               clear H
               have p385 : 0 ≤ ((ji7) : Int) := of_decide_eq_true (by first | (with_reducible assumption) | assumption)
               have q385 : (ji7) < (l0.length : Int) := of_decide_eq_true (by first | (with_reducible assumption) | assumption)
               obtain ⟨ad385, e385, hx385_0⟩ := Kd.at_bool HR0.out (ji7) p385 q385
               (try rw [← Nbq9.out] at hx385_0)
               cases e385
               replace p385 := eq_true p385
               replace q385 := eq_true q385
               go_wp2
               go_meet
               case rel => exact ⟨_, (x7_1), (by first | rfl | (simp; done) | (simp [*]; done)), H', ⟨by have := HK1.out; first | omega | exact Nat.le_refl _⟩, by repeat (first | exact Drawn0.refl _ | apply Drawn0.step)⟩
             · replace c10 := Bool.eq_false_iff.mpr c10
               subst c10
               have H1 : (loessref6_GetGamma.l0 k1 l0 a1 (wrap64 (x7_1 + 1))) = some (r1, r2, r3) := by rw [if_neg (show ¬ (false = true) by decide)] at H; exact H
               clear H
               have H := H1
               clear H1
               have H' := Aside0.mk H
               clear H
               have p385 : 0 ≤ ((ji7) : Int) := of_decide_eq_true (by first | (with_reducible assumption) | assumption)
               have q385 : (ji7) < (l0.length : Int) := of_decide_eq_true (by first | (with_reducible assumption) | assumption)
               obtain ⟨ad385, e385, hx385_0⟩ := Kd.at_bool HR0.out (ji7) p385 q385
               (try rw [← Nbq9.out] at hx385_0)
               cases e385
               replace p385 := eq_true p385
               replace q385 := eq_true q385
               go_wp2
               go_roundg k1
               case measure => have := HK1.out; omega
               case rel => exact ⟨(wrap64 (x7_1 + 1)), (by first | rfl | (simp; done) | (simp [*]; done)), H', ⟨by have := HK1.out; omega⟩, by repeat (first | exact Drawn0.refl _ | apply Drawn0.step)⟩
           · rw [if_neg c8] at H
             exact absurd H (by simp)
         · rw [if_neg c6] at H
           have c6b0 : decide ((wrap64 (a1 + x7_1)) < (l0.length : Int)) = false := decide_eq_false c6
           clear c6
           have H' := Aside0.mk H
           clear H
           go_wp2
           go_meet
           case rel => exact ⟨_, (x7_1), (by first | rfl | (simp; done) | (simp [*]; done)), H', ⟨by have := HK1.out; first | omega | exact Nat.le_refl _⟩, by repeat (first | exact Drawn0.refl _ | apply Drawn0.step)⟩
       · rw [if_neg c5] at H
         have c5b0 : decide (x7_1 < 64) = false := decide_eq_false c5
         clear c5
         (first | rw [c5b0] | (simp only [i64_w, i32_w]; rw [c5b0]) | skip)
         have H' := Aside0.mk H
         clear H
         go_wp2
         go_meet
         case rel => exact ⟨_, (x7_1), (by first | rfl | (simp; done) | (simp [*]; done)), H', ⟨by have := HK1.out; first | omega | exact Nat.le_refl _⟩, by repeat (first | exact Drawn0.refl _ | apply Drawn0.step)⟩
   case rest =>
    clear HC4
    try clear c1
    try clear p2
    try clear c3
    try clear c3b0
    try clear p3
    try clear q3
    try clear hx3
    try clear c5
    try clear c5b0
    try clear c6
    try clear c6b0
    try clear p6
    try clear c8
    try clear c8b0
    try clear q9
    try clear c10
    try clear hx385_0
    try clear p2
    try clear p385
    try clear q385
    obtain ⟨kq, x7_3, rfl, HA, HJ3, ⟨mc3, rfl⟩⟩ := hcut
    cases kq with
    | zero => exact absurd HA.out (by simp [loessref6_GetGamma.j1])
    | succ kj3 =>
      have H := HA.out
      clear HA
      simp only [loessref6_GetGamma.j1] at H
      by_cases c11 : x7_3 = 64
      · rw [if_pos c11] at H
        have c11b0 : (x7_3 == 64) = true := beq_iff_eq.mpr c11
        have c11b1 : (x7_3 != 64) = false := bne_eq_false_iff_eq.mpr c11
        clear c11
        simp only [Option.some.injEq, Prod.mk.injEq] at H
        obtain ⟨rfl, rfl, rfl⟩ := H
        go_wp2
        go_ret3
        exact ⟨by first | rfl | (simp; done) | (simp [*]; done), by repeat (first | exact Drawn0.refl _ | apply Drawn0.step)⟩
      · rw [if_neg c11] at H
        have c11b0 : (x7_3 == 64) = false := beq_eq_false_iff_ne.mpr c11
        have c11b1 : (x7_3 != 64) = true := bne_iff_ne.mpr c11
        replace H := Option.bind_eq_some_iff.mp H
        obtain ⟨⟨t386, t387⟩, A120, H⟩ := H
        replace H : (if t387 = true then (if t386 = 0 then (some (0, a1, false)) else (some (t386, wrap64 ((wrap64 (a1 + (wrap64 (2 * x7_3)))) + 1), true))) else (some (0, a1, false))) = some (r1, r2, r3) := H
        have A12 := Aside0.mk A120
        clear A120
        by_cases c13 : t387 = true
        · subst c13
          have H1 : (if t386 = 0 then (some (0, a1, false)) else (some (t386, wrap64 ((wrap64 (a1 + (wrap64 (2 * x7_3)))) + 1), true))) = some (r1, r2, r3) := by rw [if_pos rfl] at H; exact H
          clear H
          have H := H1
          clear H1
          by_cases c14 : t386 = 0
          · rw [if_pos c14] at H
            have c14b0 : (t386 == 0) = true := beq_iff_eq.mpr c14
            have c14b1 : (t386 != 0) = false := bne_eq_false_iff_eq.mpr c14
            clear c14
            simp only [Option.some.injEq, Prod.mk.injEq] at H
            obtain ⟨rfl, rfl, rfl⟩ := H
            go_wp2_with (first | ((with_reducible refine gate_callee (f := 86) rfl ?_); refine goesL_ (some 44) rfl rfl Try.func86 (by kernel_rfl) rfl #[.slice A0 l0.length c0, .int .i64 (wrap64 (a1 + x7_3)), .int .i64 (wrap64 (x7_3 + 1))] rfl (by (try simp only [List.map_toArray, List.map_cons, List.map_nil]); first | done | rfl | (simp only [List.length_drop, List.length_take]; rfl)) ?_; (with_reducible refine (loessref6_Bits_Num.calls kj3 _ _ l0 (wrap64 (a1 + x7_3)) (wrap64 (x7_3 + 1)) t386 true _ ?side1 ?side2 A12.out).mono ?_); (case side1 => repeat (first | exact HR0.out | (with_reducible refine Kd.C_alloc ?_ _) | (with_reducible refine Kd.C_drewN ?_ _) | (with_reducible refine Kd.C_drew ?_))); (case side2 => exact HC0.out); rintro e w' ⟨rfl, ⟨nd, rfl⟩⟩; refine ⟨_, rfl, ?_⟩))
            go_ret3
            exact ⟨by first | rfl | (simp; done) | (simp [*]; done), by repeat (first | exact Drawn0.refl _ | apply Drawn0.step)⟩
          · rw [if_neg c14] at H
            have c14b0 : (t386 == 0) = false := beq_eq_false_iff_ne.mpr c14
            have c14b1 : (t386 != 0) = true := bne_iff_ne.mpr c14
            simp only [Option.some.injEq, Prod.mk.injEq] at H
            obtain ⟨rfl, rfl, rfl⟩ := H
            go_wp2_with (first | ((with_reducible refine gate_callee (f := 86) rfl ?_); refine goesL_ (some 44) rfl rfl Try.func86 (by kernel_rfl) rfl #[.slice A0 l0.length c0, .int .i64 (wrap64 (a1 + x7_3)), .int .i64 (wrap64 (x7_3 + 1))] rfl (by (try simp only [List.map_toArray, List.map_cons, List.map_nil]); first | done | rfl | (simp only [List.length_drop, List.length_take]; rfl)) ?_; (with_reducible refine (loessref6_Bits_Num.calls kj3 _ _ l0 (wrap64 (a1 + x7_3)) (wrap64 (x7_3 + 1)) t386 true _ ?side1 ?side2 A12.out).mono ?_); (case side1 => repeat (first | exact HR0.out | (with_reducible refine Kd.C_alloc ?_ _) | (with_reducible refine Kd.C_drewN ?_ _) | (with_reducible refine Kd.C_drew ?_))); (case side2 => exact HC0.out); rintro e w' ⟨rfl, ⟨nd, rfl⟩⟩; refine ⟨_, rfl, ?_⟩))
            go_ret3
            exact ⟨by first | rfl | (simp; done) | (simp [*]; done), by repeat (first | exact Drawn0.refl _ | apply Drawn0.step)⟩
        · replace c13 := Bool.eq_false_iff.mpr c13
          subst c13
          have H1 : (some (0, a1, false)) = some (r1, r2, r3) := by rw [if_neg (show ¬ (false = true) by decide)] at H; exact H
          clear H
          have H := H1
          clear H1
          simp only [Option.some.injEq, Prod.mk.injEq] at H
          obtain ⟨rfl, rfl, rfl⟩ := H
          go_wp2_with (first | ((with_reducible refine gate_callee (f := 86) rfl ?_); refine goesL_ (some 44) rfl rfl Try.func86 (by kernel_rfl) rfl #[.slice A0 l0.length c0, .int .i64 (wrap64 (a1 + x7_3)), .int .i64 (wrap64 (x7_3 + 1))] rfl (by (try simp only [List.map_toArray, List.map_cons, List.map_nil]); first | done | rfl | (simp only [List.length_drop, List.length_take]; rfl)) ?_; (with_reducible refine (loessref6_Bits_Num.calls kj3 _ _ l0 (wrap64 (a1 + x7_3)) (wrap64 (x7_3 + 1)) t386 false _ ?side1 ?side2 A12.out).mono ?_); (case side1 => repeat (first | exact HR0.out | (with_reducible refine Kd.C_alloc ?_ _) | (with_reducible refine Kd.C_drewN ?_ _) | (with_reducible refine Kd.C_drew ?_))); (case side2 => exact HC0.out); rintro e w' ⟨rfl, ⟨nd, rfl⟩⟩; refine ⟨_, rfl, ?_⟩))
          go_ret3
          exact ⟨by first | rfl | (simp; done) | (simp [*]; done), by repeat (first | exact Drawn0.refl _ | apply Drawn0.step)⟩
end Go.Proofs.Ytkhcmddeeodbkaa.XSor
namespace Go.Proofs.Ytkhcmddeeodbkaa.GL
open Go.RowKit Go.Proofs.YtkhcmddeeodbkaaW.PrintWords Go.Proofs.YtkhcmddeeodbkaaW.PrintMore Go.Proofs.Ytkhcmddeeodbkaa.Q Go.Proofs.Ytkhcmddeeodbkaa.XSor
def numP (o : Option Int) : Int × Bool := (o.getD 0, o.isSome)
theorem num_l0 (L : List Bool) (i n : Nat) (hl : L.length < 100000000000) (hn : n ≤ 64) (hi : i + n ≤ L.length) :
    ∀ d k, n = k + d → Ev (fun r => loessref6_Bits_Num.l0 r L (i : Int) (n : Int) (numOf ((L.drop i).take k)) (k : Int)) (numOf ((L.drop i).take n), true) := by
 intro d
 induction d with
 | zero =>
   intro k hk
   obtain rfl : n = k := hk
   refine Ev.step (f := fun _ => some (numOf ((L.drop i).take n), true)) (fun r => ?_) (Ev.now _)
   simp only [loessref6_Bits_Num.l0]
   rw [if_neg (by omega)]
 | succ d ih =>
   intro k hk
   have hkl : k < (L.drop i).length := by rw [List.length_drop]; omega
   have hbd := numOf_bd k ((L.drop i).take k) (by rw [List.length_take]; omega)
   have h2p : (2 : Int) ^ k ≤ 2 ^ 63 := by have := Nat.pow_le_pow_right (n := 2) (by decide) (show k ≤ 63 by omega); exact_mod_cast this
   have e63 : (2 : Int) ^ 63 = 9223372036854775808 := rfl
   have hw : wrap64 ((i : Int) + (k : Int)) = ((i + k : Nat) : Int) := by rw [w64 (by omega) (by omega)]; rfl
   have hw1 : wrap64 ((k : Int) + 1) = ((k + 1 : Nat) : Int) := by rw [w64 (by omega) (by omega)]; rfl
   have hsh : IntKind.u64.wrap (numOf ((L.drop i).take k) * 2) = numOf ((L.drop i).take k) * 2 := u64 (by omega) (by omega)
   have hsh1 : IntKind.u64.wrap (numOf ((L.drop i).take k) * 2 + 1) = numOf ((L.drop i).take k) * 2 + 1 := u64 (by omega) (by omega)
   have hrd : rdOf false L ((i + k : Nat) : Int) = (L.drop i)[k] := by
    unfold rdOf
    rw [Int.toNat_natCast, List.getElem_drop, List.getD_eq_getElem?_getD, List.getElem?_eq_getElem (by omega)]
    rfl
   have hs : numOf ((L.drop i).take (k + 1)) = 2 * numOf ((L.drop i).take k) + if (L.drop i)[k] = true then 1 else 0 := by
    rw [List.take_succ_eq_append_getElem hkl, numOf_snoc]
   refine Ev.step (f := fun r => loessref6_Bits_Num.l0 r L (i : Int) (n : Int) (numOf ((L.drop i).take (k + 1))) ((k + 1 : Nat) : Int)) (fun r => ?_) (ih (k + 1) (by omega))
   simp only [loessref6_Bits_Num.l0]
   rw [if_pos (by omega), hw, if_pos (by omega), if_pos (by omega), hrd, hw1, hsh, hsh1, hs]
   cases (L.drop i)[k]
   · rw [if_neg (by simp)]
     simp only [Bool.false_eq_true, if_false, Int.add_zero]
     rw [Int.mul_comm]
   · rw [if_pos rfl]
     simp only [if_true]
     rw [Int.mul_comm]
theorem num_ev (L : List Bool) (i n : Int) (hl : L.length < 100000000000) : Ev (fun r => loessref6_Bits_Num.f r L i n) (numP (numAt L i n)) := by
 unfold loessref6_Bits_Num.f
 have hbad : ∀ {i n : Int}, numAt L i n = none → Ev (fun r => loessref6_Bits_Num.j0 r L i n true) (numP (numAt L i n)) := by
  intro i n h
  rw [h]
  refine Ev.step (f := fun _ => some (0, false)) (fun r => ?_) (Ev.now _)
  simp only [loessref6_Bits_Num.j0]
  exact if_pos trivial
 by_cases h1 : i < 0
 · simp only [if_pos h1]
   exact hbad (if_neg (by omega))
 · simp only [if_neg h1]
   by_cases h2 : n < 0
   · simp only [if_pos h2]
     exact hbad (if_neg (by omega))
   · simp only [if_neg h2]
     by_cases h3 : n > 64
     · simp only [if_pos h3]
       exact hbad (if_neg (by omega))
     · simp only [if_neg h3]
       by_cases h4 : i > (L.length : Int)
       · simp only [if_pos h4]
         exact hbad (if_neg (by omega))
       · simp only [if_neg h4]
         have hw : wrap64 ((L.length : Int) - i) = (L.length : Int) - i := w64 (by omega) (by omega)
         rw [hw]
         by_cases h5 : n > (L.length : Int) - i
         · rw [decide_eq_true h5]
           exact hbad (if_neg (by omega))
         · rw [decide_eq_false h5]
           obtain ⟨i, rfl⟩ := Int.eq_ofNat_of_zero_le (show 0 ≤ i by omega)
           obtain ⟨n, rfl⟩ := Int.eq_ofNat_of_zero_le (show 0 ≤ n by omega)
           have e : numAt L (i : Int) (n : Int) = some (numOf ((L.drop i).take n)) := if_pos ⟨by omega, by omega, by omega, by omega⟩
           rw [e]
           refine Ev.step (f := fun r => loessref6_Bits_Num.l0 r L (i : Int) (n : Int) 0 0) (fun r => ?_) ?_
           · simp only [loessref6_Bits_Num.j0]
             rw [if_neg (by simp)]
           · have := num_l0 L i n hl (by omega) (by omega) n 0 (by omega)
             exact this
def getP (at_ : Int) : Option (Int × Int) → Int × Int × Bool
 | some (x, e) => (x, e, true)
 | none => (0, at_, false)
theorem numOf_pos (L : List Bool) (i n : Nat) (hn : 0 < n) (hb : L.getD i false = true) (hi : i < L.length) : 0 < numOf ((L.drop i).take n) := by
 obtain ⟨m, rfl⟩ : ∃ m, n = m + 1 := ⟨n - 1, by omega⟩
 clear hn
 induction m with
 | zero =>
   rw [List.drop_eq_getElem_cons hi]
   rw [List.getD_eq_getElem?_getD, List.getElem?_eq_getElem hi] at hb
   simp at hb
   simp [numOf, hb]
 | succ m ih =>
   by_cases h : m + 1 < (L.drop i).length
   · rw [List.take_succ_eq_append_getElem h, numOf_snoc]
     split <;> omega
   · rw [List.take_of_length_le (by omega)]
     rw [List.take_of_length_le (by omega)] at ih
     exact ih
theorem get_j1 (L : List Bool) (i z : Nat) (hl : L.length < 100000000000) (hi : i < L.length) (hz : z = zeros (L.drop i) 64) :
    Ev (fun r => loessref6_GetGamma.j1 r L (i : Int) (z : Int)) (getP i (getG L i)) := by
 have hsp := zeros_spec (L.drop i) 64
 rw [← hz] at hsp
 have hg : getG L i = if z = 64 then none else (numAt L ((i : Int) + (z : Int)) ((z : Int) + 1)).map fun x => (x, (i : Int) + 2 * (z : Int) + 1) := by
  unfold getG
  rw [if_neg (by omega), Int.toNat_natCast, ← hz]
 have hzl : z ≤ L.length - i := by rw [← List.length_drop]; exact hsp.2.1
 by_cases h64 : z = 64
 · rw [hg, if_pos h64]
   refine Ev.step (f := fun _ => some (0, (i : Int), false)) (fun r => ?_) (Ev.now _)
   simp only [loessref6_GetGamma.j1]
   rw [if_pos (by omega)]
 · have hw : Aside0 (wrap64 ((i : Int) + (z : Int)) = (i : Int) + (z : Int)) := ⟨w64 (by omega) (by omega)⟩
   have hw1 : Aside0 (wrap64 ((z : Int) + 1) = (z : Int) + 1) := ⟨w64 (by omega) (by omega)⟩
   have hw2 : Aside0 (wrap64 (2 * (z : Int)) = 2 * (z : Int)) := ⟨w64 (by omega) (by omega)⟩
   have hw3 : Aside0 (wrap64 ((i : Int) + 2 * (z : Int)) = (i : Int) + 2 * (z : Int)) := ⟨w64 (by omega) (by omega)⟩
   have hw4 : Aside0 (wrap64 ((i : Int) + 2 * (z : Int) + 1) = (i : Int) + 2 * (z : Int) + 1) := ⟨w64 (by omega) (by omega)⟩
   refine Ev.step (f := fun r => (loessref6_Bits_Num.f r L ((i : Int) + (z : Int)) ((z : Int) + 1)).bind fun bt => if bt.2 = true then (if bt.1 = 0 then some (0, (i : Int), false) else some (bt.1, (i : Int) + 2 * (z : Int) + 1, true)) else some (0, (i : Int), false)) (fun r => ?_) ?_
   · simp only [loessref6_GetGamma.j1]
     rw [if_neg (by omega), hw.out, hw1.out, hw2.out, hw3.out, hw4.out]
   · refine Ev.bind (num_ev L _ _ hl) ?_
     rw [hg, if_neg h64]
     cases hn : numAt L ((i : Int) + (z : Int)) ((z : Int) + 1) with
     | none => exact Ev.now _
     | some x =>
       have hx : 0 < x := by
        unfold numAt at hn
        split at hn
        · rename_i hc
          injection hn with hn
          rw [← hn]
          have e1 : ((i : Int) + (z : Int)).toNat = i + z := by omega
          have e2 : ((z : Int) + 1).toNat = z + 1 := by omega
          rw [e1, e2]
          refine numOf_pos L (i + z) (z + 1) (by omega) ?_ (by omega)
          have := hsp.2.2.2 (by omega) (by rw [List.length_drop]; omega)
          rw [List.getD_eq_getElem?_getD, List.getElem?_drop, ← List.getD_eq_getElem?_getD] at this
          exact this
        · cases hn
       refine Ev.congr (f := fun _ => some (getP i (Option.map (fun x => (x, (i : Int) + 2 * (z : Int) + 1)) (some x)))) (fun r => ?_) (Ev.now _)
       have h0 : ¬ (numP (some x)).1 = 0 := by show ¬ x = 0; omega
       have h1 : (numP (some x)).2 = true := rfl
       rw [if_pos h1, if_neg h0]
       rfl
theorem get_l0 (L : List Bool) (i z : Nat) (hl : L.length < 100000000000) (hi : i < L.length) (hz : z = zeros (L.drop i) 64) :
    ∀ d k, z = k + d → Ev (fun r => loessref6_GetGamma.l0 r L (i : Int) (k : Int)) (getP i (getG L i)) := by
 have hsp := zeros_spec (L.drop i) 64
 rw [← hz] at hsp
 have hzl : z ≤ L.length - i := by rw [← List.length_drop]; exact hsp.2.1
 intro d
 induction d with
 | zero =>
   intro k hk
   obtain rfl : z = k := hk
   have hw : Aside0 (wrap64 ((i : Int) + (z : Int)) = ((i + z : Nat) : Int)) := ⟨by rw [w64 (by omega) (by omega)]; rfl⟩
   refine Ev.step (f := fun r => loessref6_GetGamma.j1 r L (i : Int) (z : Int)) (fun r => ?_) (get_j1 L i z hl hi hz)
   simp only [loessref6_GetGamma.l0]
   by_cases h64 : (z : Int) < 64
   · rw [if_pos h64, hw.out]
     by_cases hend : ((i + z : Nat) : Int) < (L.length : Int)
     · rw [if_pos hend, if_pos (by omega)]
       have := hsp.2.2.2 (by omega) (by rw [List.length_drop]; omega)
       rw [List.getD_eq_getElem?_getD, List.getElem?_drop, ← List.getD_eq_getElem?_getD] at this
       rw [if_pos (show rdOf false L ((i + z : Nat) : Int) = true from this)]
     · rw [if_neg hend]
   · rw [if_neg h64]
 | succ d ih =>
   intro k hk
   have hw : Aside0 (wrap64 ((i : Int) + (k : Int)) = ((i + k : Nat) : Int)) := ⟨by rw [w64 (by omega) (by omega)]; rfl⟩
   have hw1 : Aside0 (wrap64 ((k : Int) + 1) = ((k + 1 : Nat) : Int)) := ⟨by rw [w64 (by omega) (by omega)]; rfl⟩
   refine Ev.step (f := fun r => loessref6_GetGamma.l0 r L (i : Int) ((k + 1 : Nat) : Int)) (fun r => ?_) (ih (k + 1) (by omega))
   simp only [loessref6_GetGamma.l0]
   have := hsp.2.2.1 k (by omega)
   rw [List.getD_eq_getElem?_getD, List.getElem?_drop, ← List.getD_eq_getElem?_getD] at this
   have hrd : rdOf false L ((i + k : Nat) : Int) = false := this
   rw [if_pos (by omega), hw.out, if_pos (by omega), if_pos (by omega), hrd, if_neg (by simp), hw1.out]
theorem getGamma_ev (L : List Bool) (at_ : Int) (hl : L.length < 100000000000) (h1 : at_ < 9223372036854775808) : Ev (fun r => loessref6_GetGamma.f r L at_) (getP at_ (getG L at_)) := by
 unfold loessref6_GetGamma.f
 by_cases h0 : at_ < 0
 · simp only [if_pos h0]
   have e : getG L at_ = none := if_pos h0
   rw [e]
   exact Ev.now _
 · simp only [if_neg h0]
   by_cases hi : at_ < (L.length : Int)
   · obtain ⟨i, rfl⟩ := Int.eq_ofNat_of_zero_le (show 0 ≤ at_ by omega)
     exact get_l0 L i _ hl (by omega) rfl (zeros (L.drop i) 64) 0 (by omega)
   · have e : getG L at_ = none := by
       unfold getG
       rw [if_neg h0, List.drop_of_length_le (by omega)]
       have e : zeros ([] : List Bool) 64 = 0 := rfl
       rw [e, if_neg (by decide), numAt_none (by omega)]
       rfl
     rw [e]
     have hw : Aside0 (wrap64 (at_ + 0) = at_) := ⟨by rw [w64 (by omega) (by omega)]; omega⟩
     have hw1 : Aside0 (wrap64 (0 + 1) = 1) := ⟨w64 (by decide) (by decide)⟩
     refine Ev.step (f := fun r => loessref6_GetGamma.j1 r L at_ 0) (fun r => ?_) ?_
     · simp only [loessref6_GetGamma.l0]
       rw [if_pos (by decide), hw.out, if_neg hi]
     · refine Ev.step (f := fun r => (loessref6_Bits_Num.f r L at_ 1).bind fun bt => if bt.2 = true then (if bt.1 = 0 then some (0, at_, false) else some (bt.1, wrap64 (wrap64 (at_ + wrap64 (2 * 0)) + 1), true)) else some (0, at_, false)) (fun r => ?_) ?_
       · simp only [loessref6_GetGamma.j1]
         rw [if_neg (by decide), hw.out, hw1.out]
       · refine Ev.bind (num_ev L _ _ hl) ?_
         rw [numAt_none (by omega)]
         exact Ev.now _
end Go.Proofs.Ytkhcmddeeodbkaa.GL
namespace Go.Proofs.Ytkhcmddeeodbkaa.GL
open Go.RowKit Go.Proofs.YtkhcmddeeodbkaaW.PrintWords Go.Proofs.YtkhcmddeeodbkaaW.PrintLast Go.Proofs.YtkhcmddeeodbkaaW.PrintMore Go.Proofs.Ytkhcmddeeodbkaa.Q Go.Proofs.Ytkhcmddeeodbkaa.XSor Go.Proofs.Ytkhcmddeeodbkaa.G
def bitT (h : Int) (k : Nat) : Bool := h / 2 ^ k % 2 == 1
set_option maxRecDepth 1000000 in
set_option maxHeartbeats 8000000 in
theorem trie_bit {w : World} {h : Int} (k : Nat) (hk : k ≤ 63) (h0 : 0 ≤ h) (h1 : h < 18446744073709551616) :
    Calls Try.prog 75 #[.int .u64 h, .int .i64 (63 - (k : Int))] w fun e w' => e = .returned (.bool (bitT h k)) ∧ w = w' := by
 have hand := and1_shr k h0 h1
 obtain ⟨b, hb⟩ : ∃ b, b = bitT h k := ⟨_, rfl⟩
 have HBB := Aside0.mk hb
 have he : (h / 2 ^ k % 2 == 1) = b := hb.symm
 rw [← hb]
 have hsub : (63 : Int) - (63 - (k : Int)) = (k : Int) := by omega
 clear hb
 go_enter Try.func75, Try.ntmps75
 go_wp2
 go_ret
 exact ⟨rfl, rfl⟩
theorem getG_spec {L : List Bool} {at_ x e : Int} (h : getG L at_ = some (x, e)) : 0 < x ∧ x < 18446744073709551616 ∧ e ≤ L.length ∧ 0 ≤ at_ ∧ at_ < e := by
 unfold getG at h
 split at h
 · cases h
 · rename_i h0
   split at h
   · cases h
   · rename_i h64
     have hsp := zeros_spec (L.drop at_.toNat) 64
     obtain ⟨z, hz⟩ : ∃ z, z = zeros (L.drop at_.toNat) 64 := ⟨_, rfl⟩
     rw [← hz] at h hsp h64
     unfold numAt at h
     split at h
     · rename_i hc
       simp only [Option.map_some, Option.some.injEq, Prod.mk.injEq] at h
       obtain ⟨hx, he⟩ := h
       have ha : (at_ + (z : Int)).toNat = at_.toNat + z := by omega
       have hn : ((z : Int) + 1).toNat = z + 1 := by omega
       rw [ha, hn] at hx
       have hbit := hsp.2.2.2 (by omega) (by rw [List.length_drop]; omega)
       rw [List.getD_eq_getElem?_getD, List.getElem?_drop, ← List.getD_eq_getElem?_getD] at hbit
       have hpos : 0 < numOf ((L.drop (at_.toNat + z)).take (z + 1)) := numOf_pos L (at_.toNat + z) (z + 1) (by omega) hbit (by omega)
       have hbd := numOf_bd (z + 1) ((L.drop (at_.toNat + z)).take (z + 1)) (by rw [List.length_take, List.length_drop]; omega)
       have h2p : (2 : Int) ^ (z + 1) ≤ 2 ^ 64 := by have := Nat.pow_le_pow_right (n := 2) (by decide) (show z + 1 ≤ 64 by omega); exact_mod_cast this
       have e64 : (2 : Int) ^ 64 = 18446744073709551616 := rfl
       refine ⟨?_, ?_, ?_, ?_, ?_⟩
       · omega
       · omega
       · omega
       · omega
       · omega
     · cases h
def readT (L : List Bool) (at_ n : Int) : Option (Int × Int) := match getG L at_ with
 | none => none
 | some (x, e) => if n < x - 1 then none else some (x - 1, e)
theorem readT_spec {L : List Bool} {at_ n l e : Int} (h : readT L at_ n = some (l, e)) : 0 ≤ l ∧ l ≤ n ∧ e ≤ L.length ∧ 0 ≤ at_ ∧ at_ < e := by
 unfold readT at h
 split at h
 · cases h
 · rename_i x e' hg
   have := getG_spec hg
   split at h
   · cases h
   · simp only [Option.some.injEq, Prod.mk.injEq] at h
     omega
def readR : Option (Int × Int) → Value
 | some (x, e) => .tuple #[.int .i64 x, .int .i64 e, .bool true]
 | none => .tuple #[.int .i64 0, .int .i64 0, .bool false]
set_option maxRecDepth 1000000 in
set_option maxHeartbeats 8000000 in
theorem trie_read {w : World} {P : Option Addr} {L : List Bool} (at_ n d : Int) (h : BitsP w P L) (hl : L.length < 100000000000) (hn0 : 0 ≤ n) (hn : n ≤ 4096) (hd : d < 64) :
    Calls Try.prog 78 #[.pointer P, .int .i64 at_, .int .i64 n, .int .i64 d] w fun e w' => e = .returned (readR (readT L at_ n)) ∧ w = w' := by
 have HL := Aside0.mk h
 have HLL := Aside0.mk hl
 obtain ⟨g, hg⟩ : ∃ g, g = getG L at_ := ⟨_, rfl⟩
 have HG := Aside0.mk hg
 have hdd : decide (64 ≤ d) = false := decide_eq_false (by omega)
 cases g with
 | none =>
   have HE := Aside0.mk (show readT L at_ n = none by unfold readT; rw [← hg])
   clear h hl hg
   go_enter Try.func78, Try.ntmps78
   go_wp2_with (first | (go_at_call 85; refine (gamma_Get _ HL.out HLL.out).mono ?_; rw [← HG.out]; rintro e w' ⟨rfl, rfl⟩; simp only [getR]))
   go_ret3
   rw [HE.out]
   exact ⟨rfl, rfl⟩
 | some xe =>
   obtain ⟨x, e⟩ := xe
   have hsp := getG_spec hg.symm
   have hx0 : 0 < x := hsp.1
   have hx1 : x < 18446744073709551616 := hsp.2.1
   clear h hl hsp
   by_cases hlt : n < x - 1
   · have HE := Aside0.mk (show readT L at_ n = none by unfold readT; rw [← hg]; exact if_pos hlt)
     have h1 := decide_eq_true hlt
     clear hg
     go_enter Try.func78, Try.ntmps78
     go_wp2_with (first | (go_at_call 85; refine (gamma_Get _ HL.out HLL.out).mono ?_; rw [← HG.out]; rintro e w' ⟨rfl, rfl⟩; simp only [getR]))
     go_ret3
     rw [HE.out]
     exact ⟨rfl, rfl⟩
   · have HE := Aside0.mk (show readT L at_ n = some (x - 1, e) by unfold readT; rw [← hg]; exact if_neg hlt)
     have h1 := decide_eq_false hlt
     clear hg
     go_enter Try.func78, Try.ntmps78
     go_wp2_with (first | (go_at_call 85; refine (gamma_Get _ HL.out HLL.out).mono ?_; rw [← HG.out]; rintro e w' ⟨rfl, rfl⟩; simp only [getR]))
     go_ret3
     rw [HE.out]
     exact ⟨rfl, rfl⟩
set_option maxRecDepth 1000000 in
set_option maxHeartbeats 8000000 in
theorem trie_read_deep {w : World} {P : Option Addr} {L : List Bool} (at_ n : Int) (h : BitsP w P L) (hl : L.length < 100000000000) (hn0 : 0 ≤ n) (hn : n ≤ 4096) :
    Calls Try.prog 78 #[.pointer P, .int .i64 at_, .int .i64 n, .int .i64 64] w fun e w' => e = .returned (readR none) ∧ w = w' := by
 have HL := Aside0.mk h
 have HLL := Aside0.mk hl
 obtain ⟨g, hg⟩ : ∃ g, g = getG L at_ := ⟨_, rfl⟩
 have HG := Aside0.mk hg
 clear h hl
 cases g with
 | none =>
   clear hg
   go_enter Try.func78, Try.ntmps78
   go_wp2_with (first | (go_at_call 85; refine (gamma_Get _ HL.out HLL.out).mono ?_; rw [← HG.out]; rintro e w' ⟨rfl, rfl⟩; simp only [getR]))
   go_ret3
   exact ⟨rfl, rfl⟩
 | some xe =>
   obtain ⟨x, e⟩ := xe
   clear hg
   go_enter Try.func78, Try.ntmps78
   go_wp2_with (first | (go_at_call 85; refine (gamma_Get _ HL.out HLL.out).mono ?_; rw [← HG.out]; rintro e w' ⟨rfl, rfl⟩; simp only [getR]))
   go_ret3
   exact ⟨rfl, rfl⟩
def skipT (L : List Bool) : Nat → Int → Int → Option Int
 | 0, at_, n => if n < 2 then some at_ else none
 | k + 1, at_, n => if n < 2 then some at_ else match readT L at_ n with
   | none => none
   | some (l, e) => match skipT L k e l with
     | none => none
     | some t => skipT L k t (n - l)
def skipR : Option Int → Value
 | some t => .tuple #[.int .i64 t, .bool true]
 | none => .tuple #[.int .i64 0, .bool false]
set_option maxRecDepth 1000000 in
set_option maxHeartbeats 8000000 in
theorem trie_skip {w : World} {P : Option Addr} {L : List Bool} (h : BitsP w P L) (hl : L.length < 100000000000) : ∀ (k : Nat) (at_ n d : Int), k ≤ 64 → d = 64 - (k : Int) → 0 ≤ n → n ≤ 4096 →
    Calls Try.prog 79 #[.pointer P, .int .i64 at_, .int .i64 n, .int .i64 d] w fun e w' => e = .returned (skipR (skipT L k at_ n)) ∧ w = w' := by
 have HL := Aside0.mk h
 have HLL := Aside0.mk hl
 clear h hl
 intro k
 induction k with
 | zero =>
   intro at_ n d _ hd hn0 hn
   obtain rfl : d = 64 := by omega
   clear hd
   by_cases h2 : n < 2
   · have HE := Aside0.mk (show skipT L 0 at_ n = some at_ from if_pos h2)
     have h1 := decide_eq_true h2
     clear h2
     go_enter Try.func79, Try.ntmps79
     go_wp2
     go_ret2
     rw [HE.out]
     exact ⟨rfl, rfl⟩
   · have HE := Aside0.mk (show skipT L 0 at_ n = none from if_neg h2)
     have h1 := decide_eq_false h2
     have HN0 := Aside0.mk hn0
     have HN := Aside0.mk hn
     clear h2 hn0 hn
     go_enter Try.func79, Try.ntmps79
     go_wp2_with (first | (go_at_call 78; refine (trie_read_deep _ _ HL.out HLL.out HN0.out HN.out).mono ?_; rintro e w' ⟨rfl, rfl⟩; simp only [readR]))
     go_ret2
     rw [HE.out]
     exact ⟨rfl, rfl⟩
 | succ k ih =>
   intro at_ n d hk hd hn0 hn
   by_cases h2 : n < 2
   · have HE := Aside0.mk (show skipT L (k + 1) at_ n = some at_ from if_pos h2)
     have h1 := decide_eq_true h2
     clear h2 ih hd hk
     go_enter Try.func79, Try.ntmps79
     go_wp2
     go_ret2
     rw [HE.out]
     exact ⟨rfl, rfl⟩
   · have h1 := decide_eq_false h2
     have HE := Aside0.mk (show skipT L (k + 1) at_ n = match readT L at_ n with
      | none => none
      | some (l, e) => match skipT L k e l with
        | none => none
        | some t => skipT L k t (n - l) from if_neg h2)
     obtain ⟨r, hr⟩ : ∃ r, r = readT L at_ n := ⟨_, rfl⟩
     rw [← hr] at HE
     have HR := Aside0.mk hr
     have HN0 := Aside0.mk hn0
     have HN := Aside0.mk hn
     have HD := Aside0.mk (show d < 64 by omega)
     have hd1 : d + 1 = 64 - (k : Int) := by omega
     have hdl : d < 64 := HD.out
     have hdg : 0 ≤ d := by omega
     have HI := Aside0.mk (fun (at_ n : Int) (h0 : 0 ≤ n) (h1 : n ≤ 4096) => ih at_ n (64 - (k : Int)) (by omega) rfl h0 h1)
     clear ih h2 hd hk
     cases r with
     | none =>
       have HE := Aside0.mk (show skipT L (k + 1) at_ n = none from HE.out)
       clear hr hn0 hn
       go_enter Try.func79, Try.ntmps79
       go_wp2_with (first | (go_at_call 78; refine (trie_read _ _ _ HL.out HLL.out HN0.out HN.out HD.out).mono ?_; rw [← HR.out]; rintro e w' ⟨rfl, rfl⟩; simp only [readR]))
       go_ret2
       rw [HE.out]
       exact ⟨rfl, rfl⟩
     | some le =>
       obtain ⟨l, e⟩ := le
       have hsp := readT_spec hr.symm
       have hl0 : 0 ≤ l := hsp.1
       have hln : l ≤ n := hsp.2.1
       have HL0 := Aside0.mk hl0
       have HL1 := Aside0.mk (show l ≤ 4096 by omega)
       have HM0 := Aside0.mk (show 0 ≤ n - l by omega)
       have HM1 := Aside0.mk (show n - l ≤ 4096 by omega)
       obtain ⟨s, hs⟩ : ∃ s, s = skipT L k e l := ⟨_, rfl⟩
       replace HE : Aside0 (skipT L (k + 1) at_ n = match skipT L k e l with
        | none => none
        | some t => skipT L k t (n - l)) := ⟨HE.out⟩
       rw [← hs] at HE
       have HS := Aside0.mk hs
       clear hr hsp hs
       cases s with
       | none =>
         replace HE : Aside0 (skipT L (k + 1) at_ n = none) := ⟨HE.out⟩
         go_enter Try.func79, Try.ntmps79
         go_wp2_with (first
          | (go_at_call 78; refine (trie_read _ _ _ HL.out HLL.out HN0.out HN.out HD.out).mono ?_; rw [← HR.out]; rintro e w' ⟨rfl, rfl⟩; simp only [readR])
          | (go_at_call 79; (try rw [hd1]); refine (HI.out _ _ HL0.out HL1.out).mono ?_; rw [← HS.out]; rintro e w' ⟨rfl, rfl⟩; simp only [skipR]))
         go_ret2
         rw [HE.out]
         exact ⟨rfl, rfl⟩
       | some t =>
         replace HE : Aside0 (skipT L (k + 1) at_ n = skipT L k t (n - l)) := ⟨HE.out⟩
         obtain ⟨q, hq⟩ : ∃ q, q = skipT L k t (n - l) := ⟨_, rfl⟩
         rw [← hq] at HE
         have HQ := Aside0.mk hq
         clear hq
         cases q with
         | none =>
           go_enter Try.func79, Try.ntmps79
           go_wp2_with (first
            | (go_at_call 78; refine (trie_read _ _ _ HL.out HLL.out HN0.out HN.out HD.out).mono ?_; rw [← HR.out]; rintro e w' ⟨rfl, rfl⟩; simp only [readR])
            | (go_at_call 79; (try rw [hd1]); (first | ((with_reducible refine (HI.out e l HL0.out HL1.out).mono ?_); rw [← HS.out]) | ((with_reducible refine (HI.out t (n - l) HM0.out HM1.out).mono ?_); rw [← HQ.out])); rintro e w' ⟨rfl, rfl⟩; simp only [skipR]))
           go_ret2
           rw [HE.out]
           exact ⟨rfl, rfl⟩
         | some y =>
           go_enter Try.func79, Try.ntmps79
           go_wp2_with (first
            | (go_at_call 78; refine (trie_read _ _ _ HL.out HLL.out HN0.out HN.out HD.out).mono ?_; rw [← HR.out]; rintro e w' ⟨rfl, rfl⟩; simp only [readR])
            | (go_at_call 79; (try rw [hd1]); (first | ((with_reducible refine (HI.out e l HL0.out HL1.out).mono ?_); rw [← HS.out]) | ((with_reducible refine (HI.out t (n - l) HM0.out HM1.out).mono ?_); rw [← HQ.out])); rintro e w' ⟨rfl, rfl⟩; simp only [skipR]))
           go_ret2
           rw [HE.out]
           exact ⟨rfl, rfl⟩
end Go.Proofs.Ytkhcmddeeodbkaa.GL
