import Derived.Test.YtkhcmddeeodbkaaZSortedAll16
-- Own texts and, of the words that the kit's print program wrote for this claim, those that are needed here: put together by wip/prune.py.
set_option linter.unusedSimpArgs false
set_option linter.unusedVariables false
namespace Go.Proofs.Ytkhcmddeeodbkaa.XSor
open Go.RowKit Go.Proofs.Ytkhcmddeeodbkaa.G Go.Proofs.YtkhcmddeeodbkaaW.PrintWords Go.Proofs.YtkhcmddeeodbkaaW.PrintLast Go.Proofs.YtkhcmddeeodbkaaW.PrintMore
attribute [local go_sem] max2_int min2_int max_two min_two max_three min_three max_four min_four
mutual
def loessref6_Tree.j0 : Nat → List Int → Int → Bool → Option (List Bool)
 | 0, _, _, _ => none
 | k + 1, x0, x1, x14 => if x14 = true then (some ([] : List Bool)) else (loessref6_Tree.l0 k x0 x1 0 0)
def loessref6_Tree.l0 : Nat → List Int → Int → Int → Int → Option (List Bool)
 | 0, _, _, _, _ => none
 | k + 1, x0, x1, x5, x6 => if x6 < (x0.length : Int) then (if 0 ≤ x6 then (if 0 ≤ (IntKind.u64.wrap (wrap64 (63 - x1))) then (if (Go.bits .and .u64 (shr .u64 (rd x0 x6) (IntKind.u64.wrap (wrap64 (63 - x1)))) 1) = 0 then (loessref6_Tree.l0 k x0 x1 (wrap64 (x5 + 1)) (wrap64 (x6 + 1))) else (loessref6_Tree.l0 k x0 x1 x5 (wrap64 (x6 + 1)))) else (none)) else (none)) else ((loessref6_Gamma.f k (IntKind.u64.wrap ((IntKind.u64.wrap (x5)) + 1))).bind fun t414 => (if ([] : List Bool).length + t414.length < 140737488355328 then ((some (([] : List Bool) ++ t414 : List Bool)).bind fun y417 => (if 0 ≤ x5 then (if x5 ≤ (x0.length : Int) then ((loessref6_Tree.f k (x0.take (x5 : Int).toNat) (wrap64 (x1 + 1))).bind fun t424 => (if y417.length + t424.length < 140737488355328 then ((some (y417 ++ t424 : List Bool)).bind fun y427 => ((loessref6_Tree.f k (x0.drop (x5 : Int).toNat) (wrap64 (x1 + 1))).bind fun t434 => (if y427.length + t434.length < 140737488355328 then (some (y427 ++ t434)) else (none)))) else (none))) else (none)) else (none))) else (none)))
def loessref6_Tree.f : Nat → List Int → Int → Option (List Bool)
 | 0, _, _ => none
 | k + 1, l0, a1 => if (l0.length : Int) ≤ 1 then (loessref6_Tree.j0 k l0 a1 true) else (loessref6_Tree.j0 k l0 a1 (decide (a1 > 63)))
end
theorem loessref6_Tree.mono_l : ∀ k, (∀ y0 y1, LeO (loessref6_Tree.f k y0 y1) (loessref6_Tree.f (k + 1) y0 y1)) ∧ (∀ y0 y1 y2, LeO (loessref6_Tree.j0 k y0 y1 y2) (loessref6_Tree.j0 (k + 1) y0 y1 y2)) ∧ (∀ y0 y1 y2 y3, LeO (loessref6_Tree.l0 k y0 y1 y2 y3) (loessref6_Tree.l0 (k + 1) y0 y1 y2 y3))
 | 0 => ⟨fun _ _ r h => by simp [loessref6_Tree.f] at h, fun _ _ _ r h => by simp [loessref6_Tree.j0] at h, fun _ _ _ _ r h => by simp [loessref6_Tree.l0] at h⟩
 | k + 1 => by
   obtain ⟨ih0, ih1, ih2⟩ := loessref6_Tree.mono_l k
   refine ⟨?_, ?_, ?_⟩
   · intro y0 y1
     unfold loessref6_Tree.f
     repeat' first
     | (with_reducible exact ih0 _ _)
     | (with_reducible exact ih1 _ _ _)
     | (with_reducible exact ih2 _ _ _ _)
     | (with_reducible exact loessref6_Gamma.mono _ _)
     | (with_reducible exact LeO.refl _)
     | (with_reducible exact LeO.none _)
     | (with_reducible refine LeO.ite ?_ ?_)
     | (with_reducible refine LeO.bind ?_ (fun _ => ?_))
     | exact ih0 _ _
     | exact ih1 _ _ _
     | exact ih2 _ _ _ _
     | exact loessref6_Gamma.mono _ _
     | exact LeO.none _
     | refine LeO.ite ?_ ?_
     | refine LeO.bind ?_ (fun _ => ?_)
   · intro y0 y1 y2
     unfold loessref6_Tree.j0
     repeat' first
     | (with_reducible exact ih0 _ _)
     | (with_reducible exact ih1 _ _ _)
     | (with_reducible exact ih2 _ _ _ _)
     | (with_reducible exact loessref6_Gamma.mono _ _)
     | (with_reducible exact LeO.refl _)
     | (with_reducible exact LeO.none _)
     | (with_reducible refine LeO.ite ?_ ?_)
     | (with_reducible refine LeO.bind ?_ (fun _ => ?_))
     | exact ih0 _ _
     | exact ih1 _ _ _
     | exact ih2 _ _ _ _
     | exact loessref6_Gamma.mono _ _
     | exact LeO.none _
     | refine LeO.ite ?_ ?_
     | refine LeO.bind ?_ (fun _ => ?_)
   · intro y0 y1 y2 y3
     unfold loessref6_Tree.l0
     repeat' first
     | (with_reducible exact ih0 _ _)
     | (with_reducible exact ih1 _ _ _)
     | (with_reducible exact ih2 _ _ _ _)
     | (with_reducible exact loessref6_Gamma.mono _ _)
     | (with_reducible exact LeO.refl _)
     | (with_reducible exact LeO.none _)
     | (with_reducible refine LeO.ite ?_ ?_)
     | (with_reducible refine LeO.bind ?_ (fun _ => ?_))
     | exact ih0 _ _
     | exact ih1 _ _ _
     | exact ih2 _ _ _ _
     | exact loessref6_Gamma.mono _ _
     | exact LeO.none _
     | refine LeO.ite ?_ ?_
     | refine LeO.bind ?_ (fun _ => ?_)
theorem loessref6_Tree.mono : ∀ a0 a1 k, LeO (loessref6_Tree.f k a0 a1) (loessref6_Tree.f (k + 1) a0 a1) := by
 intro a0 a1 k
 obtain ⟨ih0, ih1, ih2⟩ := loessref6_Tree.mono_l k
 exact ih0 a0 a1
set_option maxHeartbeats 8000000 in
set_option maxRecDepth 100000 in
theorem loessref6_Tree.calls (k : Nat) : ∀ (A0 : Option Addr) (c0 : Nat) (l0 : List Int) (a1 : Int) (r : List Bool) (w : World) (hr0 : Kd.C (Kd.int .u64) w A0 l0.length l0) (hc0 : l0.length ≤ c0) (h : loessref6_Tree.f k l0 a1 = some r),
    Calls Try.prog 67 #[.slice A0 l0.length c0, .int .i64 a1] w fun e w' => ∃ v0_ : Value, e = .returned (v0_) ∧ Kd.R Kd.bool 4 w' w.heap.size (fun _ => True) v0_ r ∧ Below w.heap.size w w' := by
 induction k using Nat.strongRecOn with
 | _ k ih =>
 intro A0 c0 l0 a1 r w hr0 hc0 h
 cases k with
 | zero => exact absurd h (by simp [loessref6_Tree.f])
 | succ k =>
 simp only [loessref6_Tree.f] at h
 have HR0 := Aside0.mk hr0
 have HC0 := Aside0.mk hc0
 clear hr0 hc0
 have HB := Aside0.mk (Below.refl w.heap.size w)
 have H : (if (l0.length : Int) ≤ 1 then (loessref6_Tree.j0 k l0 a1 true) else (loessref6_Tree.j0 k l0 a1 (decide (a1 > 63)))) = some r := h
 clear h
 have HC3 := Aside0.mk H
 clear H
 go_enter Try.func67, Try.ntmps67
 go_upto_region 1 with (fail)
 go_cut [14] (fun v14 wc => ∃ (kq : Nat) (x14_2 : Bool), v14 = .bool x14_2 ∧ Aside0 (loessref6_Tree.j0 kq l0 a1 x14_2 = some r) ∧ Aside0 (kq ≤ k) ∧ Aside0 (Below w.heap.size w wc))
 case first =>
  have H := HC3.out
  clear HC3
  by_cases c4 : (l0.length : Int) ≤ 1
  · rw [if_pos c4] at H
    have c4b0 : decide ((l0.length : Int) ≤ 1) = true := decide_eq_true c4
    have c4b1 : decide (l0.length ≤ 1) = true := decide_eq_true (by omega)
    clear c4
    (first | rw [c4b0] | (simp only [i64_w, i32_w]; rw [c4b0]) | skip)
    have H' := Aside0.mk H
    clear H
    go_wp2
    go_meet
    case rel => exact ⟨_, (true), (by first | rfl | (simp; done) | (simp [*]; done)), H', ⟨by first | omega | exact Nat.le_refl _⟩, ⟨by repeat (first | (with_reducible first | exact HB.out | apply below_alloc | apply pw_below_drewN | apply below_drew1) | exact HB.out)⟩⟩
  · rw [if_neg c4] at H
    have c4b0 : decide ((l0.length : Int) ≤ 1) = false := decide_eq_false c4
    have c4b1 : decide (l0.length ≤ 1) = false := decide_eq_false (by omega)
    clear c4
    (first | rw [c4b0] | (simp only [i64_w, i32_w]; rw [c4b0]) | skip)
    have H' := Aside0.mk H
    clear H
    go_wp2
    go_meet
    case rel => exact ⟨_, (decide (a1 > 63)), (by first | rfl | (simp; done) | (simp [*]; done)), H', ⟨by first | omega | exact Nat.le_refl _⟩, ⟨by repeat (first | (with_reducible first | exact HB.out | apply below_alloc | apply pw_below_drewN | apply below_drew1) | exact HB.out)⟩⟩
 case rest =>
  clear HC3
  try clear p2
  try clear c4
  try clear c4b0
  try clear c4b1
  obtain ⟨kq, x14_2, rfl, HA, HJ2, HB⟩ := hcut
  cases kq with
  | zero => exact absurd HA.out (by simp [loessref6_Tree.j0])
  | succ kj2 =>
    have H := HA.out
    clear HA
    simp only [loessref6_Tree.j0] at H
    by_cases c5 : x14_2 = true
    · subst c5
      have H1 : (some ([] : List Bool)) = some r := by rw [if_pos rfl] at H; exact H
      clear H
      have H := H1
      clear H1
      obtain rfl := Option.some.inj H
      go_wp2
      go_ret
      exact ⟨_, by first | rfl | (simp [errW_none, errW_some] <;> rfl) | (simp [*, errW_none, errW_some] <;> rfl), by first | exact Kd.R_nil _ _ _ _ _ | exact Kd.N_nil _ _ _ _ _ | exact Kd.V_nil _ _ _ _ _ | exact Kd.Q_nil _ _ _ _ _ | exact Kd.S_nil _ _ _ _ _, by repeat (first | (with_reducible first | exact HB.out | apply below_alloc | apply pw_below_drewN | apply below_drew1) | exact HB.out)⟩
    · replace c5 := Bool.eq_false_iff.mpr c5
      subst c5
      have H1 : (loessref6_Tree.l0 kj2 l0 a1 0 0) = some r := by rw [if_neg (show ¬ (false = true) by decide)] at H; exact H
      clear H
      have H := H1
      clear H1
      have H' := Aside0.mk H
      clear H
      go_wp2
      go_loopg [5, 6] kj2 (fun kq v5 v6 w' => ∃ (x5_2 : Int) (x6_2 : Int), v5 = .int .i64 x5_2 ∧ v6 = .int .i64 x6_2 ∧ Aside0 (loessref6_Tree.l0 kq l0 a1 x5_2 x6_2 = some r) ∧ Aside0 (kq ≤ kj2) ∧ Aside0 (Below w.heap.size w w'))
      case atStart => exact ⟨(0), (0), (by first | rfl | (simp; done) | (simp [*]; done)), (by first | rfl | (simp; done) | (simp [*]; done)), H', ⟨Nat.le_refl _⟩, ⟨by repeat (first | (with_reducible first | exact HB.out | apply below_alloc | apply pw_below_drewN | apply below_drew1) | exact HB.out)⟩⟩
      case round =>
       clear H'
       try clear p2
       try clear c4
       try clear c4b0
       try clear c4b1
       try clear c5
       try clear p2
       obtain ⟨x5_2, x6_2, rfl, rfl, HA, HK2, HB⟩ := hrel
       cases gk with
       | zero => exact absurd HA.out (by simp [loessref6_Tree.l0])
       | succ k2 =>
         have H := HA.out
         clear HA
         simp only [loessref6_Tree.l0] at H
         by_cases c6 : x6_2 < (l0.length : Int)
         · rw [if_pos c6] at H
           have c6b0 : decide (x6_2 < (l0.length : Int)) = true := decide_eq_true c6
           clear c6
           by_cases c7 : 0 ≤ x6_2
           · rw [if_pos c7] at H
             have c7b0 : decide (0 ≤ x6_2) = true := decide_eq_true c7
             clear c7
             obtain ⟨ji8, hji8⟩ : ∃ j_ : Int, (IntKind.u64.wrap (wrap64 (63 - a1))) = j_ := ⟨_, rfl⟩
             replace H : (if 0 ≤ (ji8) then (if (Go.bits .and .u64 (shr .u64 (rd l0 x6_2) (ji8)) 1) = 0 then (loessref6_Tree.l0 k2 l0 a1 (wrap64 (x5_2 + 1)) (wrap64 (x6_2 + 1))) else (loessref6_Tree.l0 k2 l0 a1 x5_2 (wrap64 (x6_2 + 1)))) else (none)) = some r := by first | (rw [hji8] at H; exact H) | (simp only [hji8] at H ⊢; exact H)
             by_cases c9 : 0 ≤ (ji8)
             · rw [if_pos c9] at H
               have c9b0 := eq_true c9
               have c9b1 : decide (0 ≤ (ji8)) = true := decide_eq_true c9
               clear c9
               obtain ⟨ji10, hji10⟩ : ∃ j_ : Int, (shr .u64 (rd l0 x6_2) (ji8)) = j_ := ⟨_, rfl⟩
               replace H : (if (Go.bits .and .u64 (ji10) 1) = 0 then (loessref6_Tree.l0 k2 l0 a1 (wrap64 (x5_2 + 1)) (wrap64 (x6_2 + 1))) else (loessref6_Tree.l0 k2 l0 a1 x5_2 (wrap64 (x6_2 + 1)))) = some r := by first | (rw [hji10] at H; exact H) | (simp only [hji10] at H ⊢; exact H)
               have hji10_ : ((rd l0 x6_2) / 2 ^ min (ji8).toNat 64) = ji10 := hji10
               have hji10z : (ji8) ≤ 64 → ((rd l0 x6_2) / 2 ^ (ji8).toNat) = ji10 := shr_small hji10
               by_cases c11 : (Go.bits .and .u64 (ji10) 1) = 0
               · rw [if_pos c11] at H
                 have c11b0 : ((Go.bits .and .u64 (ji10) 1) == 0) = true := beq_iff_eq.mpr c11
                 have c11b1 : ((Go.bits .and .u64 (ji10) 1) != 0) = false := bne_eq_false_iff_eq.mpr c11
                 clear c11
                 have H' := Aside0.mk H
                 clear H
                 have p413 : 0 ≤ (x6_2 : Int) := of_decide_eq_true (by first | (with_reducible assumption) | assumption)
                 have q413 : x6_2 < (l0.length : Int) := of_decide_eq_true (by first | (with_reducible assumption) | assumption)
                 obtain ⟨ad413, e413, hx413_0⟩ := Kd.at_int HR0.out x6_2 p413 q413
                 cases e413
                 replace hx413_0 := (HB.out.cell (World.block_lt_of_cell? w _ hx413_0)).trans hx413_0
                 replace p413 := eq_true p413
                 replace q413 := eq_true q413
                 go_wp2
                 go_roundg k2
                 case measure => have := HJ2.out; have := HK2.out; omega
                 case rel => exact ⟨(wrap64 (x5_2 + 1)), (wrap64 (x6_2 + 1)), (by first | rfl | (simp; done) | (simp [*]; done)), (by first | rfl | (simp; done) | (simp [*]; done)), H', ⟨by have := HJ2.out; have := HK2.out; omega⟩, ⟨by repeat (first | (with_reducible first | exact HB.out | apply below_alloc | apply pw_below_drewN | apply below_drew1) | exact HB.out)⟩⟩
               · rw [if_neg c11] at H
                 have c11b0 : ((Go.bits .and .u64 (ji10) 1) == 0) = false := beq_eq_false_iff_ne.mpr c11
                 have c11b1 : ((Go.bits .and .u64 (ji10) 1) != 0) = true := bne_iff_ne.mpr c11
                 have H' := Aside0.mk H
                 clear H
                 have p413 : 0 ≤ (x6_2 : Int) := of_decide_eq_true (by first | (with_reducible assumption) | assumption)
                 have q413 : x6_2 < (l0.length : Int) := of_decide_eq_true (by first | (with_reducible assumption) | assumption)
                 obtain ⟨ad413, e413, hx413_0⟩ := Kd.at_int HR0.out x6_2 p413 q413
                 cases e413
                 replace hx413_0 := (HB.out.cell (World.block_lt_of_cell? w _ hx413_0)).trans hx413_0
                 replace p413 := eq_true p413
                 replace q413 := eq_true q413
                 go_wp2
                 go_roundg k2
                 case measure => have := HJ2.out; have := HK2.out; omega
                 case rel => exact ⟨(x5_2), (wrap64 (x6_2 + 1)), (by first | rfl | (simp; done) | (simp [*]; done)), (by first | rfl | (simp; done) | (simp [*]; done)), H', ⟨by have := HJ2.out; have := HK2.out; omega⟩, ⟨by repeat (first | (with_reducible first | exact HB.out | apply below_alloc | apply pw_below_drewN | apply below_drew1) | exact HB.out)⟩⟩
             · rw [if_neg c9] at H
               exact absurd H (by simp)
           · rw [if_neg c7] at H
             exact absurd H (by simp)
         · rw [if_neg c6] at H
           have c6b0 : decide (x6_2 < (l0.length : Int)) = false := decide_eq_false c6
           clear c6
           replace H := Option.bind_eq_some_iff.mp H
           obtain ⟨t414, A120, H⟩ := H
           replace H : (if ([] : List Bool).length + t414.length < 140737488355328 then ((some (([] : List Bool) ++ t414 : List Bool)).bind fun y417 => (if 0 ≤ x5_2 then (if x5_2 ≤ (l0.length : Int) then ((loessref6_Tree.f k2 (l0.take (x5_2 : Int).toNat) (wrap64 (a1 + 1))).bind fun t424 => (if y417.length + t424.length < 140737488355328 then ((some (y417 ++ t424 : List Bool)).bind fun y427 => ((loessref6_Tree.f k2 (l0.drop (x5_2 : Int).toNat) (wrap64 (a1 + 1))).bind fun t434 => (if y427.length + t434.length < 140737488355328 then (some (y427 ++ t434)) else (none)))) else (none))) else (none)) else (none))) else (none)) = some r := H
           have A12 := Aside0.mk A120
           clear A120
           by_cases c13 : ([] : List Bool).length + t414.length < 140737488355328
           · rw [if_pos c13] at H
             have LMc13 := Aside0.mk c13
             clear c13
             obtain ⟨y417, hy417⟩ : ∃ y_ : List Bool, y_ = (([] : List Bool) ++ t414) := ⟨_, rfl⟩
             replace H : (if 0 ≤ x5_2 then (if x5_2 ≤ (l0.length : Int) then ((loessref6_Tree.f k2 (l0.take (x5_2 : Int).toNat) (wrap64 (a1 + 1))).bind fun t424 => (if y417.length + t424.length < 140737488355328 then ((some (y417 ++ t424 : List Bool)).bind fun y427 => ((loessref6_Tree.f k2 (l0.drop (x5_2 : Int).toNat) (wrap64 (a1 + 1))).bind fun t434 => (if y427.length + t434.length < 140737488355328 then (some (y427 ++ t434)) else (none)))) else (none))) else (none)) else (none)) = some r := by first | (rw [hy417]; with_reducible exact H) | (have H2_ := (Option.bind_some _ _).symm.trans H; rw [hy417]; with_reducible exact H2_) | (have H2_ := (Option.bind_some _ _).symm.trans H; with_reducible exact H2_) | with_reducible exact H | (rw [hy417]; exact H) | exact H
             have Ny417 := Aside0.mk hy417
             clear hy417
             by_cases c14 : 0 ≤ x5_2
             · rw [if_pos c14] at H
               have c14b0 := eq_true c14
               have c14b1 : decide (0 ≤ x5_2) = true := decide_eq_true c14
               clear c14
               by_cases c15 : x5_2 ≤ (l0.length : Int)
               · rw [if_pos c15] at H
                 have c15b0 := eq_true c15
                 have c15b1 : decide (x5_2 ≤ (l0.length : Int)) = true := decide_eq_true c15
                 clear c15
                 obtain ⟨y420, hy420⟩ : ∃ y_ : List Int, y_ = (l0.take (x5_2 : Int).toNat) := ⟨_, rfl⟩
                 replace H : ((loessref6_Tree.f k2 y420 (wrap64 (a1 + 1))).bind fun t424 => (if y417.length + t424.length < 140737488355328 then ((some (y417 ++ t424 : List Bool)).bind fun y427 => ((loessref6_Tree.f k2 (l0.drop (x5_2 : Int).toNat) (wrap64 (a1 + 1))).bind fun t434 => (if y427.length + t434.length < 140737488355328 then (some (y427 ++ t434)) else (none)))) else (none))) = some r := by first | (rw [hy420]; with_reducible exact H) | (have H2_ := (Option.bind_some _ _).symm.trans H; rw [hy420]; with_reducible exact H2_) | (have H2_ := (Option.bind_some _ _).symm.trans H; with_reducible exact H2_) | with_reducible exact H | (rw [hy420]; exact H) | exact H
                 have Ny420 := Aside0.mk hy420
                 clear hy420
                 replace H := Option.bind_eq_some_iff.mp H
                 obtain ⟨t424, A160, H⟩ := H
                 replace H : (if y417.length + t424.length < 140737488355328 then ((some (y417 ++ t424 : List Bool)).bind fun y427 => ((loessref6_Tree.f k2 (l0.drop (x5_2 : Int).toNat) (wrap64 (a1 + 1))).bind fun t434 => (if y427.length + t434.length < 140737488355328 then (some (y427 ++ t434)) else (none)))) else (none)) = some r := H
                 have A16 := Aside0.mk A160
                 clear A160
                 by_cases c17 : y417.length + t424.length < 140737488355328
                 · rw [if_pos c17] at H
                   have LMc17 := Aside0.mk c17
                   clear c17
                   obtain ⟨y427, hy427⟩ : ∃ y_ : List Bool, y_ = (y417 ++ t424) := ⟨_, rfl⟩
                   replace H : ((loessref6_Tree.f k2 (l0.drop (x5_2 : Int).toNat) (wrap64 (a1 + 1))).bind fun t434 => (if y427.length + t434.length < 140737488355328 then (some (y427 ++ t434)) else (none))) = some r := by first | (rw [hy427]; with_reducible exact H) | (have H2_ := (Option.bind_some _ _).symm.trans H; rw [hy427]; with_reducible exact H2_) | (have H2_ := (Option.bind_some _ _).symm.trans H; with_reducible exact H2_) | with_reducible exact H | (rw [hy427]; exact H) | exact H
                   have Ny427 := Aside0.mk hy427
                   clear hy427
                   have c18b0 := eq_true (of_decide_eq_true (by first | (with_reducible assumption) | assumption) : 0 ≤ x5_2)
                   have c19b0 := eq_true (of_decide_eq_true (by first | (with_reducible assumption) | assumption) : x5_2 ≤ (l0.length : Int))
                   obtain ⟨y430, hy430⟩ : ∃ y_ : List Int, y_ = (l0.drop (x5_2 : Int).toNat) := ⟨_, rfl⟩
                   replace H : ((loessref6_Tree.f k2 y430 (wrap64 (a1 + 1))).bind fun t434 => (if y427.length + t434.length < 140737488355328 then (some (y427 ++ t434)) else (none))) = some r := by first | (rw [hy430]; with_reducible exact H) | (have H2_ := (Option.bind_some _ _).symm.trans H; rw [hy430]; with_reducible exact H2_) | (have H2_ := (Option.bind_some _ _).symm.trans H; with_reducible exact H2_) | with_reducible exact H | (rw [hy430]; exact H) | exact H
                   have Ny430 := Aside0.mk hy430
                   clear hy430
                   replace H := Option.bind_eq_some_iff.mp H
                   obtain ⟨t434, A200, H⟩ := H
                   replace H : (if y427.length + t434.length < 140737488355328 then (some (y427 ++ t434)) else (none)) = some r := H
                   have A20 := Aside0.mk A200
                   clear A200
                   by_cases c21 : y427.length + t434.length < 140737488355328
                   · rw [if_pos c21] at H
                     have LMc21 := Aside0.mk c21
                     clear c21
                     obtain ⟨y437, hy437⟩ : ∃ y_ : List Bool, y_ = (y427 ++ t434) := ⟨_, rfl⟩
                     replace H : (some y437) = some r := by first | (rw [hy437]; with_reducible exact H) | (have H2_ := (Option.bind_some _ _).symm.trans H; rw [hy437]; with_reducible exact H2_) | (have H2_ := (Option.bind_some _ _).symm.trans H; with_reducible exact H2_) | with_reducible exact H | (rw [hy437]; exact H) | exact H
                     have Ny437 := Aside0.mk hy437
                     clear hy437
                     obtain rfl := Option.some.inj H
                     go_wp2_with (first | ((with_reducible refine gate_callee (f := 82) rfl ?_); refine goesL_ (some 36) rfl rfl Try.func82 (by kernel_rfl) rfl #[.int .u64 (IntKind.u64.wrap ((IntKind.u64.wrap (x5_2)) + 1))] rfl (by (try simp only [List.map_toArray, List.map_cons, List.map_nil]); first | done | rfl | (simp only [List.length_drop, List.length_take]; rfl)) ?_; (with_reducible refine (loessref6_Gamma.calls k2 (IntKind.u64.wrap ((IntKind.u64.wrap (x5_2)) + 1)) t414 _ A12.out).mono ?_); rintro e w22 ⟨v415, rfl, ho0, hb⟩; refine ⟨_, rfl, ?_⟩; have n0_ := Aside0.mk (Kd.R_lower ho0 (below_size (by repeat (first | (with_reducible first | exact HB.out | apply below_alloc | apply pw_below_drewN | apply below_drew1) | exact HB.out)))); have n1_ := Aside0.mk (below_step (by repeat (first | (with_reducible first | exact HB.out | apply below_alloc | apply pw_below_drewN | apply below_drew1) | exact HB.out)) hb); clear HB; have HO416 := n0_; have HB := n1_; clear n0_ n1_; (try clear hb); (try clear hb2); (try clear hk); (try clear hi); (try clear ho0); obtain ⟨Ao24, co24, eo24⟩ := Kd.R_slice HO416.out; subst eo24) | ((with_reducible refine gate_builtin (b := .append) (xs := #[.const (.slice none 0 0), .tmp 36]) rfl ?_); at_builtin; refine Kd.R_append_rows Kd.bool (w0 := w) w.heap.size rfl (.const (.slice none 0 0)) (.tmp 36) 113 4 (.bool false) 1 rfl Try.underlying113 info4 rfl (by decide) (by omega) (.slice none 0 0) ([] : List Bool) t414 _ _ _ (fun k_ => some k_ ≠ (.slice Ao24 t414.length co24 : Value).ownBlock) (fun _ => False) rfl rfl ?aO ?aR (fun _ _ h => h) (fun _ h => h.elim) ?aF ?aB ?aS ?aL ?_; (case aR => repeat (first | exact (Kd.R_reads' HO416.out).2.2 | (with_reducible refine Kd.C_alloc ?_ _) | (with_reducible refine Kd.C_drewN ?_ _) | (with_reducible refine Kd.C_drew ?_))); (case aB => exact (by repeat (first | (with_reducible first | exact HB.out | apply below_alloc | apply pw_below_drewN | apply below_drew1) | exact HB.out))); (case aF => exact (fun k_ hk => Kd.fresh' (Kd.R_lt (by (with_reducible repeat (first | apply Kd.R_alloc | apply Kd.R_drewN | apply Kd.R_drew)); exact HO416.out)) k_ hk)); (case aO => exact ((Kd.R_nil _ _ _ _ (fun k_ => some k_ ≠ (.slice Ao24 t414.length co24 : Value).ownBlock)))); (case aS => exact (below_size (by repeat (first | (with_reducible first | exact HB.out | apply below_alloc | apply pw_below_drewN | apply below_drew1) | exact HB.out)))); (case aL => have := LMc13.out; omega); intro v418 w23 ho hb hg hat; rw [← Ny417.out] at ho; have n0_ := Aside0.mk (Kd.R_after (Kd.R_apart_nil (by (with_reducible repeat (first | apply Kd.R_alloc | apply Kd.R_drewN | apply Kd.R_drew)); exact HO416.out)) hg hat); have n1_ := Aside0.mk (hb); have n2_ := Aside0.mk (ho); clear HO416; clear HB; have HO416 := n0_; have HB := n1_; have HO419 := n2_; clear n0_ n1_ n2_; clear ho hb hg hat; have q25 : (x5_2 : Int) ≤ ((l0.length : Int) : Int) := of_decide_eq_true (by first | (with_reducible assumption) | assumption); obtain ⟨i025, hi025, _, hsz25, _⟩ := info_parts info67; have hroom25 : l0.length ≤ c0 := HC0.out; have hC25 : Kd.C (Kd.int .u64) _ A0 l0.length l0 := HR0.out; have hcut25 := cut_to (P := Try.prog) 60 67 .i64 Try.underlying60 hi025 A0 l0.length c0 x5_2 (of_decide_eq_true (by first | (with_reducible assumption) | assumption)) q25 hroom25; have hr25 := Kd.C_take (m := (x5_2 : Int).toNat) hC25 (by omega); have hy25 : y420.length = (x5_2 : Int).toNat := (by rw [Ny420.out, List.length_take]; omega); rw [← Ny420.out] at hr25; rw [← hy25] at hcut25; have HR423 := Aside0.mk hr25; have HC423 := Aside0.mk (show y420.length ≤ c0 from by omega); clear hr25 hC25 hroom25 hi025 hsz25; have KY25 := Aside0.mk hy25; clear hy25; replace q25 := eq_true q25) | ((with_reducible refine gate_callee (f := 67) rfl ?_); refine goesL_ (some 44) rfl rfl Try.func67 (by kernel_rfl) rfl #[.slice A0 y420.length c0, .int .i64 (wrap64 (a1 + 1))] rfl (by (try simp only [List.map_toArray, List.map_cons, List.map_nil]); first | done | rfl | (simp only [List.length_drop, List.length_take]; rfl)) ?_; (with_reducible refine (ih k2 (by have := HJ2.out; have := HK2.out; omega) _ _ y420 (wrap64 (a1 + 1)) t424 _ ?side1 ?side2 A16.out).mono ?_); (case side1 => repeat (first | exact (Kd.C_below HR423.out HB.out) | (with_reducible refine Kd.C_alloc ?_ _) | (with_reducible refine Kd.C_drewN ?_ _) | (with_reducible refine Kd.C_drew ?_))); (case side2 => exact HC423.out); rintro e w26 ⟨v425, rfl, ho0, hb⟩; refine ⟨_, rfl, ?_⟩; have n0_ := Aside0.mk (Kd.R_elder' (by (with_reducible repeat (first | apply Kd.R_alloc | apply Kd.R_drewN | apply Kd.R_drew)); exact HO416.out) (Kd.R_base ho0) hb); have n1_ := Aside0.mk (Kd.R_elder' (by (with_reducible repeat (first | apply Kd.R_alloc | apply Kd.R_drewN | apply Kd.R_drew)); exact HO419.out) (Kd.R_base ho0) hb); have n2_ := Aside0.mk (Kd.R_lower (Kd.R_new' (Kd.R_new' ho0 (Kd.R_lt (by (with_reducible repeat (first | apply Kd.R_alloc | apply Kd.R_drewN | apply Kd.R_drew)); exact HO416.out))) (Kd.R_lt (by (with_reducible repeat (first | apply Kd.R_alloc | apply Kd.R_drewN | apply Kd.R_drew)); exact HO419.out))) (below_size (by repeat (first | (with_reducible first | exact HB.out | apply below_alloc | apply pw_below_drewN | apply below_drew1) | exact HB.out)))); have n3_ := Aside0.mk (below_step (by repeat (first | (with_reducible first | exact HB.out | apply below_alloc | apply pw_below_drewN | apply below_drew1) | exact HB.out)) hb); clear HO416; clear HO419; clear HB; have HO416 := n0_; have HO419 := n1_; have HO426 := n2_; have HB := n3_; clear n0_ n1_ n2_ n3_; (try clear hb); (try clear hb2); (try clear hk); (try clear hi); (try clear ho0); obtain ⟨Ao28, co28, eo28⟩ := Kd.R_slice HO426.out; subst eo28) | ((with_reducible refine gate_builtin (b := .append) (xs := #[.tmp 38, .tmp 44]) rfl ?_); at_builtin; refine Kd.R_append_rows Kd.bool (w0 := w) w.heap.size rfl (.tmp 38) (.tmp 44) 113 4 (.bool false) 1 rfl Try.underlying113 info4 rfl (by decide) (by omega) v418 y417 t424 _ _ _ (fun k_ => some k_ ≠ (.slice Ao24 t414.length co24 : Value).ownBlock ∧ some k_ ≠ (.slice Ao28 t424.length co28 : Value).ownBlock) (fun _ => False) rfl rfl ?aO ?aR (fun _ _ h => h) (fun _ h => h.elim) ?aF ?aB ?aS ?aL ?_; (case aR => repeat (first | exact (Kd.R_reads' HO426.out).2.2 | (with_reducible refine Kd.C_alloc ?_ _) | (with_reducible refine Kd.C_drewN ?_ _) | (with_reducible refine Kd.C_drew ?_))); (case aB => exact (by repeat (first | (with_reducible first | exact HB.out | apply below_alloc | apply pw_below_drewN | apply below_drew1) | exact HB.out))); (case aF => exact (fun k_ hk => ⟨Kd.fresh' (Kd.R_lt (by (with_reducible repeat (first | apply Kd.R_alloc | apply Kd.R_drewN | apply Kd.R_drew)); exact HO416.out)) k_ hk, Kd.fresh' (Kd.R_lt (by (with_reducible repeat (first | apply Kd.R_alloc | apply Kd.R_drewN | apply Kd.R_drew)); exact HO426.out)) k_ hk⟩)); (case aO => exact (by (with_reducible repeat (first | apply Kd.R_alloc | apply Kd.R_drewN | apply Kd.R_drew)); exact HO419.out)); (case aS => exact (below_size (by repeat (first | (with_reducible first | exact HB.out | apply below_alloc | apply pw_below_drewN | apply below_drew1) | exact HB.out)))); (case aL => have := LMc17.out; omega); intro v428 w27 ho hb hg hat; rw [← Ny427.out] at ho; have n0_ := Aside0.mk (Kd.R_after (ok := (fun k_ => some k_ ≠ (.slice Ao28 t424.length co28 : Value).ownBlock)) (by (with_reducible repeat (first | apply Kd.R_alloc | apply Kd.R_drewN | apply Kd.R_drew)); exact Kd.R_mono HO416.out (fun _ hk => ⟨hk.2, hk.1.2⟩)) hg hat); have n1_ := Aside0.mk (Kd.R_after (ok := (fun k_ => some k_ ≠ (.slice Ao24 t414.length co24 : Value).ownBlock)) (by (with_reducible repeat (first | apply Kd.R_alloc | apply Kd.R_drewN | apply Kd.R_drew)); exact Kd.R_mono HO426.out (fun _ hk => ⟨hk.1.2, hk.2⟩)) hg hat); have n2_ := Aside0.mk (hb); have n3_ := Aside0.mk (ho); clear HO416; clear HO426; clear HB; clear HO419; have HO416 := n0_; have HO426 := n1_; have HB := n2_; have HO429 := n3_; clear n0_ n1_ n2_ n3_; clear ho hb hg hat; have q29 : (x5_2 : Int) ≤ ((l0.length : Int) : Int) := of_decide_eq_true (by first | (with_reducible assumption) | assumption); obtain ⟨i029, hi029, _, hsz29, _⟩ := info_parts info67; have hroom29 : l0.length ≤ c0 := HC0.out; have hC29 : Kd.C (Kd.int .u64) _ A0 l0.length l0 := HR0.out; have q029 : (0 : Int) ≤ (x5_2 : Int) := of_decide_eq_true (by first | (with_reducible assumption) | assumption); have hcut29 := cut_from (P := Try.prog) 60 67 .i64 Try.underlying60 hi029 1 hsz29 A0 l0.length c0 x5_2 q029 q29; have hr29 := Kd.C_drop (m := (x5_2 : Int).toNat) (c := c0) hC29 (by omega) hroom29; obtain ⟨A29, hA29⟩ : ∃ A1, A1 = (if c0 = (x5_2 : Int).toNat then A0 else (A0 : Option Addr).map (·.add ((x5_2 : Int).toNat * 1))) := ⟨_, rfl⟩; obtain ⟨c29, hc29⟩ : ∃ c1, c1 = c0 - (x5_2 : Int).toNat := ⟨_, rfl⟩; have hy29 : y430.length = l0.length - (x5_2 : Int).toNat := (by rw [Ny430.out, List.length_drop] <;> omega); rw [show (l0).drop (x5_2 : Int).toNat = y430 from Ny430.out.symm] at hr29; replace hr29 : Kd.C (Kd.int .u64) _ A29 y430.length y430 := (by rw [hA29]; exact hr29); rw [← hy29, ← hA29, ← hc29] at hcut29; have HR433 := Aside0.mk hr29; have HC433 := Aside0.mk (show y430.length ≤ c29 from by rw [hy29, hc29]; exact Nat.sub_le_sub_right hroom29 _); clear hr29 hC29 hroom29 hi029 hsz29 hc29; have KY29 := Aside0.mk hy29; have KA29 := Aside0.mk hA29; clear hy29 hA29; replace q29 := eq_true q29) | ((with_reducible refine gate_callee (f := 67) rfl ?_); refine goesL_ (some 52) rfl rfl Try.func67 (by kernel_rfl) rfl #[.slice A29 y430.length c29, .int .i64 (wrap64 (a1 + 1))] rfl (by (try simp only [List.map_toArray, List.map_cons, List.map_nil]); first | done | rfl | (simp only [List.length_drop, List.length_take]; rfl)) ?_; (with_reducible refine (ih k2 (by have := HJ2.out; have := HK2.out; omega) _ _ y430 (wrap64 (a1 + 1)) t434 _ ?side1 ?side2 A20.out).mono ?_); (case side1 => repeat (first | exact (Kd.C_below HR433.out HB.out) | (with_reducible refine Kd.C_alloc ?_ _) | (with_reducible refine Kd.C_drewN ?_ _) | (with_reducible refine Kd.C_drew ?_))); (case side2 => exact HC433.out); rintro e w30 ⟨v435, rfl, ho0, hb⟩; refine ⟨_, rfl, ?_⟩; have n0_ := Aside0.mk (Kd.R_elder' (by (with_reducible repeat (first | apply Kd.R_alloc | apply Kd.R_drewN | apply Kd.R_drew)); exact HO416.out) (Kd.R_base ho0) hb); have n1_ := Aside0.mk (Kd.R_elder' (by (with_reducible repeat (first | apply Kd.R_alloc | apply Kd.R_drewN | apply Kd.R_drew)); exact HO426.out) (Kd.R_base ho0) hb); have n2_ := Aside0.mk (Kd.R_elder' (by (with_reducible repeat (first | apply Kd.R_alloc | apply Kd.R_drewN | apply Kd.R_drew)); exact HO429.out) (Kd.R_base ho0) hb); have n3_ := Aside0.mk (Kd.R_lower (Kd.R_new' (Kd.R_new' (Kd.R_new' ho0 (Kd.R_lt (by (with_reducible repeat (first | apply Kd.R_alloc | apply Kd.R_drewN | apply Kd.R_drew)); exact HO416.out))) (Kd.R_lt (by (with_reducible repeat (first | apply Kd.R_alloc | apply Kd.R_drewN | apply Kd.R_drew)); exact HO426.out))) (Kd.R_lt (by (with_reducible repeat (first | apply Kd.R_alloc | apply Kd.R_drewN | apply Kd.R_drew)); exact HO429.out))) (below_size (by repeat (first | (with_reducible first | exact HB.out | apply below_alloc | apply pw_below_drewN | apply below_drew1) | exact HB.out)))); have n4_ := Aside0.mk (below_step (by repeat (first | (with_reducible first | exact HB.out | apply below_alloc | apply pw_below_drewN | apply below_drew1) | exact HB.out)) hb); clear HO416; clear HO426; clear HO429; clear HB; have HO416 := n0_; have HO426 := n1_; have HO429 := n2_; have HO436 := n3_; have HB := n4_; clear n0_ n1_ n2_ n3_ n4_; (try clear hb); (try clear hb2); (try clear hk); (try clear hi); (try clear ho0); obtain ⟨Ao32, co32, eo32⟩ := Kd.R_slice HO436.out; subst eo32) | ((with_reducible refine gate_builtin (b := .append) (xs := #[.tmp 46, .tmp 52]) rfl ?_); at_builtin; refine Kd.R_append_rows Kd.bool (w0 := w) w.heap.size rfl (.tmp 46) (.tmp 52) 113 4 (.bool false) 1 rfl Try.underlying113 info4 rfl (by decide) (by omega) v428 y427 t434 _ _ _ (fun k_ => some k_ ≠ (.slice Ao24 t414.length co24 : Value).ownBlock ∧ some k_ ≠ (.slice Ao28 t424.length co28 : Value).ownBlock ∧ some k_ ≠ (.slice Ao32 t434.length co32 : Value).ownBlock) (fun _ => False) rfl rfl ?aO ?aR (fun _ _ h => h) (fun _ h => h.elim) ?aF ?aB ?aS ?aL ?_; (case aR => repeat (first | exact (Kd.R_reads' HO436.out).2.2 | (with_reducible refine Kd.C_alloc ?_ _) | (with_reducible refine Kd.C_drewN ?_ _) | (with_reducible refine Kd.C_drew ?_))); (case aB => exact (by repeat (first | (with_reducible first | exact HB.out | apply below_alloc | apply pw_below_drewN | apply below_drew1) | exact HB.out))); (case aF => exact (fun k_ hk => ⟨Kd.fresh' (Kd.R_lt (by (with_reducible repeat (first | apply Kd.R_alloc | apply Kd.R_drewN | apply Kd.R_drew)); exact HO416.out)) k_ hk, Kd.fresh' (Kd.R_lt (by (with_reducible repeat (first | apply Kd.R_alloc | apply Kd.R_drewN | apply Kd.R_drew)); exact HO426.out)) k_ hk, Kd.fresh' (Kd.R_lt (by (with_reducible repeat (first | apply Kd.R_alloc | apply Kd.R_drewN | apply Kd.R_drew)); exact HO436.out)) k_ hk⟩)); (case aO => exact (by (with_reducible repeat (first | apply Kd.R_alloc | apply Kd.R_drewN | apply Kd.R_drew)); exact Kd.R_mono HO429.out (fun _ hk => ⟨hk.1.1, ⟨hk.1.2, hk.2⟩⟩))); (case aS => exact (below_size (by repeat (first | (with_reducible first | exact HB.out | apply below_alloc | apply pw_below_drewN | apply below_drew1) | exact HB.out)))); (case aL => have := LMc21.out; omega); intro v438 w31 ho hb hg hat; rw [← Ny437.out] at ho; have n0_ := Aside0.mk (Kd.R_after (ok := (fun k_ => some k_ ≠ (.slice Ao28 t424.length co28 : Value).ownBlock ∧ some k_ ≠ (.slice Ao32 t434.length co32 : Value).ownBlock)) (by (with_reducible repeat (first | apply Kd.R_alloc | apply Kd.R_drewN | apply Kd.R_drew)); exact Kd.R_mono HO416.out (fun _ hk => ⟨⟨hk.1.1, hk.2⟩, hk.1.2⟩)) hg hat); have n1_ := Aside0.mk (Kd.R_after (ok := (fun k_ => some k_ ≠ (.slice Ao24 t414.length co24 : Value).ownBlock ∧ some k_ ≠ (.slice Ao32 t434.length co32 : Value).ownBlock)) (by (with_reducible repeat (first | apply Kd.R_alloc | apply Kd.R_drewN | apply Kd.R_drew)); exact Kd.R_mono HO426.out (fun _ hk => ⟨⟨hk.1.1, hk.2⟩, hk.1.2⟩)) hg hat); have n2_ := Aside0.mk (Kd.R_after (ok := (fun k_ => some k_ ≠ (.slice Ao24 t414.length co24 : Value).ownBlock ∧ some k_ ≠ (.slice Ao28 t424.length co28 : Value).ownBlock)) (by (with_reducible repeat (first | apply Kd.R_alloc | apply Kd.R_drewN | apply Kd.R_drew)); exact Kd.R_mono HO436.out (fun _ hk => ⟨⟨hk.1.1.2, hk.1.2⟩, hk.2⟩)) hg hat); have n3_ := Aside0.mk (hb); have n4_ := Aside0.mk (ho); clear HO416; clear HO426; clear HO436; clear HB; clear HO429; have HO416 := n0_; have HO426 := n1_; have HO436 := n2_; have HB := n3_; have HO439 := n4_; clear n0_ n1_ n2_ n3_ n4_; clear ho hb hg hat))
                     go_ret
                     exact ⟨_, by first | rfl | (simp [errW_none, errW_some] <;> rfl) | (simp [*, errW_none, errW_some] <;> rfl), by (with_reducible repeat (first | apply Kd.R_alloc | apply Kd.R_drewN | apply Kd.R_drew)); exact Kd.R_mono HO439.out (fun _ hk => trivial), by repeat (first | (with_reducible first | exact HB.out | apply below_alloc | apply pw_below_drewN | apply below_drew1) | exact HB.out)⟩
                   · rw [if_neg c21] at H
                     exact absurd H (by simp)
                 · rw [if_neg c17] at H
                   exact absurd H (by simp)
               · rw [if_neg c15] at H
                 exact absurd H (by simp)
             · rw [if_neg c14] at H
               exact absurd H (by simp)
           · rw [if_neg c13] at H
             exact absurd H (by simp)
end Go.Proofs.Ytkhcmddeeodbkaa.XSor
namespace Go.Proofs.Ytkhcmddeeodbkaa.GL
open Go.RowKit Go.Proofs.YtkhcmddeeodbkaaW.PrintWords Go.Proofs.YtkhcmddeeodbkaaW.PrintMore Go.Proofs.Ytkhcmddeeodbkaa.Q Go.Proofs.Ytkhcmddeeodbkaa.XSor
theorem tree_l0 {k : Nat} {ls : List Int} {d : Int} (hd : d = 63 - (k : Int)) (hk : k ≤ 63) (hl : ls.length ≤ 4096) (hok : OkT (k + 1) ls) (hu : U64s ls) (hb : ¬ ls.length < 2)
    (ih1 : Ev (fun r => loessref6_Tree.f r (ls.take (lead k ls)) (64 - (k : Int))) (treeG k (ls.take (lead k ls)))) (ih2 : Ev (fun r => loessref6_Tree.f r (ls.drop (lead k ls)) (64 - (k : Int))) (treeG k (ls.drop (lead k ls)))) :
    ∀ (e i : Nat), ls.length = i + e → Ev (fun r => loessref6_Tree.l0 r ls d ((min i (lead k ls) : Nat) : Int) (i : Int)) (treeG (k + 1) ls) := by
 have hs := lead_spec k ls
 have hd1 : Aside0 (wrap64 (d + 1) = 64 - (k : Int)) := ⟨by rw [w64 (by omega) (by omega)]; omega⟩
 have hsh : Aside0 (IntKind.u64.wrap (wrap64 (63 - d)) = (k : Int)) := ⟨by rw [w64 (by omega) (by omega), u64 (by omega) (by omega)]; omega⟩
 have hk0 : 0 ≤ (k : Int) := by omega
 intro e
 induction e with
 | zero =>
   intro i hi
   have hm : min i (lead k ls) = lead k ls := by omega
   rw [hm]
   obtain ⟨n, hn⟩ : ∃ n, n = lead k ls := ⟨_, rfl⟩
   rw [treeG_s hb]
   rw [← hn] at ih1 ih2 hs ⊢
   have hnl : n ≤ ls.length := hs.1
   have hg : Ev (fun r => loessref6_Gamma.f r ((n : Int) + 1)) (gammaBits ((n : Int) + 1)) := gamma_ev (by omega) (by omega)
   have hgl := gammaBits_le1 (x := (n : Int) + 1) (by omega) (by omega)
   have h1l := treeG_le k (ls.take n) (by rw [List.length_take]; omega)
   have h2l := treeG_le k (ls.drop n) (by rw [List.length_drop]; omega)
   have hb1 : k * (ls.take n).length ≤ 63 * 4096 := Nat.mul_le_mul hk (by rw [List.length_take]; omega)
   have hb2 : k * (ls.drop n).length ≤ 63 * 4096 := Nat.mul_le_mul hk (by rw [List.length_drop]; omega)
   obtain ⟨G, hG⟩ : ∃ G, G = gammaBits ((n : Int) + 1) := ⟨_, rfl⟩
   obtain ⟨T1, hT1⟩ : ∃ T, T = treeG k (ls.take n) := ⟨_, rfl⟩
   obtain ⟨T2, hT2⟩ : ∃ T, T = treeG k (ls.drop n) := ⟨_, rfl⟩
   rw [← hG] at hg hgl ⊢
   rw [← hT1] at ih1 h1l ⊢
   rw [← hT2] at ih2 h2l ⊢
   have hw : Aside0 (IntKind.u64.wrap (IntKind.u64.wrap (n : Int) + 1) = (n : Int) + 1) := ⟨by rw [u64 (x := (n : Int)) (by omega) (by omega), u64 (by omega) (by omega)]⟩
   have c1 : ([] : List Bool).length + G.length < 140737488355328 := by simp; omega
   have c2 : 0 ≤ (n : Int) := by omega
   have c3 : (n : Int) ≤ (ls.length : Int) := by omega
   have c4 : G.length + T1.length < 140737488355328 := by omega
   have c5 : (G ++ T1).length + T2.length < 140737488355328 := by rw [List.length_append]; omega
   have hend : ¬ (i : Int) < (ls.length : Int) := by omega
   clear hb1 hb2 h1l h2l hgl hm hs
   have hfin : Ev (fun r => (loessref6_Gamma.f r ((n : Int) + 1)).bind fun t153 => (if ([] : List Bool).length + t153.length < 140737488355328 then ((some (([] : List Bool) ++ t153 : List Bool)).bind fun y156 => (if 0 ≤ (n : Int) then (if (n : Int) ≤ (ls.length : Int) then ((loessref6_Tree.f r (ls.take (n : Int).toNat) (64 - (k : Int))).bind fun t163 => (if y156.length + t163.length < 140737488355328 then ((some (y156 ++ t163 : List Bool)).bind fun y166 => ((loessref6_Tree.f r (ls.drop (n : Int).toNat) (64 - (k : Int))).bind fun t173 => (if y166.length + t173.length < 140737488355328 then (some (y166 ++ t173)) else (none)))) else (none))) else (none)) else (none))) else (none))) (G ++ T1 ++ T2) := by
    refine Ev.bind hg ?_
    refine Ev.congr (f := fun r => (loessref6_Tree.f r (ls.take n) (64 - (k : Int))).bind fun t163 => (if G.length + t163.length < 140737488355328 then ((some (G ++ t163 : List Bool)).bind fun y166 => ((loessref6_Tree.f r (ls.drop n) (64 - (k : Int))).bind fun t173 => (if y166.length + t173.length < 140737488355328 then (some (y166 ++ t173)) else (none)))) else (none))) (fun r => ?_) ?_
    · rw [if_pos c1, Option.bind_some, if_pos c2, if_pos c3, Int.toNat_natCast, List.nil_append]
    · refine Ev.bind ih1 ?_
      refine Ev.congr (f := fun r => (loessref6_Tree.f r (ls.drop n) (64 - (k : Int))).bind fun t173 => (if (G ++ T1).length + t173.length < 140737488355328 then (some (G ++ T1 ++ t173)) else (none))) (fun r => ?_) ?_
      · rw [if_pos c4, Option.bind_some]
      · refine Ev.bind ih2 ?_
        refine Ev.congr (f := fun r => some (G ++ T1 ++ T2)) (fun r => ?_) (Ev.now _)
        rw [if_pos c5]
   refine Ev.step (fun r => ?_) hfin
   simp only [loessref6_Tree.l0]
   rw [if_neg hend, hw.out, hd1.out]
 | succ e ih =>
   intro i hi
   have hil : i < ls.length := by omega
   have hlt : (i : Int) < (ls.length : Int) := by omega
   have hi0 : 0 ≤ (i : Int) := by omega
   have hx := hu ls[i] (List.getElem_mem _)
   have hrd : Aside0 (rd ls (i : Int) = ls[i]) := ⟨by unfold rd; rw [Int.toNat_natCast, List.getD_eq_getElem?_getD, List.getElem?_eq_getElem hil, Option.getD_some]⟩
   have hsv : Aside0 (shr .u64 ls[i] (k : Int) = ls[i] / 2 ^ k) := ⟨by
    unfold shr
    rw [show IntKind.u64.bits = 64 from rfl, show min (k : Int).toNat 64 = k by omega]⟩
   have hand := and1_shr k hx.1 hx.2
   have hwi : Aside0 (wrap64 ((i : Int) + 1) = ((i + 1 : Nat) : Int)) := ⟨by rw [w64 (by omega) (by omega)]; rfl⟩
   have hwm : Aside0 (wrap64 (((min i (lead k ls) : Nat) : Int) + 1) = ((min i (lead k ls) + 1 : Nat) : Int)) := ⟨by rw [w64 (by omega) (by omega)]; rfl⟩
   have hnext := ih (i + 1) (by omega)
   by_cases hlead : i < lead k ls
   · have hbf := hs.2.1 i hlead
     rw [List.getD_eq_getElem?_getD, List.getElem?_eq_getElem hil, Option.getD_some] at hbf
     have hz : ls[i] / 2 ^ k % 2 = 0 := by
      have h1 : ¬ ls[i] / 2 ^ k % 2 = 1 := by simpa [bitT] using hbf
      omega
     have hm1 : min (i + 1) (lead k ls) = min i (lead k ls) + 1 := by omega
     rw [hm1] at hnext
     refine Ev.step (fun r => ?_) hnext
     simp only [loessref6_Tree.l0]
     rw [if_pos hlt, if_pos hi0, hsh.out, if_pos hk0, hrd.out, hsv.out, hand, if_pos hz, hwi.out, hwm.out]
   · have hbt := ok_bit hok hil (by omega)
     have hz : ¬ ls[i] / 2 ^ k % 2 = 0 := by
      have h1 : ls[i] / 2 ^ k % 2 = 1 := by simpa [bitT] using hbt
      omega
     have hm1 : min (i + 1) (lead k ls) = min i (lead k ls) := by omega
     rw [hm1] at hnext
     refine Ev.step (fun r => ?_) hnext
     simp only [loessref6_Tree.l0]
     rw [if_pos hlt, if_pos hi0, hsh.out, if_pos hk0, hrd.out, hsv.out, hand, if_neg hz, hwi.out]
theorem tree_ev : ∀ (k : Nat) (ls : List Int) (d : Int), d = 64 - (k : Int) → k ≤ 64 → ls.length ≤ 4096 → OkT k ls → U64s ls → Ev (fun r => loessref6_Tree.f r ls d) (treeG k ls) := by
 have hsmall : ∀ (ls : List Int) (d : Int), ls.length < 2 → Ev (fun r => loessref6_Tree.f r ls d) [] := by
  intro ls d h
  refine Ev.step (f := fun r => loessref6_Tree.j0 r ls d true) (fun r => ?_) ?_
  · simp only [loessref6_Tree.f]
    rw [if_pos (by omega)]
  · refine Ev.step (f := fun _ => some []) (fun r => ?_) (Ev.now _)
    simp only [loessref6_Tree.j0]
    exact if_pos trivial
 intro k
 induction k with
 | zero =>
   intro ls d _ _ _ hok _
   exact hsmall ls d hok.zero
 | succ k ih =>
   intro ls d hd hk hl hok hu
   by_cases h : ls.length < 2
   · rw [treeG_short _ h]
     exact hsmall ls d h
   · have hs := (lead_spec k ls).1
     have h1 := ih (ls.take (lead k ls)) (64 - (k : Int)) rfl (by omega) (by rw [List.length_take]; omega) hok.take (fun x hx => hu x (List.mem_of_mem_take hx))
     have h2 := ih (ls.drop (lead k ls)) (64 - (k : Int)) rfl (by omega) (by rw [List.length_drop]; omega) hok.drop (fun x hx => hu x (List.mem_of_mem_drop hx))
     have h3 := tree_l0 (d := d) (by omega) (by omega) hl hok hu h h1 h2 ls.length 0 (by omega)
     rw [Nat.zero_min] at h3
     refine Ev.step (f := fun r => loessref6_Tree.j0 r ls d false) (fun r => ?_) ?_
     · simp only [loessref6_Tree.f]
       rw [if_neg (by omega), decide_eq_false (by omega)]
     · refine Ev.step (fun r => ?_) h3
       simp only [loessref6_Tree.j0]
       exact if_neg (by decide)
end Go.Proofs.Ytkhcmddeeodbkaa.GL
