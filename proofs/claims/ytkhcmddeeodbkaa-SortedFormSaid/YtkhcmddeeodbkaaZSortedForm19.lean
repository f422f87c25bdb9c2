import Derived.Test.YtkhcmddeeodbkaaZSortedForm18
-- Own texts and, of the words that the kit's print program wrote for this claim, those that are needed here: put together by wip/prune.py.
set_option linter.unusedSimpArgs false
set_option linter.unusedVariables false
namespace Go.Proofs.Ytkhcmddeeodbkaa.XSor
open Go.RowKit Go.Proofs.Ytkhcmddeeodbkaa.G Go.Proofs.YtkhcmddeeodbkaaW.PrintWords Go.Proofs.YtkhcmddeeodbkaaW.PrintLast Go.Proofs.YtkhcmddeeodbkaaW.PrintMore
attribute [local go_sem] max2_int min2_int max_two min_two max_three min_three max_four min_four
mutual
def loessref6_Bits_PutNum.j0 : Nat → Int → Int → List Bool → Bool → Option (List Bool)
  | 0, _, _, _, _ => none
  | k + 1, x1, x2, x7, x16 => if x16 = true then (some x7) else (loessref6_Bits_PutNum.l0 k x1 x7 (wrap64 (x2 - 1)))
def loessref6_Bits_PutNum.l0 : Nat → Int → List Bool → Int → Option (List Bool)
  | 0, _, _, _ => none
  | k + 1, x1, x7, x8 => if x8 ≥ 0 then (if 0 ≤ (IntKind.u64.wrap (x8)) then (if x7.length < 140737488355328 then (loessref6_Bits_PutNum.l0 k x1 (x7 ++ [((Go.bits .and .u64 (shr .u64 x1 (IntKind.u64.wrap (x8))) 1) == 1)]) (wrap64 (x8 - 1))) else (none)) else (none)) else (some x7)
end
def loessref6_Bits_PutNum.f (k : Nat) (l0 : List Bool) (a1 : Int) (a2 : Int) : Option (List Bool) := if ([] : List Bool).length + l0.length < 140737488355328 then ((some (([] : List Bool) ++ l0 : List Bool)).bind fun y400 => (if a2 < 0 then (loessref6_Bits_PutNum.j0 k a1 a2 y400 true) else (loessref6_Bits_PutNum.j0 k a1 a2 y400 (decide (a2 > 64))))) else (none)
theorem loessref6_Bits_PutNum.mono_l : ∀ k, (∀ y0 y1 y2 y3, LeO (loessref6_Bits_PutNum.j0 k y0 y1 y2 y3) (loessref6_Bits_PutNum.j0 (k + 1) y0 y1 y2 y3)) ∧ (∀ y0 y1 y2, LeO (loessref6_Bits_PutNum.l0 k y0 y1 y2) (loessref6_Bits_PutNum.l0 (k + 1) y0 y1 y2))
  | 0 => ⟨fun _ _ _ _ r h => by simp [loessref6_Bits_PutNum.j0] at h, fun _ _ _ r h => by simp [loessref6_Bits_PutNum.l0] at h⟩
  | k + 1 => by
    obtain ⟨ih0, ih1⟩ := loessref6_Bits_PutNum.mono_l k
    refine ⟨?_, ?_⟩
    · intro y0 y1 y2 y3
      unfold loessref6_Bits_PutNum.j0
      repeat' first
      | (with_reducible exact ih0 _ _ _ _)
      | (with_reducible exact ih1 _ _ _)
      | (with_reducible exact LeO.refl _)
      | (with_reducible exact LeO.none _)
      | (with_reducible refine LeO.ite ?_ ?_)
      | (with_reducible refine LeO.bind ?_ (fun _ => ?_))
      | exact ih0 _ _ _ _
      | exact ih1 _ _ _
      | exact LeO.none _
      | refine LeO.ite ?_ ?_
      | refine LeO.bind ?_ (fun _ => ?_)
    · intro y0 y1 y2
      unfold loessref6_Bits_PutNum.l0
      repeat' first
      | (with_reducible exact ih0 _ _ _ _)
      | (with_reducible exact ih1 _ _ _)
      | (with_reducible exact LeO.refl _)
      | (with_reducible exact LeO.none _)
      | (with_reducible refine LeO.ite ?_ ?_)
      | (with_reducible refine LeO.bind ?_ (fun _ => ?_))
      | exact ih0 _ _ _ _
      | exact ih1 _ _ _
      | exact LeO.none _
      | refine LeO.ite ?_ ?_
      | refine LeO.bind ?_ (fun _ => ?_)
theorem loessref6_Bits_PutNum.mono : ∀ a0 a1 a2 k, LeO (loessref6_Bits_PutNum.f k a0 a1 a2) (loessref6_Bits_PutNum.f (k + 1) a0 a1 a2) := by
  intro a0 a1 a2 k
  obtain ⟨ih0, ih1⟩ := loessref6_Bits_PutNum.mono_l k
  unfold loessref6_Bits_PutNum.f
  repeat' first
      | (with_reducible exact ih0 _ _ _ _)
      | (with_reducible exact ih1 _ _ _)
      | (with_reducible exact LeO.refl _)
      | (with_reducible exact LeO.none _)
      | (with_reducible refine LeO.ite ?_ ?_)
      | (with_reducible refine LeO.bind ?_ (fun _ => ?_))
      | exact ih0 _ _ _ _
      | exact ih1 _ _ _
      | exact LeO.none _
      | refine LeO.ite ?_ ?_
      | refine LeO.bind ?_ (fun _ => ?_)
set_option maxHeartbeats 8000000 in
set_option maxRecDepth 100000 in
theorem loessref6_Bits_PutNum.calls (k : Nat) (A0 : Option Addr) (c0 : Nat) (l0 : List Bool) (a1 : Int) (a2 : Int) (r : List Bool) (w : World) (hr0 : Kd.C Kd.bool w A0 l0.length l0) (hc0 : l0.length ≤ c0) (h : loessref6_Bits_PutNum.f k l0 a1 a2 = some r) :
    Calls Try.prog 88 #[.slice A0 l0.length c0, .int .u64 a1, .int .i64 a2] w fun e w' => ∃ v0_ : Value, e = .returned (v0_) ∧ Kd.R Kd.bool 4 w' w.heap.size (fun _ => True) v0_ r ∧ Below w.heap.size w w' := by
  have HR0 := Aside0.mk hr0
  have HC0 := Aside0.mk hc0
  clear hr0 hc0
  have HB := Aside0.mk (Below.refl w.heap.size w)
  have H : (if ([] : List Bool).length + l0.length < 140737488355328 then ((some (([] : List Bool) ++ l0 : List Bool)).bind fun y400 => (if a2 < 0 then (loessref6_Bits_PutNum.j0 k a1 a2 y400 true) else (loessref6_Bits_PutNum.j0 k a1 a2 y400 (decide (a2 > 64))))) else (none)) = some r := h
  clear h
  by_cases c4 : ([] : List Bool).length + l0.length < 140737488355328
  · rw [if_pos c4] at H
    have LMc4 := Aside0.mk c4
    clear c4
    obtain ⟨y400, hy400⟩ : ∃ y_ : List Bool, y_ = (([] : List Bool) ++ l0) := ⟨_, rfl⟩
    replace H : (if a2 < 0 then (loessref6_Bits_PutNum.j0 k a1 a2 y400 true) else (loessref6_Bits_PutNum.j0 k a1 a2 y400 (decide (a2 > 64)))) = some r := by first | (rw [hy400]; with_reducible exact H) | (have H2_ := (Option.bind_some _ _).symm.trans H; rw [hy400]; with_reducible exact H2_) | (have H2_ := (Option.bind_some _ _).symm.trans H; with_reducible exact H2_) | with_reducible exact H | (rw [hy400]; exact H) | exact H
    have Ny400 := Aside0.mk hy400
    clear hy400
    have HC5 := Aside0.mk H
    clear H
    go_enter Try.func88, Try.ntmps88
    go_upto_region 2 with (first | ((with_reducible refine gate_builtin (b := .append) (xs := #[.const (.slice none 0 0), .tmp 9]) rfl ?_); at_builtin; refine Kd.R_append_rows Kd.bool (w0 := w) w.heap.size rfl (.const (.slice none 0 0)) (.tmp 9) 113 4 (.bool false) 1 rfl Try.underlying113 info4 rfl (by decide) (by omega) (.slice none 0 0) ([] : List Bool) l0 _ _ _ (fun _ => True) (fun _ => False) rfl rfl ?aO ?aR (fun _ _ h => h) (fun _ h => h.elim) ?aF ?aB ?aS ?aL ?_; (case aR => repeat (first | exact HR0.out | (with_reducible refine Kd.C_alloc ?_ _) | (with_reducible refine Kd.C_drewN ?_ _) | (with_reducible refine Kd.C_drew ?_))); (case aB => exact (by repeat (first | (with_reducible first | exact HB.out | apply below_alloc | apply pw_below_drewN | apply below_drew1) | exact HB.out))); (case aF => exact (fun _ _ => trivial)); (case aO => exact ((Kd.R_nil _ _ _ _ (fun _ => True)))); (case aS => exact (below_size (by repeat (first | (with_reducible first | exact HB.out | apply below_alloc | apply pw_below_drewN | apply below_drew1) | exact HB.out)))); (case aL => have := LMc4.out; omega); intro v401 w6 ho hb hg hat; rw [← Ny400.out] at ho; have n0_ := Aside0.mk (hb); have n1_ := Aside0.mk (ho); clear HB; have HB := n0_; have HO402 := n1_; clear n0_ n1_; clear ho hb hg hat))
    (try simp only [Act.put, List.setIfInBounds_toArray, List.set_cons_zero, List.set_cons_succ])
    go_cut [16] (fun v16 wc => ∃ (kq : Nat) (x16_4 : Bool), v16 = .bool x16_4 ∧ Aside0 (loessref6_Bits_PutNum.j0 kq a1 a2 y400 x16_4 = some r) ∧ Aside0 (kq ≤ k) ∧ Aside0 (Kd.R Kd.bool 4 wc w.heap.size (fun _ => True) v401 y400) ∧ Aside0 (Below w.heap.size w wc))
    case first =>
      have H := HC5.out
      clear HC5
      by_cases c7 : a2 < 0
      · rw [if_pos c7] at H
        have c7b0 : decide (a2 < 0) = true := decide_eq_true c7
        clear c7
        (first | rw [c7b0] | (simp only [i64_w, i32_w]; rw [c7b0]) | skip)
        have H' := Aside0.mk H
        clear H
        go_wp2
        go_meet
        case rel => exact ⟨_, (true), (by first | rfl | (simp; done) | (simp [*]; done)), H', ⟨by first | omega | exact Nat.le_refl _⟩, ⟨by (with_reducible repeat (first | apply Kd.R_alloc | apply Kd.R_drewN | apply Kd.R_drew)); exact HO402.out⟩, ⟨by repeat (first | (with_reducible first | exact HB.out | apply below_alloc | apply pw_below_drewN | apply below_drew1) | exact HB.out)⟩⟩
      · rw [if_neg c7] at H
        have c7b0 : decide (a2 < 0) = false := decide_eq_false c7
        clear c7
        (first | rw [c7b0] | (simp only [i64_w, i32_w]; rw [c7b0]) | skip)
        have H' := Aside0.mk H
        clear H
        go_wp2
        go_meet
        case rel => exact ⟨_, (decide (a2 > 64)), (by first | rfl | (simp; done) | (simp [*]; done)), H', ⟨by first | omega | exact Nat.le_refl _⟩, ⟨by (with_reducible repeat (first | apply Kd.R_alloc | apply Kd.R_drewN | apply Kd.R_drew)); exact HO402.out⟩, ⟨by repeat (first | (with_reducible first | exact HB.out | apply below_alloc | apply pw_below_drewN | apply below_drew1) | exact HB.out)⟩⟩
    case rest =>
      clear HC5
      try clear p2
      try clear c4
      try clear c7
      try clear c7b0
      obtain ⟨kq, x16_4, rfl, HA, HJ4, HO_7, HB⟩ := hcut
      cases kq with
      | zero => exact absurd HA.out (by simp [loessref6_Bits_PutNum.j0])
      | succ kj4 =>
        have H := HA.out
        clear HA
        simp only [loessref6_Bits_PutNum.j0] at H
        by_cases c8 : x16_4 = true
        · subst c8
          have H1 : (some y400) = some r := by rw [if_pos rfl] at H; exact H
          clear H
          have H := H1
          clear H1
          obtain rfl := Option.some.inj H
          go_wp2
          go_ret
          exact ⟨_, by first | rfl | (simp [errW_none, errW_some] <;> rfl) | (simp [*, errW_none, errW_some] <;> rfl), by (with_reducible repeat (first | apply Kd.R_alloc | apply Kd.R_drewN | apply Kd.R_drew)); exact HO_7.out, by repeat (first | (with_reducible first | exact HB.out | apply below_alloc | apply pw_below_drewN | apply below_drew1) | exact HB.out)⟩
        · replace c8 := Bool.eq_false_iff.mpr c8
          subst c8
          have H1 : (loessref6_Bits_PutNum.l0 kj4 a1 y400 (wrap64 (a2 - 1))) = some r := by rw [if_neg (show ¬ (false = true) by decide)] at H; exact H
          clear H
          have H := H1
          clear H1
          have H' := Aside0.mk H
          clear H
          go_wp2
          go_loopg [7, 8] kj4 (fun kq v7 v8 w' => ∃ (x7_2 : List Bool) (x8_2 : Int), v8 = .int .i64 x8_2 ∧ Aside0 (loessref6_Bits_PutNum.l0 kq a1 x7_2 x8_2 = some r) ∧ Aside0 (kq ≤ kj4) ∧ Aside0 (Kd.R Kd.bool 4 w' w.heap.size (fun _ => True) v7 x7_2) ∧ Aside0 (Below w.heap.size w w'))
          case atStart => exact ⟨(y400), (wrap64 (a2 - 1)), (by first | rfl | (simp; done) | (simp [*]; done)), H', ⟨Nat.le_refl _⟩, ⟨by (with_reducible repeat (first | apply Kd.R_alloc | apply Kd.R_drewN | apply Kd.R_drew)); exact HO_7.out⟩, ⟨by repeat (first | (with_reducible first | exact HB.out | apply below_alloc | apply pw_below_drewN | apply below_drew1) | exact HB.out)⟩⟩
          case round =>
            clear H'
            try clear p2
            try clear c4
            try clear p6
            try clear c7
            try clear c7b0
            try clear c8
            try clear p2
            obtain ⟨x7_2, x8_2, rfl, HA, HK2, HO_7, HB⟩ := hrel
            cases gk with
            | zero => exact absurd HA.out (by simp [loessref6_Bits_PutNum.l0])
            | succ k2 =>
              have H := HA.out
              clear HA
              simp only [loessref6_Bits_PutNum.l0] at H
              by_cases c9 : x8_2 ≥ 0
              · rw [if_pos c9] at H
                have c9b0 : decide (0 ≤ x8_2) = true := decide_eq_true c9
                clear c9
                obtain ⟨ji10, hji10⟩ : ∃ j_ : Int, (IntKind.u64.wrap (x8_2)) = j_ := ⟨_, rfl⟩
                replace H : (if 0 ≤ (ji10) then (if x7_2.length < 140737488355328 then (loessref6_Bits_PutNum.l0 k2 a1 (x7_2 ++ [((Go.bits .and .u64 (shr .u64 a1 (ji10)) 1) == 1)]) (wrap64 (x8_2 - 1))) else (none)) else (none)) = some r := by first | (rw [hji10] at H; exact H) | (simp only [hji10] at H ⊢; exact H)
                by_cases c11 : 0 ≤ (ji10)
                · rw [if_pos c11] at H
                  have c11b0 := eq_true c11
                  have c11b1 : decide (0 ≤ (ji10)) = true := decide_eq_true c11
                  clear c11
                  obtain ⟨ji12, hji12⟩ : ∃ j_ : Int, (shr .u64 a1 (ji10)) = j_ := ⟨_, rfl⟩
                  replace H : (if x7_2.length < 140737488355328 then (loessref6_Bits_PutNum.l0 k2 a1 (x7_2 ++ [((Go.bits .and .u64 (ji12) 1) == 1)]) (wrap64 (x8_2 - 1))) else (none)) = some r := by first | (rw [hji12] at H; exact H) | (simp only [hji12] at H ⊢; exact H)
                  have hji12_ : (a1 / 2 ^ min (ji10).toNat 64) = ji12 := hji12
                  have hji12z : (ji10) ≤ 64 → (a1 / 2 ^ (ji10).toNat) = ji12 := shr_small hji12
                  by_cases c13 : x7_2.length < 140737488355328
                  · rw [if_pos c13] at H
                    have LMc13 := Aside0.mk c13
                    clear c13
                    obtain ⟨y403, hy403⟩ : ∃ y_ : List Bool, y_ = (x7_2 ++ [((Go.bits .and .u64 (ji12) 1) == 1)]) := ⟨_, rfl⟩
                    replace H : (loessref6_Bits_PutNum.l0 k2 a1 y403 (wrap64 (x8_2 - 1))) = some r := by first | (rw [hy403]; with_reducible exact H) | (have H2_ := (Option.bind_some _ _).symm.trans H; rw [hy403]; with_reducible exact H2_) | (have H2_ := (Option.bind_some _ _).symm.trans H; with_reducible exact H2_) | with_reducible exact H | (rw [hy403]; exact H) | exact H
                    have Ny403 := Aside0.mk hy403
                    clear hy403
                    have H' := Aside0.mk H
                    clear H
                    go_wp2_with (first | ((with_reducible refine gate_builtin (b := .append) (xs := #[.tmp 24, .tmp 31]) rfl ?_); at_builtin; refine Kd.R_append Kd.bool (w0 := w) w.heap.size rfl (.tmp 24) (.tmp 31) 113 4 (.bool false) 1 rfl Try.underlying113 info4 rfl (by decide) (by omega) u7 x7_2 ((Go.bits .and .u64 (ji12) 1) == 1) [.bool ((Go.bits .and .u64 (ji12) 1) == 1)] (fun _ => True) (fun _ => False) rfl rfl ?aP (fun _ hk => hk.elim) ?aF ?aO ?aB ?aS ?aL ?_; (case aP => exact rfl); (case aB => exact (by repeat (first | (with_reducible first | exact HB.out | apply below_alloc | apply pw_below_drewN | apply below_drew1) | exact HB.out))); (case aF => exact (fun _ _ => trivial)); (case aO => exact (by (with_reducible repeat (first | apply Kd.R_alloc | apply Kd.R_drewN | apply Kd.R_drew)); exact HO_7.out)); (case aS => exact (below_size (by repeat (first | (with_reducible first | exact HB.out | apply below_alloc | apply pw_below_drewN | apply below_drew1) | exact HB.out)))); (case aL => have := LMc13.out; omega); intro v404 w14 ho hb hg hat; rw [← Ny403.out] at ho; have n0_ := Aside0.mk (hb); have n1_ := Aside0.mk (ho); clear HB; clear HO_7; have HB := n0_; have HO405 := n1_; clear n0_ n1_; clear ho hb hg hat))
                    go_roundg k2
                    case measure => have := HJ4.out; have := HK2.out; omega
                    case rel => exact ⟨(y403), (wrap64 (x8_2 - 1)), (by first | rfl | (simp; done) | (simp [*]; done)), H', ⟨by have := HJ4.out; have := HK2.out; omega⟩, ⟨by (with_reducible repeat (first | apply Kd.R_alloc | apply Kd.R_drewN | apply Kd.R_drew)); exact HO405.out⟩, ⟨by repeat (first | (with_reducible first | exact HB.out | apply below_alloc | apply pw_below_drewN | apply below_drew1) | exact HB.out)⟩⟩
                  · rw [if_neg c13] at H
                    exact absurd H (by simp)
                · rw [if_neg c11] at H
                  exact absurd H (by simp)
              · rw [if_neg c9] at H
                have c9b0 : decide (0 ≤ x8_2) = false := decide_eq_false c9
                clear c9
                obtain rfl := Option.some.inj H
                go_wp2
                go_ret
                exact ⟨_, by first | rfl | (simp [errW_none, errW_some] <;> rfl) | (simp [*, errW_none, errW_some] <;> rfl), by (with_reducible repeat (first | apply Kd.R_alloc | apply Kd.R_drewN | apply Kd.R_drew)); exact HO_7.out, by repeat (first | (with_reducible first | exact HB.out | apply below_alloc | apply pw_below_drewN | apply below_drew1) | exact HB.out)⟩
  · rw [if_neg c4] at H
    exact absurd H (by simp)
end Go.Proofs.Ytkhcmddeeodbkaa.XSor
namespace Go.Proofs.Ytkhcmddeeodbkaa.XSor
open Go.RowKit Go.Proofs.Ytkhcmddeeodbkaa.G Go.Proofs.YtkhcmddeeodbkaaW.PrintWords Go.Proofs.YtkhcmddeeodbkaaW.PrintLast Go.Proofs.YtkhcmddeeodbkaaW.PrintMore
attribute [local go_sem] max2_int min2_int max_two min_two max_three min_three max_four min_four
def loessref6_Gamma.f (k : Nat) (a0 : Int) : Option (List Bool) := if a0 = 0 then (some ([] : List Bool)) else ((loessref6_digits.f k a0).bind fun t406 => (if 0 ≤ (wrap64 (t406 - 1)) then (if (wrap64 (t406 - 1) : Int).toNat ≤ 281474976710656 then ((loessref6_Bits_PutNum.f k (List.replicate (wrap64 (t406 - 1) : Int).toNat false) a0 t406).bind fun t410 => (some t410)) else (none)) else (none)))
theorem loessref6_Gamma.mono : ∀ a0 k, LeO (loessref6_Gamma.f k a0) (loessref6_Gamma.f (k + 1) a0) := by
  intro a0 k
  unfold loessref6_Gamma.f
  repeat' first
      | (with_reducible exact loessref6_Bits_PutNum.mono _ _ _ _)
      | (with_reducible exact loessref6_digits.mono _ _)
      | (with_reducible exact LeO.refl _)
      | (with_reducible exact LeO.none _)
      | (with_reducible refine LeO.ite ?_ ?_)
      | (with_reducible refine LeO.bind ?_ (fun _ => ?_))
      | exact loessref6_Bits_PutNum.mono _ _ _ _
      | exact loessref6_digits.mono _ _
      | exact LeO.none _
      | refine LeO.ite ?_ ?_
      | refine LeO.bind ?_ (fun _ => ?_)
set_option maxHeartbeats 8000000 in
set_option maxRecDepth 100000 in
theorem loessref6_Gamma.calls (k : Nat) (a0 : Int) (r : List Bool) (w : World) (h : loessref6_Gamma.f k a0 = some r) :
    Calls Try.prog 82 #[.int .u64 a0] w fun e w' => ∃ v0_ : Value, e = .returned (v0_) ∧ Kd.R Kd.bool 4 w' w.heap.size (fun _ => True) v0_ r ∧ Below w.heap.size w w' := by
  have HB := Aside0.mk (Below.refl w.heap.size w)
  have H : (if a0 = 0 then (some ([] : List Bool)) else ((loessref6_digits.f k a0).bind fun t406 => (if 0 ≤ (wrap64 (t406 - 1)) then (if (wrap64 (t406 - 1) : Int).toNat ≤ 281474976710656 then ((loessref6_Bits_PutNum.f k (List.replicate (wrap64 (t406 - 1) : Int).toNat false) a0 t406).bind fun t410 => (some t410)) else (none)) else (none)))) = some r := h
  clear h
  by_cases c2 : a0 = 0
  · rw [if_pos c2] at H
    have c2b0 : (a0 == 0) = true := beq_iff_eq.mpr c2
    have c2b1 : (a0 != 0) = false := bne_eq_false_iff_eq.mpr c2
    clear c2
    obtain rfl := Option.some.inj H
    go_enter Try.func82, Try.ntmps82
    go_wp2
    go_ret
    exact ⟨_, by first | rfl | (simp [errW_none, errW_some] <;> rfl) | (simp [*, errW_none, errW_some] <;> rfl), by first | exact Kd.R_nil _ _ _ _ _ | exact Kd.N_nil _ _ _ _ _ | exact Kd.V_nil _ _ _ _ _ | exact Kd.Q_nil _ _ _ _ _ | exact Kd.S_nil _ _ _ _ _, by repeat (first | (with_reducible first | exact HB.out | apply below_alloc | apply pw_below_drewN | apply below_drew1) | exact HB.out)⟩
  · rw [if_neg c2] at H
    have c2b0 : (a0 == 0) = false := beq_eq_false_iff_ne.mpr c2
    have c2b1 : (a0 != 0) = true := bne_iff_ne.mpr c2
    replace H := Option.bind_eq_some_iff.mp H
    obtain ⟨t406, A30, H⟩ := H
    replace H : (if 0 ≤ (wrap64 (t406 - 1)) then (if (wrap64 (t406 - 1) : Int).toNat ≤ 281474976710656 then ((loessref6_Bits_PutNum.f k (List.replicate (wrap64 (t406 - 1) : Int).toNat false) a0 t406).bind fun t410 => (some t410)) else (none)) else (none)) = some r := H
    have A3 := Aside0.mk A30
    clear A30
    obtain ⟨ji4, hji4⟩ : ∃ j_ : Int, (wrap64 (t406 - 1)) = j_ := ⟨_, rfl⟩
    replace H : (if 0 ≤ (ji4) then (if (ji4 : Int).toNat ≤ 281474976710656 then ((loessref6_Bits_PutNum.f k (List.replicate (ji4 : Int).toNat false) a0 t406).bind fun t410 => (some t410)) else (none)) else (none)) = some r := by first | (rw [hji4] at H; exact H) | (simp only [hji4] at H ⊢; exact H)
    (try rw [hji4] at A3)
    have hji4w : (IntKind.i64.wrap (t406 - 1)) = ji4 := (i64_w _).trans hji4
    by_cases c5 : 0 ≤ (ji4)
    · rw [if_pos c5] at H
      have c5b0 := eq_true c5
      have c5b1 : decide (0 ≤ (ji4)) = true := decide_eq_true c5
      clear c5
      by_cases c6 : (ji4 : Int).toNat ≤ 281474976710656
      · rw [if_pos c6] at H
        have c6b0 := eq_true c6
        have c6b1 : decide ((ji4 : Int).toNat ≤ 281474976710656) = true := decide_eq_true c6
        clear c6
        obtain ⟨y407, hy407⟩ : ∃ y_ : List Bool, y_ = (List.replicate (ji4 : Int).toNat false) := ⟨_, rfl⟩
        replace H : ((loessref6_Bits_PutNum.f k y407 a0 t406).bind fun t410 => (some t410)) = some r := by first | (rw [hy407]; with_reducible exact H) | (have H2_ := (Option.bind_some _ _).symm.trans H; rw [hy407]; with_reducible exact H2_) | (have H2_ := (Option.bind_some _ _).symm.trans H; with_reducible exact H2_) | with_reducible exact H | (rw [hy407]; exact H) | exact H
        have Ny407 := Aside0.mk hy407
        clear hy407
        replace H := Option.bind_eq_some_iff.mp H
        obtain ⟨t410, A70, H⟩ := H
        replace H : (some t410) = some r := H
        have A7 := Aside0.mk A70
        clear A70
        obtain rfl := Option.some.inj H
        go_enter Try.func82, Try.ntmps82
        go_wp2_with (first | ((with_reducible refine gate_callee (f := 87) rfl ?_); refine goesL_ (some 7) rfl rfl Try.func87 (by kernel_rfl) rfl #[.int .u64 a0] rfl (by (try simp only [List.map_toArray, List.map_cons, List.map_nil]); first | done | rfl | (simp only [List.length_drop, List.length_take]; rfl)) ?_; (with_reducible refine (loessref6_digits.calls k a0 t406 _ A3.out).mono ?_); rintro e w' ⟨rfl, ⟨nd, rfl⟩⟩; refine ⟨_, rfl, ?_⟩) | ((with_reducible refine gate_dst (N := 10) rfl ?_); refine Kd.R_make Kd.bool _ 4 rfl (N := 10) rfl 113 _ _ rfl ji4 rfl rfl Try.underlying113 (.bool false) 1 info4 rfl (by decide) (by omega) false (ok := fun _ => True) (okp := fun _ => True) rfl (fun _ hk => hk) trivial (of_decide_eq_true (by first | (with_reducible assumption) | assumption)) (Nat.le_trans (Nat.mul_le_mul_right _ (of_decide_eq_true (by first | (with_reducible assumption) | assumption) : ji4.toNat ≤ 281474976710656)) (by omega)) (Below.refl _ _) (Nat.le_refl _) ?_; intro v408 w8 ho9 hb hg_ hnew_; clear hg_ hnew_; (first | rw [← Ny407.out] at ho9 | (simp only [Int.reduceToNat] at ho9; rw [← Ny407.out] at ho9)); have n0_ := Aside0.mk (Kd.R_lower ho9 (below_size (by repeat (first | (with_reducible first | exact HB.out | apply below_alloc | apply pw_below_drewN | apply below_drew1) | exact HB.out)))); have n1_ := Aside0.mk (below_step (by repeat (first | (with_reducible first | exact HB.out | apply below_alloc | apply pw_below_drewN | apply below_drew1) | exact HB.out)) hb); clear HB; have HO409 := n0_; have HB := n1_; clear n0_ n1_; clear hb ho9; obtain ⟨Ao10, co10, eo10⟩ := Kd.R_slice HO409.out; subst eo10) | ((with_reducible refine gate_callee (f := 88) rfl ?_); refine goesL_ (some 13) rfl rfl Try.func88 (by kernel_rfl) rfl #[.slice Ao10 y407.length co10, .int .u64 a0, .int .i64 t406] rfl (by (try simp only [List.map_toArray, List.map_cons, List.map_nil]); first | done | rfl | (simp only [List.length_drop, List.length_take]; rfl)) ?_; (with_reducible refine (loessref6_Bits_PutNum.calls k _ _ y407 a0 t406 t410 _ ?side1 ?side2 A7.out).mono ?_); (case side1 => repeat (first | exact (Kd.R_reads' HO409.out).2.2 | (with_reducible refine Kd.C_alloc ?_ _) | (with_reducible refine Kd.C_drewN ?_ _) | (with_reducible refine Kd.C_drew ?_))); (case side2 => exact (Kd.R_reads' HO409.out).2.1); rintro e w11 ⟨v411, rfl, ho0, hb⟩; refine ⟨_, rfl, ?_⟩; have n0_ := Aside0.mk (Kd.R_elder' (by (with_reducible repeat (first | apply Kd.R_alloc | apply Kd.R_drewN | apply Kd.R_drew)); exact HO409.out) (Kd.R_base ho0) hb); have n1_ := Aside0.mk (Kd.R_lower (Kd.R_new' ho0 (Kd.R_lt (by (with_reducible repeat (first | apply Kd.R_alloc | apply Kd.R_drewN | apply Kd.R_drew)); exact HO409.out))) (below_size (by repeat (first | (with_reducible first | exact HB.out | apply below_alloc | apply pw_below_drewN | apply below_drew1) | exact HB.out)))); have n2_ := Aside0.mk (below_step (by repeat (first | (with_reducible first | exact HB.out | apply below_alloc | apply pw_below_drewN | apply below_drew1) | exact HB.out)) hb); clear HO409; clear HB; have HO409 := n0_; have HO412 := n1_; have HB := n2_; clear n0_ n1_ n2_; (try clear hb); (try clear hb2); (try clear hk); (try clear hi); (try clear ho0)))
        go_ret
        exact ⟨_, by first | rfl | (simp [errW_none, errW_some] <;> rfl) | (simp only [← hji4]; first | rfl | (simp [errW_none, errW_some] <;> rfl)) | (simp [*, errW_none, errW_some] <;> rfl), by (with_reducible repeat (first | apply Kd.R_alloc | apply Kd.R_drewN | apply Kd.R_drew)); exact Kd.R_mono HO412.out (fun _ hk => trivial), by repeat (first | (with_reducible first | exact HB.out | apply below_alloc | apply pw_below_drewN | apply below_drew1) | exact HB.out)⟩
      · rw [if_neg c6] at H
        exact absurd H (by simp)
    · rw [if_neg c5] at H
      exact absurd H (by simp)
end Go.Proofs.Ytkhcmddeeodbkaa.XSor
namespace Go.Proofs.Ytkhcmddeeodbkaa.GL
open Go.RowKit Go.Proofs.YtkhcmddeeodbkaaW.PrintWords Go.Proofs.YtkhcmddeeodbkaaW.PrintMore Go.Proofs.Ytkhcmddeeodbkaa.Q Go.Proofs.Ytkhcmddeeodbkaa.XSor Go.Proofs.Ytkhcmddeeodbkaa.G
theorem mod_pow_succ (x : Int) (n : Nat) : x % 2 ^ (n + 1) = (x / 2 ^ n % 2) * 2 ^ n + x % 2 ^ n := by
  have hp : (0 : Int) < 2 ^ n := Int.pow_pos (by decide)
  have h1 := Int.mul_ediv_add_emod x (2 ^ n)
  have h2 := Int.mul_ediv_add_emod (x / 2 ^ n) 2
  have h0 := Int.emod_nonneg x (show (2 : Int) ^ n ≠ 0 by omega)
  have h3 := Int.emod_lt_of_pos x hp
  have e : x = (x / 2 ^ n / 2) * 2 ^ (n + 1) + ((x / 2 ^ n % 2) * 2 ^ n + x % 2 ^ n) := by
    rw [Int.pow_succ]
    generalize hA : x / 2 ^ n = A at *
    generalize hB : (2 : Int) ^ n = B at *
    generalize hC : A / 2 = C at *
    generalize hD : A % 2 = D at *
    have : C * (B * 2) + (D * B + x % B) = B * (2 * C + D) + x % B := by
      rw [Int.mul_add, ← Int.mul_assoc B 2 C, Int.mul_comm (B * 2) C, Int.mul_comm B D]
      omega
    rw [this, h2]
    exact h1.symm
  have hb : 0 ≤ (x / 2 ^ n % 2) * 2 ^ n + x % 2 ^ n ∧ (x / 2 ^ n % 2) * 2 ^ n + x % 2 ^ n < 2 ^ (n + 1) := by
    rw [Int.pow_succ]
    rcases (show x / 2 ^ n % 2 = 0 ∨ x / 2 ^ n % 2 = 1 by omega) with h | h <;> rw [h] <;> omega
  have : x % 2 ^ (n + 1) = ((x / 2 ^ n / 2) * 2 ^ (n + 1) + ((x / 2 ^ n % 2) * 2 ^ n + x % 2 ^ n)) % 2 ^ (n + 1) := by rw [← e]
  rw [this, Int.add_comm, Int.add_mul_emod_self_right, Int.emod_eq_of_lt hb.1 hb.2]
theorem fold_numBits (x : Int) : ∀ (n : Nat) (a : Int), (numBits x n).foldl (fun a b => 2 * a + if b = true then 1 else 0) a = a * 2 ^ n + x % 2 ^ n := by
  intro n
  induction n with
  | zero => intro a; simp [numBits]
  | succ n ih =>
    intro a
    rw [numBits, List.foldl_cons, ih, mod_pow_succ, Int.pow_succ]
    rcases (show x / 2 ^ n % 2 = 0 ∨ x / 2 ^ n % 2 = 1 by omega) with h | h
    · rw [h]
      simp only [beq_iff_eq, show ¬ ((0 : Int) = 1) by decide, if_false]
      rw [Int.add_zero, Int.zero_mul, Int.zero_add, Int.mul_comm 2 a, Int.mul_assoc, Int.mul_comm 2 (2 ^ n)]
    · rw [h]
      simp only [beq_self_eq_true, if_true]
      rw [Int.add_mul, Int.one_mul, Int.mul_comm 2 a, Int.mul_assoc, Int.mul_comm 2 (2 ^ n)]
      omega
theorem numOf_numBits (x : Int) (n : Nat) : numOf (numBits x n) = x % 2 ^ n := by
  unfold numOf
  rw [fold_numBits]
  omega
theorem numAt_mid (A B : List Bool) (x : Int) (n : Nat) (hn : n ≤ 64) : numAt (A ++ numBits x n ++ B) (A.length : Int) (n : Int) = some (x % 2 ^ n) := by
  unfold numAt
  rw [if_pos ⟨by omega, by omega, by omega, by rw [List.length_append, List.length_append, numBits_len]; omega⟩, Int.toNat_natCast, Int.toNat_natCast, List.append_assoc, List.drop_left,
    List.take_append_of_le_length (by rw [numBits_len]; omega), List.take_of_length_le (by rw [numBits_len]; omega), numOf_numBits]
theorem numBits_zero : ∀ n, numBits 0 n = List.replicate n false
  | 0 => rfl
  | n + 1 => by rw [numBits, numBits_zero n, List.replicate_succ]; simp
theorem zeros_rep (B : List Bool) : ∀ (k m : Nat), k < m → zeros (List.replicate k false ++ true :: B) m = k
  | 0, m + 1, _ => by simp [zeros]
  | k + 1, m + 1, h => by rw [List.replicate_succ, List.cons_append, zeros]; simp [zeros_rep B k m (by omega)]
theorem bitLen_pow {x : Nat} (h0 : x ≠ 0) (hx : x < 2 ^ 64) : 2 ^ (Lib.bitLen x - 1) ≤ x ∧ x < 2 ^ Lib.bitLen x := by
  have h1 := Nat.log2_self_le h0
  have h2 := Nat.lt_log2_self (n := x)
  have e : Lib.bitLen x = x.log2 + 1 := by
    rw [Lib.bitLen_shift x.log2 x h1 hx]
    have e : x / 2 ^ x.log2 = 1 := by
      have hp := Nat.two_pow_pos x.log2
      apply Nat.le_antisymm
      · have := (Nat.div_lt_iff_lt_mul hp (x := x) (y := 2)).2 (by rw [Nat.pow_succ] at h2; omega)
        omega
      · exact (Nat.le_div_iff_mul_le hp).2 (by omega)
    rw [e]
    rfl
  rw [e]
  exact ⟨h1, h2⟩
theorem getG_mid (A B : List Bool) (x : Int) (h0 : 0 < x) (h1 : x < 18446744073709551616) : getG (A ++ gammaBits x ++ B) (A.length : Int) = some (x, (A.length : Int) + ((gammaBits x).length : Int)) := by
  obtain ⟨k, hk⟩ : ∃ k, k = Lib.bitLen x.toNat := ⟨_, rfl⟩
  have hkp : 0 < k := by rw [hk]; exact bitLen_pos (by omega)
  have hk64 : k ≤ 64 := by rw [hk]; exact Lib.bitLen_le x.toNat 64 (Nat.le_refl _) (by omega)
  have hpw := bitLen_pow (x := x.toNat) (by omega) (by omega)
  rw [← hk] at hpw
  have hp0 : (2 : Int) ^ (k - 1) ≤ x := by
    have h2 : ((2 ^ (k - 1) : Nat) : Int) ≤ (x.toNat : Int) := by have := hpw.1; omega
    rw [Int.toNat_of_nonneg (by omega)] at h2
    exact_mod_cast h2
  have hp1 : x < (2 : Int) ^ k := by
    have h2 : (x.toNat : Int) < ((2 ^ k : Nat) : Int) := by have := hpw.2; omega
    rw [Int.toNat_of_nonneg (by omega)] at h2
    exact_mod_cast h2
  have hg : gammaBits x = List.replicate (k - 1) false ++ numBits x k := by rw [gammaBits, if_neg (by omega), ← hk, numBits_zero]
  have htop : ∃ R, numBits x k = true :: R := by
    obtain ⟨m, rfl⟩ : ∃ m, k = m + 1 := ⟨k - 1, by omega⟩
    refine ⟨numBits x m, ?_⟩
    rw [numBits]
    have hq : (0 : Int) < 2 ^ m := Int.pow_pos (by decide)
    have e : x / 2 ^ m = 1 := by
      rw [Nat.add_sub_cancel] at hp0
      apply Int.le_antisymm
      · have := Int.ediv_lt_of_lt_mul hq (show x < 2 * 2 ^ m by rw [Int.pow_succ] at hp1; omega)
        omega
      · exact Int.le_ediv_of_mul_le hq (by omega)
    rw [e]
    rfl
  obtain ⟨R, hR⟩ := htop
  have hz : zeros ((A ++ gammaBits x ++ B).drop A.length) 64 = k - 1 := by
    rw [List.append_assoc, List.drop_left, hg, hR, List.append_assoc, List.cons_append]
    exact zeros_rep _ _ _ (by omega)
  unfold getG
  rw [if_neg (by omega), Int.toNat_natCast, hz, if_neg (by omega)]
  have ha : (A.length : Int) + ((k - 1 : Nat) : Int) = ((A ++ List.replicate (k - 1) false).length : Int) := by rw [List.length_append, List.length_replicate]; omega
  have hn : (((k - 1 : Nat) : Int) + 1) = (k : Int) := by omega
  rw [ha, hn, hg, ← List.append_assoc, numAt_mid _ B x k hk64, Int.emod_eq_of_lt (by omega) hp1]
  simp only [Option.map_some, List.length_append, List.length_replicate, numBits_len]
  congr 2
  omega
end Go.Proofs.Ytkhcmddeeodbkaa.GL
namespace Go.Proofs.Ytkhcmddeeodbkaa.GL
open Go.RowKit Go.Proofs.YtkhcmddeeodbkaaW.PrintWords Go.Proofs.YtkhcmddeeodbkaaW.PrintMore Go.Proofs.Ytkhcmddeeodbkaa.Q Go.Proofs.Ytkhcmddeeodbkaa.XSor
theorem treeG_s {k : Nat} {ls : List Int} (h : ¬ ls.length < 2) : treeG (k + 1) ls = gammaBits ((lead k ls : Int) + 1) ++ treeG k (ls.take (lead k ls)) ++ treeG k (ls.drop (lead k ls)) := if_neg h
theorem skipT_sh {L : List Bool} (k : Nat) {at_ n : Int} (h : n < 2) : skipT L k at_ n = some at_ := by cases k <;> exact if_pos h
theorem skipT_l {L : List Bool} {k : Nat} {at_ n : Int} (h : ¬ n < 2) : skipT L (k + 1) at_ n = match readT L at_ n with
    | none => none
    | some (l, e) => match skipT L k e l with
      | none => none
      | some t => skipT L k t (n - l) := if_neg h
theorem read_tree (A B : List Bool) (m : Nat) (n : Int) (hm : (m : Int) ≤ n) (hn : n ≤ 4096) : readT (A ++ gammaBits ((m : Int) + 1) ++ B) (A.length : Int) n = some ((m : Int), ((A ++ gammaBits ((m : Int) + 1)).length : Int)) := by
  unfold readT
  rw [getG_mid A B ((m : Int) + 1) (by omega) (by omega)]
  show (if n < (m : Int) + 1 - 1 then none else some ((m : Int) + 1 - 1, (A.length : Int) + ((gammaBits ((m : Int) + 1)).length : Int))) = _
  rw [if_neg (by omega), List.length_append, Int.add_sub_cancel]
  rfl
theorem skip_tree : ∀ (k : Nat) (ls : List Int) (A B : List Bool), ls.length ≤ 4096 → OkT k ls → skipT (A ++ treeG k ls ++ B) k (A.length : Int) (ls.length : Int) = some ((A.length : Int) + ((treeG k ls).length : Int)) := by
  intro k
  induction k with
  | zero =>
    intro ls A B _ hok
    have h := hok.zero
    rw [skipT_sh 0 (by omega), treeG_short 0 h]
    simp
  | succ k ih =>
    intro ls A B hl hok
    by_cases h : ls.length < 2
    · rw [skipT_sh _ (by omega), treeG_short _ h]
      simp
    · have hs := (lead_spec k ls).1
      have e : A ++ treeG (k + 1) ls ++ B = A ++ gammaBits ((lead k ls : Int) + 1) ++ (treeG k (ls.take (lead k ls)) ++ treeG k (ls.drop (lead k ls)) ++ B) := by rw [treeG_s h]; simp [List.append_assoc]
      have h1 := ih (ls.take (lead k ls)) (A ++ gammaBits ((lead k ls : Int) + 1)) (treeG k (ls.drop (lead k ls)) ++ B) (by rw [List.length_take]; omega) hok.take
      have h2 := ih (ls.drop (lead k ls)) (A ++ gammaBits ((lead k ls : Int) + 1) ++ treeG k (ls.take (lead k ls))) B (by rw [List.length_drop]; omega) hok.drop
      rw [List.length_take, Nat.min_eq_left hs] at h1
      rw [List.length_drop] at h2
      have e1 : A ++ gammaBits ((lead k ls : Int) + 1) ++ treeG k (ls.take (lead k ls)) ++ (treeG k (ls.drop (lead k ls)) ++ B) = A ++ gammaBits ((lead k ls : Int) + 1) ++ (treeG k (ls.take (lead k ls)) ++ treeG k (ls.drop (lead k ls)) ++ B) := by simp [List.append_assoc]
      have e2 : A ++ gammaBits ((lead k ls : Int) + 1) ++ treeG k (ls.take (lead k ls)) ++ treeG k (ls.drop (lead k ls)) ++ B = A ++ gammaBits ((lead k ls : Int) + 1) ++ (treeG k (ls.take (lead k ls)) ++ treeG k (ls.drop (lead k ls)) ++ B) := by simp [List.append_assoc]
      rw [e1] at h1
      rw [e2] at h2
      rw [e, skipT_l (by omega), read_tree _ _ _ _ (by omega) (by omega)]
      simp only [h1]
      have e3 : ((A ++ gammaBits ((lead k ls : Int) + 1)).length : Int) + ((treeG k (ls.take (lead k ls))).length : Int) = ((A ++ gammaBits ((lead k ls : Int) + 1) ++ treeG k (ls.take (lead k ls))).length : Int) := by rw [List.length_append (bs := treeG k (ls.take (lead k ls)))]; rfl
      have e4 : (ls.length : Int) - (lead k ls : Int) = ((ls.length - lead k ls : Nat) : Int) := by omega
      rw [e3, e4, h2, treeG_s h]
      simp only [List.length_append, Option.some.injEq]
      omega
theorem ok_bit {k : Nat} {ls : List Int} (h : OkT (k + 1) ls) {i : Nat} (hi : i < ls.length) (hl : lead k ls ≤ i) : bitT ls[i] k = true := by
  obtain ⟨hp, c, hc⟩ := h
  obtain ⟨h1, h2, h3⟩ := lead_spec k ls
  have hb := h3 (by omega)
  rw [List.getD_eq_getElem?_getD, List.getElem?_eq_getElem (by omega), Option.getD_some] at hb
  have h4 := bitT_true hb
  rw [hc _ (List.getElem_mem _)] at h4
  have h5 := hc ls[i] (List.getElem_mem _)
  have h6 : ls[lead k ls]'(by omega) ≤ ls[i] := by
    rcases Nat.eq_or_lt_of_le hl with he | hlt
    · subst he; exact Int.le_refl _
    · exact Int.le_of_lt (List.pairwise_iff_getElem.1 hp _ _ (by omega) (by omega) hlt)
  have h7 := mono_div k h6
  rw [half] at h5
  unfold bitT
  have : ls[i] / 2 ^ k % 2 = 1 := by omega
  rw [this]
  rfl
theorem rank_tree : ∀ (k : Nat) (ls : List Int) (A B : List Bool) (i : Nat) (a h : Int), ls[i]? = some h → ls.length ≤ 4096 → OkT k ls → rankT (A ++ treeG k ls ++ B) h k (A.length : Int) (ls.length : Int) a = some (a + (i : Int)) := by
  intro k
  induction k with
  | zero =>
    intro ls A B i a h hih _ hok
    obtain ⟨hi, _⟩ := List.getElem?_eq_some_iff.1 hih
    have h := hok.zero
    have e1 : ls.length = 1 := by omega
    obtain rfl : i = 0 := by omega
    have e2 : (ls.length : Int) = 1 := by omega
    rw [e2, rankT_1]
    simp
  | succ k ih =>
    intro ls A B i a y hih hl hok
    obtain ⟨hi, hy⟩ := List.getElem?_eq_some_iff.1 hih
    by_cases h : ls.length < 2
    · obtain rfl : i = 0 := by omega
      have e2 : (ls.length : Int) = 1 := by omega
      rw [e2, rankT_1]
      simp
    · have hs := (lead_spec k ls).1
      have hb := (lead_spec k ls).2.1
      have e : A ++ treeG (k + 1) ls ++ B = A ++ gammaBits ((lead k ls : Int) + 1) ++ (treeG k (ls.take (lead k ls)) ++ treeG k (ls.drop (lead k ls)) ++ B) := by rw [treeG_s h]; simp [List.append_assoc]
      have e1 : A ++ gammaBits ((lead k ls : Int) + 1) ++ treeG k (ls.take (lead k ls)) ++ (treeG k (ls.drop (lead k ls)) ++ B) = A ++ gammaBits ((lead k ls : Int) + 1) ++ (treeG k (ls.take (lead k ls)) ++ treeG k (ls.drop (lead k ls)) ++ B) := by simp [List.append_assoc]
      have e2 : A ++ gammaBits ((lead k ls : Int) + 1) ++ treeG k (ls.take (lead k ls)) ++ treeG k (ls.drop (lead k ls)) ++ B = A ++ gammaBits ((lead k ls : Int) + 1) ++ (treeG k (ls.take (lead k ls)) ++ treeG k (ls.drop (lead k ls)) ++ B) := by simp [List.append_assoc]
      rw [e, rankT_s (by omega), read_tree _ _ _ _ (by omega) (by omega)]
      by_cases hlt : i < lead k ls
      · have hbf := hb i hlt
        rw [List.getD_eq_getElem?_getD, hih, Option.getD_some] at hbf
        have h1 := ih (ls.take (lead k ls)) (A ++ gammaBits ((lead k ls : Int) + 1)) (treeG k (ls.drop (lead k ls)) ++ B) i a y (by rw [List.getElem?_take_of_lt hlt]; exact hih) (by rw [List.length_take]; omega) hok.take
        rw [List.length_take, Nat.min_eq_left hs, e1] at h1
        simp only [hbf]
        exact h1
      · have hbt := ok_bit hok hi (by omega)
        rw [hy] at hbt
        have h0 := skip_tree k (ls.take (lead k ls)) (A ++ gammaBits ((lead k ls : Int) + 1)) (treeG k (ls.drop (lead k ls)) ++ B) (by rw [List.length_take]; omega) hok.take
        rw [List.length_take, Nat.min_eq_left hs, e1] at h0
        have h2 := ih (ls.drop (lead k ls)) (A ++ gammaBits ((lead k ls : Int) + 1) ++ treeG k (ls.take (lead k ls))) B (i - lead k ls) (a + (lead k ls : Int)) y (by rw [List.getElem?_drop, show lead k ls + (i - lead k ls) = i by omega]; exact hih) (by rw [List.length_drop]; omega) hok.drop
        have e3 : ((A ++ gammaBits ((lead k ls : Int) + 1)).length : Int) + ((treeG k (ls.take (lead k ls))).length : Int) = ((A ++ gammaBits ((lead k ls : Int) + 1) ++ treeG k (ls.take (lead k ls))).length : Int) := by rw [List.length_append (bs := treeG k (ls.take (lead k ls)))]; rfl
        have e4 : (ls.length : Int) - (lead k ls : Int) = ((ls.length - lead k ls : Nat) : Int) := by omega
        rw [List.length_drop, e2] at h2
        simp only [hbt, h0, e3, e4, h2]
        rw [if_pos trivial]
        congr 1
        omega
theorem rank_found {ls : List Int} {i : Nat} (hi : i < ls.length) (hl : ls.length ≤ 4096) (hp : ls.Pairwise (· < ·)) (hu : U64s ls) : rankI (treeG 64 ls) ls[i] (ls.length : Int) = some (i : Int) := by
  unfold rankI
  rw [if_neg (by omega)]
  have := rank_tree 64 ls [] [] i 0 ls[i] (List.getElem?_eq_getElem hi) hl (OkT.all hp hu)
  simpa using this
theorem rank_rng {L : List Bool} {h : Int} : ∀ (k : Nat) (at_ n a r : Int), 0 ≤ n → rankT L h k at_ n a = some r → a ≤ r ∧ r < a + n := by
  intro k
  induction k with
  | zero =>
    intro at_ n a r hn h
    rw [rankT] at h
    split at h
    · cases h
    · split at h
      · injection h with h; omega
      · cases h
  | succ k ih =>
    intro at_ n a r hn hr
    by_cases hz : n = 0
    · subst hz; rw [rankT_0] at hr; cases hr
    · by_cases ho : n = 1
      · subst ho; rw [rankT_1] at hr; injection hr with hr; omega
      · rw [rankT_s (by omega)] at hr
        cases hrd : readT L at_ n with
        | none => rw [hrd] at hr; cases hr
        | some le =>
          obtain ⟨l, e⟩ := le
          rw [hrd] at hr
          have hsp := readT_spec hrd
          by_cases hb : bitT h k = true
          · simp only [if_pos hb] at hr
            cases hs : skipT L k e l with
            | none => simp only [hs] at hr; cases hr
            | some t =>
              simp only [hs] at hr
              have := ih t (n - l) (a + l) r (by omega) hr
              omega
          · simp only [if_neg hb] at hr
            have := ih e l a r (by omega) hr
            omega
end Go.Proofs.Ytkhcmddeeodbkaa.GL
namespace Go.Proofs.Ytkhcmddeeodbkaa.GL
open Go.RowKit Go.Proofs.YtkhcmddeeodbkaaW.PrintWords Go.Proofs.YtkhcmddeeodbkaaW.PrintMore Go.Proofs.Ytkhcmddeeodbkaa.Q Go.Proofs.Ytkhcmddeeodbkaa.XSor
def treeOf (L : List Pr) : List Bool := treeG 64 (hsL L)
def likeL (L : List Pr) (k : ByteArray) : List Pr := match rankI (treeOf L) (H k) ((hsL L).length : Int) with
  | none => []
  | some q => ofH L ((hsL L).getD q.toNat 0)
theorem rankI_bd {L : List Pr} {h q : Int} (e : rankI (treeOf L) h ((hsL L).length : Int) = some q) : 0 ≤ q ∧ q.toNat < (hsL L).length := by
  unfold rankI at e
  split at e
  · cases e
  · have := rank_rng 64 0 _ 0 q (by omega) e
    omega
theorem tree_build {L : List Pr} (hs : SortH L) (hl : L.length ≤ 1000) : buildT (hsL L) = some (treeOf L) := if_pos ⟨by have := hsL_len_le L; omega, (hsL_inv L hs).1⟩
theorem tree_len {L : List Pr} (hl : L.length ≤ 1000) : (treeOf L).length < 100000000000 := by
  have := hsL_len_le L
  have h2 := treeG_le 64 (hsL L) (by omega)
  unfold treeOf
  omega
theorem hs_u64 {L : List Pr} (hs : SortH L) : U64s (hsL L) := hsL_u hs
theorem like_of {L : List Pr} (hs : SortH L) (hl : L.length ≤ 1000) {k : ByteArray} (h : H k ∈ hsL L) : likeL L k = ofH L (H k) := by
  obtain ⟨i, hi, e⟩ := List.getElem_of_mem h
  have := rank_found hi (by have := hsL_len_le L; omega) (hsL_inv L hs).1 (hs_u64 hs)
  rw [e] at this
  unfold likeL treeOf
  rw [this]
  show ofH L ((hsL L).getD (i : Int).toNat 0) = _
  rw [Int.toNat_natCast, List.getD_eq_getElem?_getD, List.getElem?_eq_getElem hi, Option.getD_some, e]
theorem like_sub (L : List Pr) (k : ByteArray) : ∀ p ∈ likeL L k, p ∈ L := by
  intro p hp
  unfold likeL at hp
  split at hp
  · cases hp
  · exact (List.mem_filter.1 hp).1
theorem like_find {L : List Pr} (hs : SortH L) (hl : L.length ≤ 1000) (k : ByteArray) : findP (likeL L k) k = findP L k := by
  unfold findP
  by_cases h : H k ∈ hsL L
  · rw [like_of hs hl h]
    unfold ofH
    rw [List.find?_filter]
    congr 1
    funext p
    by_cases e : p.f0 = k
    · simp [e]
    · simp [e]
  · have hno : ∀ p ∈ L, ¬ (decide (p.f0 = k) = true) := fun p hp e => h (by
      have e := of_decide_eq_true e
      rw [← e]
      exact (hsL_inv L hs).2.1 p hp)
    rw [List.find?_eq_none.2 hno, List.find?_eq_none.2 (fun p hp => hno p (like_sub L k p hp))]
end Go.Proofs.Ytkhcmddeeodbkaa.GL
