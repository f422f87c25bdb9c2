import Derived.Test.YtkhcmddeeodbkaaZSortedAll17
-- Own texts and, of the words that the kit's print program wrote for this claim, those that are needed here: put together by wip/prune.py.
set_option linter.unusedSimpArgs false
set_option linter.unusedVariables false
namespace Go.Proofs.Ytkhcmddeeodbkaa.XSor
open Go.RowKit Go.Proofs.Ytkhcmddeeodbkaa.G Go.Proofs.YtkhcmddeeodbkaaW.PrintWords Go.Proofs.YtkhcmddeeodbkaaW.PrintLast Go.Proofs.YtkhcmddeeodbkaaW.PrintMore
attribute [local go_sem] max2_int min2_int max_two min_two max_three min_three max_four min_four
def loessref22_Pairs.l0 : Nat → List (S27) → List (S30) → Int → Option ((List (S30)))
 | 0, _, _, _ => none
 | k + 1, x0, x3, x4 => if x4 < (x0.length : Int) then (if 0 ≤ x4 then (if ((rd_T27 x0 x4).f1 = true) then (loessref22_Pairs.l0 k x0 x3 (wrap64 (x4 + 1))) else (if x3.length < 2932031007402 then (loessref22_Pairs.l0 k x0 (x3 ++ [(⟨(rd_T27 x0 x4).f0, (⟨(rd_T27 x0 x4).f2.f0, (rd_T27 x0 x4).f2.f1, (rd_T27 x0 x4).f2.f2⟩ : S25)⟩ : S30)]) (wrap64 (x4 + 1))) else (none))) else (none)) else (some x3)
def loessref22_Pairs.f (k : Nat) (l0 : List (S27)) : Option ((List (S30))) := loessref22_Pairs.l0 k l0 ([] : List (S30)) 0
theorem loessref22_Pairs.mono_l : ∀ k, (∀ y0 y1 y2, LeO (loessref22_Pairs.l0 k y0 y1 y2) (loessref22_Pairs.l0 (k + 1) y0 y1 y2))
 | 0 => fun _ _ _ r h => by simp [loessref22_Pairs.l0] at h
 | k + 1 => by
   have ih0 := loessref22_Pairs.mono_l k
   · intro y0 y1 y2
     unfold loessref22_Pairs.l0
     repeat' first
     | (with_reducible exact ih0 _ _ _)
     | (with_reducible exact LeO.refl _)
     | (with_reducible exact LeO.none _)
     | (with_reducible refine LeO.ite ?_ ?_)
     | (with_reducible refine LeO.bind ?_ (fun _ => ?_))
     | exact ih0 _ _ _
     | exact LeO.none _
     | refine LeO.ite ?_ ?_
     | refine LeO.bind ?_ (fun _ => ?_)
theorem loessref22_Pairs.mono : ∀ a0 k, LeO (loessref22_Pairs.f k a0) (loessref22_Pairs.f (k + 1) a0) := by
 intro a0 k
 have ih0 := loessref22_Pairs.mono_l k
 unfold loessref22_Pairs.f
 repeat' first
     | (with_reducible exact ih0 _ _ _)
     | (with_reducible exact LeO.refl _)
     | (with_reducible exact LeO.none _)
     | (with_reducible refine LeO.ite ?_ ?_)
     | (with_reducible refine LeO.bind ?_ (fun _ => ?_))
     | exact ih0 _ _ _
     | exact LeO.none _
     | refine LeO.ite ?_ ?_
     | refine LeO.bind ?_ (fun _ => ?_)
def loessref22_Pairs.T6 : Bool × List (List Nat × List Nat) := (true, [([], []), ([], []), ([], []), ([1, 2], [1, 2]), ([3], [3]), ([4], [4]), ([], []), ([], []), ([6, 7], [6, 7]), ([8], [8]), ([9], [9]), ([5, 10], [5, 10]), ([11], [11]), ([0, 12], [0, 12]), ([13, 13, 0, 1, 2, 3, 4, 5, 6, 7, 8, 9, 10, 11, 12, 13], [0, 13])])
def loessref22_Pairs.B6 : List Nat := [0, 0, 0, 6, 14, 30, 0, 0, 192, 448, 960, 2046, 4094, 8191, 16383]
theorem loessref22_Pairs.tab6 : rtab .any (opsOf Try.f41 6) = loessref22_Pairs.T6 := by kernel_rfl
theorem loessref22_Pairs.bits6 : waitsOk loessref22_Pairs.T6.2 loessref22_Pairs.B6 = true := by kernel_rfl
set_option maxHeartbeats 8000000 in
set_option maxRecDepth 100000 in
theorem loessref22_Pairs.calls (k : Nat) (A0 : Option Addr) (c0 : Nat) (l0 : List (S27)) (r : List (S30)) (w : World) (hr0 : Kd.C k27 w A0 l0.length l0) (hc0 : l0.length ≤ c0) (h : loessref22_Pairs.f k l0 = some r) :
    Calls Try.prog 41 #[.slice A0 l0.length c0] w fun e w' => ∃ v0_ : Value, e = .returned (v0_) ∧ Kd.R k30 30 w' w.heap.size (fun _ => True) v0_ r ∧ Below w.heap.size w w' := by
 have hu25 := Try.underlying25
 have hu30 := Try.underlying30
 have HR0 := Aside0.mk hr0
 have HC0 := Aside0.mk hc0
 clear hr0 hc0
 have HB := Aside0.mk (Below.refl w.heap.size w)
 have H : (loessref22_Pairs.l0 k l0 ([] : List (S30)) 0) = some r := h
 clear h
 have H' := Aside0.mk H
 clear H
 go_enter Try.func41, Try.ntmps41
 go_wp2
 go_loopg [3, 4] k (fun kq v3 v4 w' => ∃ (x3_1 : List (S30)) (x4_1 : Int), v4 = .int .i64 x4_1 ∧ Aside0 (loessref22_Pairs.l0 kq l0 x3_1 x4_1 = some r) ∧ Aside0 (kq ≤ k) ∧ Aside0 (Kd.R k30 30 w' w.heap.size (fun _ => True) v3 x3_1) ∧ Aside0 (Below w.heap.size w w'))
 case atStart => exact ⟨(([] : List (S30))), (0), (by first | rfl | (simp; done) | (simp [*]; done)), H', ⟨Nat.le_refl _⟩, ⟨by first | exact Kd.R_nil _ _ _ _ _ | exact Kd.N_nil _ _ _ _ _ | exact Kd.V_nil _ _ _ _ _ | exact Kd.Q_nil _ _ _ _ _ | exact Kd.S_nil _ _ _ _ _⟩, ⟨by repeat (first | (with_reducible first | exact HB.out | apply below_alloc | apply pw_below_drewN | apply below_drew1) | exact HB.out)⟩⟩
 case round =>
  clear H'
  obtain ⟨x3_1, x4_1, rfl, HA, HK1, HO_3, HB⟩ := hrel
  cases gk with
  | zero => exact absurd HA.out (by simp [loessref22_Pairs.l0])
  | succ k1 =>
    have H := HA.out
    clear HA
    simp only [loessref22_Pairs.l0] at H
    by_cases c2 : x4_1 < (l0.length : Int)
    · rw [if_pos c2] at H
      have c2b0 : decide (x4_1 < (l0.length : Int)) = true := decide_eq_true c2
      clear c2
      by_cases c3 : 0 ≤ x4_1
      · rw [if_pos c3] at H
        have c3b0 : decide (0 ≤ x4_1) = true := decide_eq_true c3
        clear c3
        obtain ⟨bq4, hbq4⟩ : ∃ b_ : Bool, b_ = ((rd_T27 l0 x4_1).f1) := ⟨_, rfl⟩
        replace H : (if (bq4 = true) then (loessref22_Pairs.l0 k1 l0 x3_1 (wrap64 (x4_1 + 1))) else (if x3_1.length < 2932031007402 then (loessref22_Pairs.l0 k1 l0 (x3_1 ++ [(⟨(rd_T27 l0 x4_1).f0, (⟨(rd_T27 l0 x4_1).f2.f0, (rd_T27 l0 x4_1).f2.f1, (rd_T27 l0 x4_1).f2.f2⟩ : S25)⟩ : S30)]) (wrap64 (x4_1 + 1))) else (none))) = some r := by rw [← hbq4] at H; exact H
        have Nbq4 := Aside0.mk hbq4
        clear hbq4
        by_cases c5 : (bq4 = true)
        · subst c5
          have H1 : (loessref22_Pairs.l0 k1 l0 x3_1 (wrap64 (x4_1 + 1))) = some r := by rw [if_pos rfl] at H; exact H
          clear H
          have H := H1
          clear H1
          have H' := Aside0.mk H
          clear H
          have p153 : 0 ≤ (x4_1 : Int) := of_decide_eq_true (by first | (with_reducible assumption) | assumption)
          have q153 : x4_1 < (l0.length : Int) := of_decide_eq_true (by first | (with_reducible assumption) | assumption)
          obtain ⟨ad153, e153, hx153_0, hx153_1, hx153_2, hx153_3, hx153_4⟩ := at_T27 HR0.out x4_1 p153 q153
          (try rw [← Nbq4.out] at hx153_1)
          cases e153
          replace hx153_0 := (HB.out.cell (World.block_lt_of_cell? w _ hx153_0)).trans hx153_0
          replace hx153_1 := (HB.out.cell (World.block_lt_of_cell? w _ hx153_1)).trans hx153_1
          replace hx153_2 := (HB.out.cell (World.block_lt_of_cell? w _ hx153_2)).trans hx153_2
          replace hx153_3 := (HB.out.cell (World.block_lt_of_cell? w _ hx153_3)).trans hx153_3
          replace hx153_4 := (HB.out.cell (World.block_lt_of_cell? w _ hx153_4)).trans hx153_4
          replace p153 := eq_true p153
          replace q153 := eq_true q153
          go_wp2
          go_roundg k1
          case measure => have := HK1.out; omega
          case rel => exact ⟨(x3_1), (wrap64 (x4_1 + 1)), (by first | rfl | (simp; done) | (simp [*]; done)), H', ⟨by have := HK1.out; omega⟩, ⟨by (with_reducible repeat (first | apply Kd.R_alloc | apply Kd.R_drewN | apply Kd.R_drew)); exact HO_3.out⟩, ⟨by repeat (first | (with_reducible first | exact HB.out | apply below_alloc | apply pw_below_drewN | apply below_drew1) | exact HB.out)⟩⟩
        · replace c5 := Bool.eq_false_iff.mpr c5
          subst c5
          have H1 : (if x3_1.length < 2932031007402 then (loessref22_Pairs.l0 k1 l0 (x3_1 ++ [(⟨(rd_T27 l0 x4_1).f0, (⟨(rd_T27 l0 x4_1).f2.f0, (rd_T27 l0 x4_1).f2.f1, (rd_T27 l0 x4_1).f2.f2⟩ : S25)⟩ : S30)]) (wrap64 (x4_1 + 1))) else (none)) = some r := by rw [if_neg (show ¬ (false = true) by decide)] at H; exact H
          clear H
          have H := H1
          clear H1
          by_cases c6 : x3_1.length < 2932031007402
          · rw [if_pos c6] at H
            have LMc6 := Aside0.mk c6
            clear c6
            obtain ⟨y156, hy156⟩ : ∃ y_ : List (S30), y_ = (x3_1 ++ [(⟨(rd_T27 l0 x4_1).f0, (⟨(rd_T27 l0 x4_1).f2.f0, (rd_T27 l0 x4_1).f2.f1, (rd_T27 l0 x4_1).f2.f2⟩ : S25)⟩ : S30)]) := ⟨_, rfl⟩
            replace H : (loessref22_Pairs.l0 k1 l0 y156 (wrap64 (x4_1 + 1))) = some r := by first | (rw [hy156]; with_reducible exact H) | (have H2_ := (Option.bind_some _ _).symm.trans H; rw [hy156]; with_reducible exact H2_) | (have H2_ := (Option.bind_some _ _).symm.trans H; with_reducible exact H2_) | with_reducible exact H | (rw [hy156]; exact H) | exact H
            have Ny156 := Aside0.mk hy156
            clear hy156
            have H' := Aside0.mk H
            clear H
            have p153 : 0 ≤ (x4_1 : Int) := of_decide_eq_true (by first | (with_reducible assumption) | assumption)
            have q153 : x4_1 < (l0.length : Int) := of_decide_eq_true (by first | (with_reducible assumption) | assumption)
            obtain ⟨ad153, e153, hx153_0, hx153_1, hx153_2, hx153_3, hx153_4⟩ := at_T27 HR0.out x4_1 p153 q153
            (try rw [← Nbq4.out] at hx153_1)
            cases e153
            replace hx153_0 := (HB.out.cell (World.block_lt_of_cell? w _ hx153_0)).trans hx153_0
            replace hx153_1 := (HB.out.cell (World.block_lt_of_cell? w _ hx153_1)).trans hx153_1
            replace hx153_2 := (HB.out.cell (World.block_lt_of_cell? w _ hx153_2)).trans hx153_2
            replace hx153_3 := (HB.out.cell (World.block_lt_of_cell? w _ hx153_3)).trans hx153_3
            replace hx153_4 := (HB.out.cell (World.block_lt_of_cell? w _ hx153_4)).trans hx153_4
            replace p153 := eq_true p153
            replace q153 := eq_true q153
            try go_wp2
            have n0_ := Aside0.mk (Kd.R_drew HO_3.out)
            have n1_ := Aside0.mk (below_drew1 HB.out)
            clear HO_3
            clear HB
            have HO_3 := n0_
            have HB := n1_
            clear n0_ n1_
            have p154 : 0 ≤ (x4_1 : Int) := of_decide_eq_true (by first | (with_reducible assumption) | assumption)
            have q154 : x4_1 < (l0.length : Int) := of_decide_eq_true (by first | (with_reducible assumption) | assumption)
            obtain ⟨ad154, e154, hx154_0, hx154_1, hx154_2, hx154_3, hx154_4⟩ := at_T27 HR0.out x4_1 p154 q154
            have hw154_4 := hx154_4
            have hw154_3 := hx154_3
            have hw154_2 := hx154_2
            have hw154_1 := hx154_1
            have hw154_0 := hx154_0
            (try rw [← Nbq4.out] at hx154_1)
            obtain rfl : ad153 = ad154 := (by injection e154)
            replace hx154_0 := (HB.out.cell (World.block_lt_of_cell? w _ hx154_0)).trans hx154_0
            replace hx154_1 := (HB.out.cell (World.block_lt_of_cell? w _ hx154_1)).trans hx154_1
            replace hx154_2 := (HB.out.cell (World.block_lt_of_cell? w _ hx154_2)).trans hx154_2
            replace hx154_3 := (HB.out.cell (World.block_lt_of_cell? w _ hx154_3)).trans hx154_3
            replace hx154_4 := (HB.out.cell (World.block_lt_of_cell? w _ hx154_4)).trans hx154_4
            replace p154 := eq_true p154
            replace q154 := eq_true q154
            have p155 : 0 ≤ (x4_1 : Int) := of_decide_eq_true (by first | (with_reducible assumption) | assumption)
            have q155 : x4_1 < (l0.length : Int) := of_decide_eq_true (by first | (with_reducible assumption) | assumption)
            obtain ⟨ad155, e155, hx155_0, hx155_1, hx155_2, hx155_3, hx155_4⟩ := at_T27 HR0.out x4_1 p155 q155
            have hw155_4 := hx155_4
            have hw155_3 := hx155_3
            have hw155_2 := hx155_2
            have hw155_1 := hx155_1
            have hw155_0 := hx155_0
            (try rw [← Nbq4.out] at hx155_1)
            obtain rfl : ad153 = ad155 := (by injection e155)
            replace hx155_0 := (HB.out.cell (World.block_lt_of_cell? w _ hx155_0)).trans hx155_0
            replace hx155_1 := (HB.out.cell (World.block_lt_of_cell? w _ hx155_1)).trans hx155_1
            replace hx155_2 := (HB.out.cell (World.block_lt_of_cell? w _ hx155_2)).trans hx155_2
            replace hx155_3 := (HB.out.cell (World.block_lt_of_cell? w _ hx155_3)).trans hx155_3
            replace hx155_4 := (HB.out.cell (World.block_lt_of_cell? w _ hx155_4)).trans hx155_4
            replace p155 := eq_true p155
            replace q155 := eq_true q155
            refine start_ (n := 15) (S := fun w' => w'.cell? (ad153.add ((x4_1).toNat * 5)) = some (.string ((rd_T27 l0 x4_1).f0)) ∧ w'.cell? ⟨(ad153.add ((x4_1).toNat * 5)).block, (ad153.add ((x4_1).toNat * 5)).off + 1, none⟩ = some (.bool ((rd_T27 l0 x4_1).f1)) ∧ w'.cell? ⟨(ad153.add ((x4_1).toNat * 5)).block, (ad153.add ((x4_1).toNat * 5)).off + 2, none⟩ = some (.int .i64 ((rd_T27 l0 x4_1).f2.f0)) ∧ w'.cell? ⟨(ad153.add ((x4_1).toNat * 5)).block, (ad153.add ((x4_1).toNat * 5)).off + 3, none⟩ = some (.int .i64 ((rd_T27 l0 x4_1).f2.f1)) ∧ w'.cell? ⟨(ad153.add ((x4_1).toNat * 5)).block, (ad153.add ((x4_1).toNat * 5)).off + 4, none⟩ = some (.string ((rd_T27 l0 x4_1).f2.f2)) ∧ w'.cell? (ad153.add ((x4_1).toNat * 5)) = some (.string ((rd_T27 l0 x4_1).f0)) ∧ w'.cell? ⟨(ad153.add ((x4_1).toNat * 5)).block, (ad153.add ((x4_1).toNat * 5)).off + 1, none⟩ = some (.bool ((rd_T27 l0 x4_1).f1)) ∧ w'.cell? ⟨(ad153.add ((x4_1).toNat * 5)).block, (ad153.add ((x4_1).toNat * 5)).off + 2, none⟩ = some (.int .i64 ((rd_T27 l0 x4_1).f2.f0)) ∧ w'.cell? ⟨(ad153.add ((x4_1).toNat * 5)).block, (ad153.add ((x4_1).toNat * 5)).off + 3, none⟩ = some (.int .i64 ((rd_T27 l0 x4_1).f2.f1)) ∧ w'.cell? ⟨(ad153.add ((x4_1).toNat * 5)).block, (ad153.add ((x4_1).toNat * 5)).off + 4, none⟩ = some (.string ((rd_T27 l0 x4_1).f2.f2))) (ds := []) #[false, false, false, false, false, false, false, false, false, false, false, false, false, false, false] (by kernel_rfl) rfl rfl ⟨((HB.out.cell (World.block_lt_of_cell? w _ hw154_0)).trans hw154_0), ((HB.out.cell (World.block_lt_of_cell? w _ hw154_1)).trans hw154_1), ((HB.out.cell (World.block_lt_of_cell? w _ hw154_2)).trans hw154_2), ((HB.out.cell (World.block_lt_of_cell? w _ hw154_3)).trans hw154_3), ((HB.out.cell (World.block_lt_of_cell? w _ hw154_4)).trans hw154_4), ((HB.out.cell (World.block_lt_of_cell? w _ hw155_0)).trans hw155_0), ((HB.out.cell (World.block_lt_of_cell? w _ hw155_1)).trans hw155_1), ((HB.out.cell (World.block_lt_of_cell? w _ hw155_2)).trans hw155_2), ((HB.out.cell (World.block_lt_of_cell? w _ hw155_3)).trans hw155_3), ((HB.out.cell (World.block_lt_of_cell? w _ hw155_4)).trans hw155_4)⟩ (fun hHeld => ?_); refine with_tabW loessref22_Pairs.tab6 loessref22_Pairs.bits6 (fun HT_ HW_ => ?_)
            generalize wr.drew = w7 at HO_3 HB hx154_0 hx154_1 hx154_2 hx154_3 hx154_4 hx155_0 hx155_1 hx155_2 hx155_3 hx155_4 hHeld ⊢
            refine pure_ (i := 0) (N := some 17) (v := ?_) (a' := ?_) #[true, false, false, false, false, false, false, false, false, false, false, false, false, false, false] rfl rfl (any_of HT_.out (by kernel_rfl)) (fun _ _ _ h => h) (Or.inl ⟨by rfl, ?_⟩) ?_ ?_
            rotate_left
            · intro w'
              go_simp
              with_reducible rfl
            rotate_left
            · simp only [Act.put, List.setIfInBounds_toArray, List.set_cons_zero, List.set_cons_succ, i64_w, i32_w]
              rfl
            refine pure_ (i := 1) (N := some 18) (v := ?_) (a' := ?_) #[true, true, false, false, false, false, false, false, false, false, false, false, false, false, false] rfl rfl (any_of HT_.out (by kernel_rfl)) (fun _ _ _ h => h) (Or.inl ⟨by rfl, ?_⟩) ?_ ?_
            rotate_left
            · intro w'
              go_simp
              with_reducible rfl
            rotate_left
            · simp only [Act.put, List.setIfInBounds_toArray, List.set_cons_zero, List.set_cons_succ, i64_w, i32_w]
              rfl
            refine pure_ (i := 2) (N := some 19) (v := ?_) (a' := ?_) #[true, true, true, false, false, false, false, false, false, false, false, false, false, false, false] rfl rfl (any_of HT_.out (by kernel_rfl)) (fun _ _ _ h => h) (Or.inl ⟨by rfl, ?_⟩) ?_ ?_
            rotate_left
            · intro w'
              go_simp
              with_reducible rfl
            rotate_left
            · simp only [Act.put, List.setIfInBounds_toArray, List.set_cons_zero, List.set_cons_succ, i64_w, i32_w]
              rfl
            refine pure_ (i := 3) (N := some 20) (v := ?_) (a' := ?_) #[true, true, true, true, false, false, false, false, false, false, false, false, false, false, false] rfl rfl (any_of HT_.out (by kernel_rfl)) (fun _ _ _ h => h) (Or.inl ⟨by rfl, ?_⟩) ?_ ?_
            rotate_left
            · intro w'
              go_simp
              with_reducible rfl
            rotate_left
            · simp only [Act.put, List.setIfInBounds_toArray, List.set_cons_zero, List.set_cons_succ, i64_w, i32_w]
              rfl
            refine pure_ (i := 4) (N := some 21) (v := ?_) (a' := ?_) #[true, true, true, true, true, false, false, false, false, false, false, false, false, false, false] rfl rfl (any_of HT_.out (by kernel_rfl)) (fun _ _ _ h => h) (Or.inl ⟨by rfl, ?_⟩) ?_ ?_
            rotate_left
            · intro w'
              go_simp
              with_reducible rfl
            rotate_left
            · simp only [Act.put, List.setIfInBounds_toArray, List.set_cons_zero, List.set_cons_succ, i64_w, i32_w]
              rfl
            refine pure_ (i := 6) (N := some 23) (v := ?_) (a' := ?_) #[true, true, true, true, true, false, true, false, false, false, false, false, false, false, false] rfl rfl (any_of HT_.out (by kernel_rfl)) (fun _ _ _ h => h) (Or.inl ⟨by rfl, ?_⟩) ?_ ?_
            rotate_left
            · intro w'
              go_simp
              with_reducible rfl
            rotate_left
            · simp only [Act.put, List.setIfInBounds_toArray, List.set_cons_zero, List.set_cons_succ, i64_w, i32_w]
              rfl
            refine pure_ (i := 7) (N := some 24) (v := ?_) (a' := ?_) #[true, true, true, true, true, false, true, true, false, false, false, false, false, false, false] rfl rfl (any_of HT_.out (by kernel_rfl)) (fun _ _ _ h => h) (Or.inl ⟨by rfl, ?_⟩) ?_ ?_
            rotate_left
            · intro w'
              go_simp
              with_reducible rfl
            rotate_left
            · simp only [Act.put, List.setIfInBounds_toArray, List.set_cons_zero, List.set_cons_succ, i64_w, i32_w]
              rfl
            refine pure_ (i := 8) (N := some 25) (v := ?_) (a' := ?_) #[true, true, true, true, true, false, true, true, true, false, false, false, false, false, false] rfl rfl (any_of HT_.out (by kernel_rfl)) (fun _ _ _ h => h) (Or.inl ⟨by rfl, ?_⟩) ?_ ?_
            rotate_left
            · intro w'
              go_simp
              with_reducible rfl
            rotate_left
            · simp only [Act.put, List.setIfInBounds_toArray, List.set_cons_zero, List.set_cons_succ, i64_w, i32_w]
              rfl
            refine pure_ (i := 9) (N := some 26) (v := ?_) (a' := ?_) #[true, true, true, true, true, false, true, true, true, true, false, false, false, false, false] rfl rfl (any_of HT_.out (by kernel_rfl)) (fun _ _ _ h => h) (Or.inl ⟨by rfl, ?_⟩) ?_ ?_
            rotate_left
            · intro w'
              go_simp
              with_reducible rfl
            rotate_left
            · simp only [Act.put, List.setIfInBounds_toArray, List.set_cons_zero, List.set_cons_succ, i64_w, i32_w]
              rfl
            refine take_ (i := 5) (N := some 22) (v := ?_) (a' := ?_) #[true, true, true, true, true, true, true, true, true, true, false, false, false, false, false] rfl rfl (take_ofW HT_.out HW_.out (by kernel_rfl)) (fun _ _ _ h => h) (Or.inl ⟨by rfl, ?_⟩) hHeld ?_ ?_
            rotate_left
            · rintro w' ⟨s0, s1, s2, s3, s4, s5, s6, s7, s8, s9⟩
              go_simp
              with_reducible rfl
            rotate_left
            · simp only [Act.put, List.setIfInBounds_toArray, List.set_cons_zero, List.set_cons_succ, i64_w, i32_w]
              rfl
            refine take_ (i := 10) (N := some 27) (v := ?_) (a' := ?_) #[true, true, true, true, true, true, true, true, true, true, true, false, false, false, false] rfl rfl (take_ofW HT_.out HW_.out (by kernel_rfl)) (fun _ _ _ h => h) (Or.inl ⟨by rfl, ?_⟩) hHeld ?_ ?_
            rotate_left
            · rintro w' ⟨s0, s1, s2, s3, s4, s5, s6, s7, s8, s9⟩
              go_simp
              with_reducible rfl
            rotate_left
            · simp only [Act.put, List.setIfInBounds_toArray, List.set_cons_zero, List.set_cons_succ, i64_w, i32_w]
              rfl
            refine pure_ (i := 11) (N := some 28) (v := ?_) (a' := ?_) #[true, true, true, true, true, true, true, true, true, true, true, true, false, false, false] rfl rfl (any_of HT_.out (by kernel_rfl)) (fun _ _ _ h => h) (Or.inl ⟨by rfl, ?_⟩) ?_ ?_
            rotate_left
            · intro w'
              go_simp
              with_reducible rfl
            rotate_left
            · simp only [Act.put, List.setIfInBounds_toArray, List.set_cons_zero, List.set_cons_succ, i64_w, i32_w]
              rfl
            refine one_ (i := 12) (N := some 29) #[true, true, true, true, true, true, true, true, true, true, true, true, true, false, false] rfl rfl (one_of HT_.out (by kernel_rfl)) (by decide) (fun K hK => ?_)
            refine value_ (w1 := ?_) (v := ?_) (by rfl) rfl ?_ ?_
            rotate_left 2
            · go_simp
              constructor
              · rfl
              · rfl
            refine hK.out _ _ ⟨(World.cell?_alloc_lt _ _ _ (World.block_lt_of_cell? _ _ (((HB.out.cell (World.block_lt_of_cell? w _ hw154_0)).trans hw154_0)))).trans (((HB.out.cell (World.block_lt_of_cell? w _ hw154_0)).trans hw154_0)), (World.cell?_alloc_lt _ _ _ (World.block_lt_of_cell? _ _ (((HB.out.cell (World.block_lt_of_cell? w _ hw154_1)).trans hw154_1)))).trans (((HB.out.cell (World.block_lt_of_cell? w _ hw154_1)).trans hw154_1)), (World.cell?_alloc_lt _ _ _ (World.block_lt_of_cell? _ _ (((HB.out.cell (World.block_lt_of_cell? w _ hw154_2)).trans hw154_2)))).trans (((HB.out.cell (World.block_lt_of_cell? w _ hw154_2)).trans hw154_2)), (World.cell?_alloc_lt _ _ _ (World.block_lt_of_cell? _ _ (((HB.out.cell (World.block_lt_of_cell? w _ hw154_3)).trans hw154_3)))).trans (((HB.out.cell (World.block_lt_of_cell? w _ hw154_3)).trans hw154_3)), (World.cell?_alloc_lt _ _ _ (World.block_lt_of_cell? _ _ (((HB.out.cell (World.block_lt_of_cell? w _ hw154_4)).trans hw154_4)))).trans (((HB.out.cell (World.block_lt_of_cell? w _ hw154_4)).trans hw154_4)), (World.cell?_alloc_lt _ _ _ (World.block_lt_of_cell? _ _ (((HB.out.cell (World.block_lt_of_cell? w _ hw155_0)).trans hw155_0)))).trans (((HB.out.cell (World.block_lt_of_cell? w _ hw155_0)).trans hw155_0)), (World.cell?_alloc_lt _ _ _ (World.block_lt_of_cell? _ _ (((HB.out.cell (World.block_lt_of_cell? w _ hw155_1)).trans hw155_1)))).trans (((HB.out.cell (World.block_lt_of_cell? w _ hw155_1)).trans hw155_1)), (World.cell?_alloc_lt _ _ _ (World.block_lt_of_cell? _ _ (((HB.out.cell (World.block_lt_of_cell? w _ hw155_2)).trans hw155_2)))).trans (((HB.out.cell (World.block_lt_of_cell? w _ hw155_2)).trans hw155_2)), (World.cell?_alloc_lt _ _ _ (World.block_lt_of_cell? _ _ (((HB.out.cell (World.block_lt_of_cell? w _ hw155_3)).trans hw155_3)))).trans (((HB.out.cell (World.block_lt_of_cell? w _ hw155_3)).trans hw155_3)), (World.cell?_alloc_lt _ _ _ (World.block_lt_of_cell? _ _ (((HB.out.cell (World.block_lt_of_cell? w _ hw155_4)).trans hw155_4)))).trans (((HB.out.cell (World.block_lt_of_cell? w _ hw155_4)).trans hw155_4))⟩ (fun hHeld => ?_)
            clear hK K
            refine norm_ (a' := ?_) ?_ ?_
            rotate_left
            · show Act.put _ (some 29) _ = _
              simp only [Act.put, List.setIfInBounds_toArray, List.set_cons_zero, List.set_cons_succ, i64_w, i32_w]
              rfl
            refine one_ (i := 13) (N := some 30) #[true, true, true, true, true, true, true, true, true, true, true, true, true, true, false] rfl rfl (one_of HT_.out (by kernel_rfl)) (by decide) (fun K hK => ?_)
            refine Kd.R_append_step k30 (w0 := w) w.heap.size (by rfl) (.tmp 17) (.tmp 29) 22 30 (.agg #[(.string ⟨#[]⟩), (.int .i64 0), (.int .i64 0), (.string ⟨#[]⟩)]) 48 rfl Try.underlying22 info30 rfl (by decide) (by omega) u3 x3_1 (⟨(rd_T27 l0 x4_1).f0, (⟨(rd_T27 l0 x4_1).f2.f0, (rd_T27 l0 x4_1).f2.f1, (rd_T27 l0 x4_1).f2.f2⟩ : S25)⟩ : S30) [.string ((rd_T27 l0 x4_1).f0), .int .i64 ((rd_T27 l0 x4_1).f2.f0), .int .i64 ((rd_T27 l0 x4_1).f2.f1), .string ((rd_T27 l0 x4_1).f2.f2)] (fun _ => True) (fun _ => False) rfl rfl ?aP (fun _ hk => hk.elim) ?aF ?aO ?aB ?aS ?aL ?_
            (case aP => exact k30_mkM _ _ _ (⟨(rd_T27 l0 x4_1).f0, (⟨(rd_T27 l0 x4_1).f2.f0, (rd_T27 l0 x4_1).f2.f1, (rd_T27 l0 x4_1).f2.f2⟩ : S25)⟩ : S30))
            (case aB => exact (by repeat (first | (with_reducible first | exact HB.out | apply below_alloc | apply pw_below_drewN | apply below_drew1) | exact HB.out)))
            (case aF => exact (fun _ _ => trivial))
            (case aO => exact (by (with_reducible repeat (first | apply Kd.R_alloc | apply Kd.R_drewN | apply Kd.R_drew)); exact HO_3.out))
            (case aS => exact (below_size (by repeat (first | (with_reducible first | exact HB.out | apply below_alloc | apply pw_below_drewN | apply below_drew1) | exact HB.out))))
            (case aL => have := LMc6.out; omega)
            intro v157 w8 ho hb hg hat
            rw [← Ny156.out] at ho
            have n0_ := Aside0.mk (hb)
            have n1_ := Aside0.mk (ho)
            clear HB
            clear HO_3
            have HB := n0_
            have HO158 := n1_
            clear n0_ n1_
            clear ho hb hg hat
            refine hK.out _ _ ⟨((HB.out.cell (World.block_lt_of_cell? w _ hw154_0)).trans hw154_0), ((HB.out.cell (World.block_lt_of_cell? w _ hw154_1)).trans hw154_1), ((HB.out.cell (World.block_lt_of_cell? w _ hw154_2)).trans hw154_2), ((HB.out.cell (World.block_lt_of_cell? w _ hw154_3)).trans hw154_3), ((HB.out.cell (World.block_lt_of_cell? w _ hw154_4)).trans hw154_4), ((HB.out.cell (World.block_lt_of_cell? w _ hw155_0)).trans hw155_0), ((HB.out.cell (World.block_lt_of_cell? w _ hw155_1)).trans hw155_1), ((HB.out.cell (World.block_lt_of_cell? w _ hw155_2)).trans hw155_2), ((HB.out.cell (World.block_lt_of_cell? w _ hw155_3)).trans hw155_3), ((HB.out.cell (World.block_lt_of_cell? w _ hw155_4)).trans hw155_4)⟩ (fun hHeld => ?_)
            clear hK K
            refine norm_ (a' := ?_) ?_ ?_
            rotate_left
            · show Act.put _ (some 30) _ = _
              simp only [Act.put, List.setIfInBounds_toArray, List.set_cons_zero, List.set_cons_succ, i64_w, i32_w]
              rfl
            refine pure_ (i := 14) (N := some 3) (v := ?_) (a' := ?_) #[true, true, true, true, true, true, true, true, true, true, true, true, true, true, true] rfl rfl (any_of HT_.out (by kernel_rfl)) (fun _ _ _ h => h) (Or.inl ⟨by rfl, ?_⟩) ?_ ?_
            rotate_left
            · intro w'
              go_simp
              with_reducible rfl
            rotate_left
            · simp only [Act.put, List.setIfInBounds_toArray, List.set_cons_zero, List.set_cons_succ, i64_w, i32_w]
              rfl
            refine done_ (done_of HT_.out (by kernel_rfl)) ?_
            try go_wp2
            go_roundg k1
            case measure => have := HK1.out; omega
            case rel => exact ⟨(y156), (wrap64 (x4_1 + 1)), (by first | rfl | (simp; done) | (simp [*]; done)), H', ⟨by have := HK1.out; omega⟩, ⟨by (with_reducible repeat (first | apply Kd.R_alloc | apply Kd.R_drewN | apply Kd.R_drew)); exact HO158.out⟩, ⟨by repeat (first | (with_reducible first | exact HB.out | apply below_alloc | apply pw_below_drewN | apply below_drew1) | exact HB.out)⟩⟩
          · rw [if_neg c6] at H
            exact absurd H (by simp)
      · rw [if_neg c3] at H
        exact absurd H (by simp)
    · rw [if_neg c2] at H
      have c2b0 : decide (x4_1 < (l0.length : Int)) = false := decide_eq_false c2
      clear c2
      obtain rfl := Option.some.inj H
      go_wp2
      go_ret
      exact ⟨_, by first | rfl | (simp [errW_none, errW_some] <;> rfl) | (simp [*, errW_none, errW_some] <;> rfl), by (with_reducible repeat (first | apply Kd.R_alloc | apply Kd.R_drewN | apply Kd.R_drew)); exact HO_3.out, by repeat (first | (with_reducible first | exact HB.out | apply below_alloc | apply pw_below_drewN | apply below_drew1) | exact HB.out)⟩
end Go.Proofs.Ytkhcmddeeodbkaa.XSor
namespace Go.Proofs.Ytkhcmddeeodbkaa.Q
open Go.RowKit Go.Proofs.YtkhcmddeeodbkaaW.PrintWords Go.Proofs.YtkhcmddeeodbkaaW.PrintMore Go.Proofs.Ytkhcmddeeodbkaa.G Go.Proofs.Ytkhcmddeeodbkaa.XSor
abbrev rr (l : List Rc) (i : Nat) : Rc := rd_T27 l (i : Int)
theorem rr_get {l : List Rc} {i : Nat} (h : i < l.length) : rr l i = l[i] := by simp [rd_T27, h]
theorem rr_mem {l : List Rc} {i : Nat} (h : i < l.length) : rr l i ∈ l := by rw [rr_get h]; exact List.getElem_mem h
theorem rr_drop {l : List Rc} {i : Nat} (h : i < l.length) : l.drop i = rr l i :: l.drop (i + 1) := by rw [List.drop_eq_getElem_cons h, rr_get h]
def hasK (L : List Rc) (k : ByteArray) : Bool := L.any (fun r => decide (r.f0 = k))
theorem find_l (L : List Rc) (key : ByteArray) (hl : L.length ≤ 1000000) : ∀ (d i : Nat), i + d = L.length → ∃ k r1 r2 r3 r4 r5, loessref10_Find.l0 k L key (i : Int) = some (r1, r2, r3, r4, r5, hasK (L.drop i) key) := by
 intro d
 induction d with
 | zero =>
   intro i hi
   refine ⟨1, ⟨#[]⟩, false, 0, 0, ⟨#[]⟩, ?_⟩
   unfold loessref10_Find.l0
   rw [if_neg (by omega), List.drop_of_length_le (by omega)]
   rfl
 | succ d ih =>
   intro i hi
   have hlt : i < L.length := by omega
   rw [rr_drop hlt]
   by_cases c : (rr L i).f0 = key
   · refine ⟨1, (rr L i).f0, (rr L i).f1, (rr L i).f2.f0, (rr L i).f2.f1, (rr L i).f2.f2, ?_⟩
     unfold loessref10_Find.l0
     rw [if_pos (by omega), if_pos (by omega), if_pos (by rw [c])]
     simp [hasK, c]
   · obtain ⟨k, r1, r2, r3, r4, r5, h⟩ := ih (i + 1) (by omega)
     refine ⟨k + 1, r1, r2, r3, r4, r5, ?_⟩
     unfold loessref10_Find.l0
     rw [if_pos (by omega), if_pos (by omega), if_neg (fun e => c (toList_inj e)), w64 (by omega) (by omega)]
     have e : hasK (rr L i :: L.drop (i + 1)) key = hasK (L.drop (i + 1)) key := by simp [hasK, c]
     rw [e]
     exact h
theorem find_any (L : List Rc) (key : ByteArray) (hl : L.length ≤ 1000000) : ∃ k r1 r2 r3 r4 r5, loessref10_Find.f k L key = some (r1, r2, r3, r4, r5, hasK L key) := by
 have := find_l L key hl L.length 0 (by omega)
 rw [List.drop_zero] at this
 exact this
def addK (out : List Rc) (x : Rc) : List Rc := if hasK out x.f0 = true then out else out ++ [x]
def dedK (L : List Rc) : List Rc := L.foldl addK []
theorem dedK_snoc (L : List Rc) (x : Rc) : dedK (L ++ [x]) = addK (dedK L) x := by unfold dedK; rw [List.foldl_append]; rfl
def posK (acc : List Rc) (x : Rc) : Nat → Nat
 | 0 => 0
 | n + 1 => if ltK x.f0 (rr acc n).f0 = true then posK acc x n else n + 1
theorem posK_le (acc : List Rc) (x : Rc) : ∀ n, posK acc x n ≤ n := by
 intro n
 induction n with
 | zero => exact Nat.le_refl _
 | succ n ih => unfold posK; split <;> omega
def insK (acc : List Rc) (x : Rc) : List Rc := acc.take (posK acc x acc.length) ++ x :: acc.drop (posK acc x acc.length)
theorem insK_len (acc : List Rc) (x : Rc) : (insK acc x).length = acc.length + 1 := by
 have := posK_le acc x acc.length
 unfold insK
 rw [List.length_append, List.length_take, List.length_cons, List.length_drop]
 omega
def ordK (L : List Rc) : List Rc := (dedK L).foldl insK []
def ordN (D : List Rc) (i : Nat) : List Rc := (D.take i).foldl insK []
theorem ordN_step {D : List Rc} {i : Nat} (h : i < D.length) : ordN D (i + 1) = insK (ordN D i) (rr D i) := by
 unfold ordN
 rw [List.take_succ_eq_append_getElem h, List.foldl_append, rr_get h]
 rfl
theorem ordN_len (D : List Rc) : ∀ i, i ≤ D.length → (ordN D i).length = i := by
 intro i
 induction i with
 | zero => intro _; rfl
 | succ i ih => intro h; rw [ordN_step (by omega), insK_len, ih (by omega)]
theorem dedK_step {L : List Rc} {i : Nat} (h : i < L.length) : dedK (L.take (i + 1)) = addK (dedK (L.take i)) (rr L i) := by
 rw [List.take_succ_eq_append_getElem h, dedK_snoc, rr_get h]
theorem addK_len (L : List Rc) (x : Rc) : (addK L x).length ≤ L.length + 1 := by unfold addK; split <;> simp
theorem dedK_len (L : List Rc) : (dedK L).length ≤ L.length := by
 refine rev_ind (P := fun L => (dedK L).length ≤ L.length) (Nat.le_refl _) (fun L x ih => ?_) L
 rw [dedK_snoc, List.length_append, List.length_singleton]
 have := addK_len (dedK L) x
 omega
theorem dedK_mem (L : List Rc) : ∀ x ∈ dedK L, x ∈ L := by
 refine rev_ind (P := fun L => ∀ x ∈ dedK L, x ∈ L) (by simp [dedK]) (fun L x ih y hy => ?_) L
 rw [dedK_snoc] at hy
 unfold addK at hy
 split at hy
 · exact List.mem_append_left _ (ih y hy)
 · rcases List.mem_append.1 hy with hy | hy
   · exact List.mem_append_left _ (ih y hy)
   · exact List.mem_append_right _ hy
theorem hasK_iff (L : List Rc) (k : ByteArray) : hasK L k = true ↔ ∃ r ∈ L, r.f0 = k := by
 unfold hasK
 rw [List.any_eq_true]
 exact ⟨fun ⟨r, h, e⟩ => ⟨r, h, of_decide_eq_true e⟩, fun ⟨r, h, e⟩ => ⟨r, h, decide_eq_true e⟩⟩
theorem dedK_one (L : List Rc) : (dedK L).Pairwise (fun a b => a.f0 ≠ b.f0) := by
 refine rev_ind (P := fun L => (dedK L).Pairwise (fun a b => a.f0 ≠ b.f0)) List.Pairwise.nil (fun L x ih => ?_) L
 rw [dedK_snoc]
 unfold addK
 split
 · exact ih
 · rename_i h
   refine List.pairwise_append.2 ⟨ih, List.pairwise_singleton _ _, fun a ha b hb e => ?_⟩
   rw [List.mem_singleton.1 hb] at e
   exact h ((hasK_iff _ _).2 ⟨a, ha, e⟩)
def RiseK (L : List Rc) : Prop := L.Pairwise (fun a b => ltK a.f0 b.f0 = true)
theorem posK_spec {acc : List Rc} {x : Rc} (hr : RiseK acc) (hx : ∀ r ∈ acc, r.f0 ≠ x.f0) : ∀ n, n ≤ acc.length → (∀ j (hj : j < acc.length), n ≤ j → ltK x.f0 acc[j].f0 = true) → (∀ j (hj : j < acc.length), posK acc x n ≤ j → ltK x.f0 acc[j].f0 = true) ∧ (∀ j (hj : j < acc.length), j < posK acc x n → ltK acc[j].f0 x.f0 = true) := by
 have hp := List.pairwise_iff_getElem.1 hr
 intro n
 induction n with
 | zero => intro _ h; exact ⟨fun j hj h0 => h j hj (Nat.zero_le _), fun j hj h0 => absurd h0 (Nat.not_lt_zero _)⟩
 | succ n ih =>
   intro hn h
   unfold posK
   rw [rr_get (show n < acc.length by omega)]
   by_cases c : ltK x.f0 acc[n].f0 = true
   · rw [if_pos c]
     refine ih (by omega) (fun j hj hnj => ?_)
     rcases Nat.lt_or_eq_of_le hnj with h1 | h1
     · exact h j hj (by omega)
     · subst h1; exact c
   · rw [if_neg c]
     have hlt : ltK acc[n].f0 x.f0 = true := by
      cases h2 : ltK acc[n].f0 x.f0 with
      | true => rfl
      | false => exact absurd (ltK_tri h2 (Bool.eq_false_iff.2 c)) (hx _ (List.getElem_mem _))
     refine ⟨fun j hj h1 => h j hj h1, fun j hj h1 => ?_⟩
     rcases Nat.lt_or_eq_of_le (Nat.le_of_lt_succ h1) with h2 | h2
     · exact ltK_trans (hp j n hj (by omega) h2) hlt
     · subst h2; exact hlt
theorem insK_rise {acc : List Rc} {x : Rc} (hr : RiseK acc) (hx : ∀ r ∈ acc, r.f0 ≠ x.f0) : RiseK (insK acc x) := by
 obtain ⟨h1, h2⟩ := posK_spec hr hx acc.length (Nat.le_refl _) (fun j hj hn => by omega)
 obtain ⟨p, hp⟩ : ∃ p, p = posK acc x acc.length := ⟨_, rfl⟩
 unfold RiseK insK
 rw [← hp] at h1 h2 ⊢
 have hlo : ∀ a ∈ acc.take p, ltK a.f0 x.f0 = true := by
  intro a ha
  obtain ⟨j, hj, rfl⟩ := List.getElem_of_mem ha
  rw [List.length_take] at hj
  rw [List.getElem_take]
  exact h2 j (by omega) (by omega)
 have hhi : ∀ a ∈ acc.drop p, ltK x.f0 a.f0 = true := by
  intro a ha
  obtain ⟨j, hj, rfl⟩ := List.getElem_of_mem ha
  rw [List.length_drop] at hj
  rw [List.getElem_drop]
  exact h1 _ (by omega) (by omega)
 refine List.pairwise_append.2 ⟨hr.sublist (List.take_sublist _ _), List.pairwise_cons.2 ⟨hhi, hr.sublist (List.drop_sublist _ _)⟩, fun a ha b hb => ?_⟩
 rcases List.mem_cons.1 hb with rfl | hb
 · exact hlo a ha
 · exact ltK_trans (hlo a ha) (hhi b hb)
theorem insK_mem (acc : List Rc) (x y : Rc) : y ∈ insK acc x ↔ y = x ∨ y ∈ acc := by
 unfold insK
 obtain ⟨p, hp⟩ : ∃ p, p = posK acc x acc.length := ⟨_, rfl⟩
 rw [← hp, List.mem_append, List.mem_cons]
 have := List.take_append_drop p acc
 constructor
 · rintro (h | h | h)
   · exact .inr (List.mem_of_mem_take h)
   · exact .inl h
   · exact .inr (List.mem_of_mem_drop h)
 · rintro (h | h)
   · exact .inr (.inl h)
   · rw [← this] at h
     rcases List.mem_append.1 h with h | h
     · exact .inl h
     · exact .inr (.inr h)
theorem ordN_mem (D : List Rc) : ∀ i, i ≤ D.length → ∀ y, y ∈ ordN D i ↔ y ∈ D.take i := by
 intro i
 induction i with
 | zero => intro _ y; simp [ordN]
 | succ i ih =>
   intro h y
   rw [ordN_step (by omega), insK_mem, ih (by omega), List.take_succ_eq_append_getElem (by omega), List.mem_append, List.mem_singleton, rr_get (by omega)]
   exact or_comm
theorem ordN_rise {D : List Rc} (hD : D.Pairwise (fun a b => a.f0 ≠ b.f0)) : ∀ i, i ≤ D.length → RiseK (ordN D i) := by
 intro i
 induction i with
 | zero => intro _; exact List.Pairwise.nil
 | succ i ih =>
   intro h
   rw [ordN_step (by omega)]
   refine insK_rise (ih (by omega)) (fun r hr => ?_)
   rw [ordN_mem D i (by omega)] at hr
   obtain ⟨j, hj, rfl⟩ := List.getElem_of_mem hr
   rw [List.length_take] at hj
   rw [List.getElem_take, rr_get (by omega)]
   exact List.pairwise_iff_getElem.1 hD j i (by omega) (by omega) (by omega)
theorem ordK_all (L : List Rc) : ordK L = ordN (dedK L) (dedK L).length := by unfold ordK ordN; rw [List.take_length]
theorem ordK_rise (L : List Rc) : RiseK (ordK L) := by rw [ordK_all]; exact ordN_rise (dedK_one L) _ (Nat.le_refl _)
theorem ordK_mem (L : List Rc) (y : Rc) : y ∈ ordK L ↔ y ∈ dedK L := by rw [ordK_all, ordN_mem _ _ (Nat.le_refl _), List.take_length]
theorem ordK_len (L : List Rc) : (ordK L).length = (dedK L).length := by rw [ordK_all, ordN_len _ _ (Nat.le_refl _)]
end Go.Proofs.Ytkhcmddeeodbkaa.Q
namespace Go.Proofs.Ytkhcmddeeodbkaa.GR
open Go.RowKit Go.Proofs.YtkhcmddeeodbkaaW.PrintWords Go.Proofs.YtkhcmddeeodbkaaW.PrintLast Go.Proofs.YtkhcmddeeodbkaaW.PrintMore
def pre (n k : Nat) : Array Bool := (List.replicate k true ++ List.replicate (n - k) false).toArray
section
variable {P : Program} {ops : Array Oper} {Q : Exit → Act → World → Prop} {md : Region.Mode} {S : World → Prop} {ds : List Nat}
theorem start_p {id n : Nat} {a : Act} {w : World} (hm : P.follows .mixedOrders = true) (hn : ops.size = n) (hS : S w.drew) (h : S w.drew → wpAnyLast P .any ops Q S ds n (pre n 0) a w.drew) : (Code.region id ops true).wp P Q a w :=
 start_ (pre n 0) hm hn (by unfold pre; rw [List.replicate_zero, List.nil_append, Nat.sub_zero, List.toArray_replicate]) hS h
theorem take_p {n k : Nat} {oi : Oper} {N : Option Tmp} {v : Value} {fuel : Nat} {a : Act} {w : World} (hi : ops[k]? = some oi) (hN : oi.dst = N) (hc : takeB md ops ds (pre n k) (pre n (k + 1)) k = true)
    (hQ : ∀ c a w, Q (.panic c) (a.put oi.dst v) w → Q (.panic c) a w) (hw : Region.wanted oi (yielded ops a.tmps) = true) (hy : ∀ w', S w' → (execOp a.eval oi).run P w' = .ok (.value v) w') (hS : S w) {a' : Act} (ha : a.put N v = a')
    (h : wpAnyLast P md ops Q S ds fuel (pre n (k + 1)) a' w) : wpAnyLast P md ops Q S ds (fuel + 1) (pre n k) a w :=
 take_ (pre n (k + 1)) hi hN hc hQ (Or.inl ⟨hw, hy⟩) hS ha h
theorem pure_p {n k : Nat} {oi : Oper} {N : Option Tmp} {v : Value} {fuel : Nat} {a : Act} {w : World} (hi : ops[k]? = some oi) (hN : oi.dst = N) (hc : anyB md ops (pre n k) (pre n (k + 1)) k = true)
    (hQ : ∀ c a w, Q (.panic c) (a.put oi.dst v) w → Q (.panic c) a w) (hw : Region.wanted oi (yielded ops a.tmps) = true) (hy : ∀ w', (execOp a.eval oi).run P w' = .ok (.value v) w') {a' : Act} (ha : a.put N v = a')
    (h : wpAnyLast P md ops Q S ds fuel (pre n (k + 1)) a' w) : wpAnyLast P md ops Q S ds (fuel + 1) (pre n k) a w :=
 pure_ (pre n (k + 1)) hi hN hc hQ (Or.inl ⟨hw, hy⟩) ha h
theorem off_p {n k : Nat} {oi : Oper} {N : Option Tmp} {fuel : Nat} {a : Act} {w : World} (hi : ops[k]? = some oi) (hN : oi.dst = N) (hc : anyB md ops (pre n k) (pre n (k + 1)) k = true)
    (hQ : ∀ c a w, Q (.panic c) (a.put oi.dst undef) w → Q (.panic c) a w) (hw : Region.wanted oi (yielded ops a.tmps) = false) {a' : Act} (ha : a.put N undef = a')
    (h : wpAnyLast P md ops Q S ds fuel (pre n (k + 1)) a' w) : wpAnyLast P md ops Q S ds (fuel + 1) (pre n k) a w :=
 pure_ (pre n (k + 1)) hi hN hc hQ (Or.inr ⟨hw, rfl⟩) ha h
theorem one_p {n k : Nat} {oi : Oper} {N : Option Tmp} {fuel : Nat} {a : Act} {w : World} (hi : ops[k]? = some oi) (hN : oi.dst = N) (hc : readyB md ops (pre n k) (pre n (k + 1)) k = true) (hd : k ∉ ds)
    (h : ∀ K : Act → World → Prop, Shut (∀ a' w', S w' → (S w' → wpAnyLast P md ops Q S ds fuel (pre n (k + 1)) a' w') → K a' w') → if Region.wanted oi (yielded ops a.tmps) = true then Oper.wp P oi a w K Q else K (a.put N undef) w) :
    wpAnyLast P md ops Q S ds (fuel + 1) (pre n k) a w := one_ (pre n (k + 1)) hi hN hc hd h
end
end Go.Proofs.Ytkhcmddeeodbkaa.GR
