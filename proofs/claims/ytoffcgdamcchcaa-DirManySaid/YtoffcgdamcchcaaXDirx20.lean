-- Written by wip/xprint.py, this session's wrapper round the kit's print program. Not trusted: Lean checks it.
import Derived.Test.YtoffcgdamcchcaaXDirx0
namespace Go.Proofs.Ytoffcgdamcchcaa.XDir
open Go.RowKit Go.Proofs.YtoffcgdamcchcaaW.PrintWords Go.Proofs.YtoffcgdamcchcaaW.PrintLast Go.Proofs.YtoffcgdamcchcaaW.PrintMore
attribute [local go_sem] max2_int min2_int max_two min_two max_three min_three max_four min_four   -- for this text's walks alone
set_option linter.unusedVariables false
set_option linter.unusedSimpArgs false

/-! ### loesslaw14_may: function 12 -/
mutual
def loesslaw14_may.l0 : Nat → List (S32) → Int → Option (Bool)
  | 0, _, _ => none
  | k + 1, x0, x3 => if x3 < (x0.length : Int) then (if 0 ≤ x3 then (if (((rd_T32 x0 x3).f0).size : Int) < 1 then (loesslaw14_may.j1 k x0 x3 true ((rd_T32 x0 x3).f0) ((rd_T32 x0 x3).f1) ((rd_T32 x0 x3).f2.f0) ((rd_T32 x0 x3).f2.f1)) else (if (((rd_T32 x0 x3).f0).size : Int) > 20 then (loesslaw14_may.j1 k x0 x3 true ((rd_T32 x0 x3).f0) ((rd_T32 x0 x3).f1) ((rd_T32 x0 x3).f2.f0) ((rd_T32 x0 x3).f2.f1)) else (if x3 > 0 then (if 0 ≤ (wrap64 (x3 - 1)) then (if (wrap64 (x3 - 1)) < (x0.length : Int) then (if ((Op.bytesLess (((rd_T32 x0 (wrap64 (x3 - 1))).f0).toList) (((rd_T32 x0 x3).f0).toList)) = true) then (if ((rd_T32 x0 x3).f1) < 0 then (loesslaw14_may.j1 k x0 x3 true ((rd_T32 x0 x3).f0) ((rd_T32 x0 x3).f1) ((rd_T32 x0 x3).f2.f0) ((rd_T32 x0 x3).f2.f1)) else (if ((rd_T32 x0 x3).f1) > 65536 then (loesslaw14_may.j1 k x0 x3 true ((rd_T32 x0 x3).f0) ((rd_T32 x0 x3).f1) ((rd_T32 x0 x3).f2.f0) ((rd_T32 x0 x3).f2.f1)) else (loesslaw14_may.j1 k x0 x3 (((rd_T32 x0 x3).f2.f1) != (wrap64 (Int.tdiv (wrap64 (((rd_T32 x0 x3).f1) + 63)) 64))) ((rd_T32 x0 x3).f0) ((rd_T32 x0 x3).f1) ((rd_T32 x0 x3).f2.f0) ((rd_T32 x0 x3).f2.f1)))) else (loesslaw14_may.j1 k x0 x3 true ((rd_T32 x0 x3).f0) ((rd_T32 x0 x3).f1) ((rd_T32 x0 x3).f2.f0) ((rd_T32 x0 x3).f2.f1))) else (none)) else (none)) else (if ((rd_T32 x0 x3).f1) < 0 then (loesslaw14_may.j1 k x0 x3 true ((rd_T32 x0 x3).f0) ((rd_T32 x0 x3).f1) ((rd_T32 x0 x3).f2.f0) ((rd_T32 x0 x3).f2.f1)) else (if ((rd_T32 x0 x3).f1) > 65536 then (loesslaw14_may.j1 k x0 x3 true ((rd_T32 x0 x3).f0) ((rd_T32 x0 x3).f1) ((rd_T32 x0 x3).f2.f0) ((rd_T32 x0 x3).f2.f1)) else (loesslaw14_may.j1 k x0 x3 (((rd_T32 x0 x3).f2.f1) != (wrap64 (Int.tdiv (wrap64 (((rd_T32 x0 x3).f1) + 63)) 64))) ((rd_T32 x0 x3).f0) ((rd_T32 x0 x3).f1) ((rd_T32 x0 x3).f2.f0) ((rd_T32 x0 x3).f2.f1))))))) else (none)) else (some (decide ((x0.length : Int) ≤ 32)))
def loesslaw14_may.j1 : Nat → List (S32) → Int → Bool → ByteArray → Int → Int → Int → Option (Bool)
  | 0, _, _, _, _, _, _, _ => none
  | k + 1, x0, x3, x59, x220000, x220001, x220002, x220003 => if x59 = true then (some false) else (if x220002 < 0 then (some false) else (if x220002 > 2048 then (some false) else (if x220003 = 0 then (if x220002 = 0 then (loesslaw14_may.l0 k x0 (wrap64 (x3 + 1))) else (some false)) else (loesslaw14_may.l0 k x0 (wrap64 (x3 + 1))))))
end
def loesslaw14_may.f (k : Nat) (l0 : List (S32)) : Option (Bool) := loesslaw14_may.l0 k l0 0
theorem loesslaw14_may.mono_l : ∀ k, (∀ y0 y1, LeO (loesslaw14_may.l0 k y0 y1) (loesslaw14_may.l0 (k + 1) y0 y1)) ∧ (∀ y0 y1 y2 y3 y4 y5 y6, LeO (loesslaw14_may.j1 k y0 y1 y2 y3 y4 y5 y6) (loesslaw14_may.j1 (k + 1) y0 y1 y2 y3 y4 y5 y6))
  | 0 => ⟨fun _ _ r h => by simp [loesslaw14_may.l0] at h, fun _ _ _ _ _ _ _ r h => by simp [loesslaw14_may.j1] at h⟩
  | k + 1 => by
    obtain ⟨ih0, ih1⟩ := loesslaw14_may.mono_l k
    refine ⟨?_, ?_⟩
    · intro y0 y1
      unfold loesslaw14_may.l0
      repeat' first
      | (with_reducible exact ih0 _ _)
      | (with_reducible exact ih1 _ _ _ _ _ _ _)
      | (with_reducible exact LeO.refl _)
      | (with_reducible exact LeO.none _)
      | (with_reducible refine LeO.ite ?_ ?_)
      | (with_reducible refine LeO.bind ?_ (fun _ => ?_))
      | exact ih0 _ _
      | exact ih1 _ _ _ _ _ _ _
      | exact LeO.none _
      | refine LeO.ite ?_ ?_
      | refine LeO.bind ?_ (fun _ => ?_)
    · intro y0 y1 y2 y3 y4 y5 y6
      unfold loesslaw14_may.j1
      repeat' first
      | (with_reducible exact ih0 _ _)
      | (with_reducible exact ih1 _ _ _ _ _ _ _)
      | (with_reducible exact LeO.refl _)
      | (with_reducible exact LeO.none _)
      | (with_reducible refine LeO.ite ?_ ?_)
      | (with_reducible refine LeO.bind ?_ (fun _ => ?_))
      | exact ih0 _ _
      | exact ih1 _ _ _ _ _ _ _
      | exact LeO.none _
      | refine LeO.ite ?_ ?_
      | refine LeO.bind ?_ (fun _ => ?_)
theorem loesslaw14_may.mono : ∀ a0 k, LeO (loesslaw14_may.f k a0) (loesslaw14_may.f (k + 1) a0) := by
  intro a0 k
  obtain ⟨ih0, ih1⟩ := loesslaw14_may.mono_l k
  unfold loesslaw14_may.f
  repeat' first
      | (with_reducible exact ih0 _ _)
      | (with_reducible exact ih1 _ _ _ _ _ _ _)
      | (with_reducible exact LeO.refl _)
      | (with_reducible exact LeO.none _)
      | (with_reducible refine LeO.ite ?_ ?_)
      | (with_reducible refine LeO.bind ?_ (fun _ => ?_))
      | exact ih0 _ _
      | exact ih1 _ _ _ _ _ _ _
      | exact LeO.none _
      | refine LeO.ite ?_ ?_
      | refine LeO.bind ?_ (fun _ => ?_)
set_option maxHeartbeats 8000000 in
set_option maxRecDepth 100000 in
theorem loesslaw14_may.calls (k : Nat) (A0 : Option Addr) (c0 : Nat) (l0 : List (S32)) (r : Bool) (w : World) (hr0 : Kd.C k32 w A0 l0.length l0) (hc0 : l0.length ≤ c0) (h : loesslaw14_may.f k l0 = some r) :
    Calls Try.prog 12 #[.slice A0 l0.length c0] w fun e w' => e = .returned (.bool r) ∧ Below w.heap.size w w' := by
  have hu32 := Try.underlying32
  have HR0 := Aside0.mk hr0
  have HC0 := Aside0.mk hc0
  clear hr0 hc0
  have HB := Aside0.mk (Below.refl w.heap.size w)
  have H : (loesslaw14_may.l0 k l0 0) = some r := h
  clear h
  have H' := Aside0.mk H
  clear H
  go_enter Try.func12, Try.ntmps12
  go_wp2
  repeat (go_quiet (fail); try go_wp2)
  go_loopg [3] k (fun kq v3 w' => ∃ (x3_1 : Int), v3 = .int .i64 x3_1 ∧ Aside0 (loesslaw14_may.l0 kq l0 x3_1 = some r) ∧ Aside0 (kq ≤ k) ∧ Aside0 (Below w.heap.size w w'))
  case atStart => exact ⟨(0), (by first | rfl | (simp; done) | (simp [*]; done)), H', ⟨Nat.le_refl _⟩, ⟨by repeat (first | (with_reducible first | exact HB.out | apply below_alloc | apply pw_below_drewN | apply below_drew1) | exact HB.out)⟩⟩
  case round =>
    clear H'
    try clear c1
    obtain ⟨x3_1, rfl, HA, HK1, HB⟩ := hrel
    cases gk with
    | zero => exact absurd HA.out (by simp [loesslaw14_may.l0])
    | succ k1 =>
      have H := HA.out
      clear HA
      simp only [loesslaw14_may.l0] at H
      by_cases c2 : x3_1 < (l0.length : Int)
      · rw [if_pos c2] at H
        have c2b0 : decide (x3_1 < (l0.length : Int)) = true := decide_eq_true c2
        clear c2
        by_cases c3 : 0 ≤ x3_1
        · rw [if_pos c3] at H
          have c3b0 : decide (0 ≤ x3_1) = true := decide_eq_true c3
          clear c3
          have HC4 := Aside0.mk H
          clear H
          have p218 : 0 ≤ (x3_1 : Int) := of_decide_eq_true (by first | (with_reducible assumption) | assumption)
          have q218 : x3_1 < (l0.length : Int) := of_decide_eq_true (by first | (with_reducible assumption) | assumption)
          obtain ⟨ad218, e218, hx218_0, hx218_1, hx218_2, hx218_3⟩ := at_T32 HR0.out x3_1 p218 q218
          cases e218
          replace hx218_0 := (HB.out.cell (World.block_lt_of_cell? w _ hx218_0)).trans hx218_0
          replace hx218_1 := (HB.out.cell (World.block_lt_of_cell? w _ hx218_1)).trans hx218_1
          replace hx218_2 := (HB.out.cell (World.block_lt_of_cell? w _ hx218_2)).trans hx218_2
          replace hx218_3 := (HB.out.cell (World.block_lt_of_cell? w _ hx218_3)).trans hx218_3
          replace p218 := eq_true p218
          replace q218 := eq_true q218
          go_upto_region 5 with (first | ((with_reducible refine gate_dst (N := 4) rfl ?_); (try (refine gate_guard (by rfl) ?_; dsimp only)); refine box_event ?hg (N := 4) ?hd (cs := #[.string (⟨#[]⟩ : ByteArray), .int .i64 0, .int .i64 0, .int .i64 0]) (t := 32) ?hr ?_; (case hd => rfl); (case hg => rfl); (case hr => first | (go_simp; done) | (go_simp; rfl)); intro gb219 hg w5 hbox hb; have n0_ := Aside0.mk (below_step (by repeat (first | (with_reducible first | exact HB.out | apply below_alloc | apply pw_below_drewN | apply below_drew1) | exact HB.out)) hb); have n1_ := Aside0.mk (hbox); have n2_ := Aside0.mk ((by rw [hg]; exact (below_size (by repeat (first | (with_reducible first | exact HB.out | apply below_alloc | apply pw_below_drewN | apply below_drew1) | exact HB.out))) : w.heap.size ≤ gb219)); have n3_ := Aside0.mk ((by rw [hg]; exact (below_size (by repeat (first | (with_reducible first | exact HB.out | apply below_alloc | apply pw_below_drewN | apply below_drew1) | exact HB.out))) : w.heap.size ≤ gb219)); clear HB; have HB := n0_; have BK219 := n1_; have GW219 := n2_; have GE219 := n3_; clear n0_ n1_ n2_ n3_; clear hb hbox hg; have hcz6_0 : w5.cell? ⟨gb219, 0, none⟩ = some (.string (⟨#[]⟩ : ByteArray)) := (blk_cell BK219.out 0).trans rfl; have hcz6_1 : w5.cell? ⟨gb219, 1, none⟩ = some (.int .i64 0) := (blk_cell BK219.out 1).trans rfl; have hcz6_2 : w5.cell? ⟨gb219, 2, none⟩ = some (.int .i64 0) := (blk_cell BK219.out 2).trans rfl; have hcz6_3 : w5.cell? ⟨gb219, 3, none⟩ = some (.int .i64 0) := (blk_cell BK219.out 3).trans rfl; have hfz6_0 := blk_frozen BK219.out 0; have hfz6_1 := blk_frozen BK219.out 1; have hfz6_2 := blk_frozen BK219.out 2; have hfz6_3 := blk_frozen BK219.out 3))
          repeat (go_quiet (first | ((with_reducible refine gate_dst (N := 4) rfl ?_); (try (refine gate_guard (by rfl) ?_; dsimp only)); refine box_event ?hg (N := 4) ?hd (cs := #[.string (⟨#[]⟩ : ByteArray), .int .i64 0, .int .i64 0, .int .i64 0]) (t := 32) ?hr ?_; (case hd => rfl); (case hg => rfl); (case hr => first | (go_simp; done) | (go_simp; rfl)); intro gb219 hg w5 hbox hb; have n0_ := Aside0.mk (below_step (by repeat (first | (with_reducible first | exact HB.out | apply below_alloc | apply pw_below_drewN | apply below_drew1) | exact HB.out)) hb); have n1_ := Aside0.mk (hbox); have n2_ := Aside0.mk ((by rw [hg]; exact (below_size (by repeat (first | (with_reducible first | exact HB.out | apply below_alloc | apply pw_below_drewN | apply below_drew1) | exact HB.out))) : w.heap.size ≤ gb219)); have n3_ := Aside0.mk ((by rw [hg]; exact (below_size (by repeat (first | (with_reducible first | exact HB.out | apply below_alloc | apply pw_below_drewN | apply below_drew1) | exact HB.out))) : w.heap.size ≤ gb219)); clear HB; have HB := n0_; have BK219 := n1_; have GW219 := n2_; have GE219 := n3_; clear n0_ n1_ n2_ n3_; clear hb hbox hg; have hcz6_0 : w5.cell? ⟨gb219, 0, none⟩ = some (.string (⟨#[]⟩ : ByteArray)) := (blk_cell BK219.out 0).trans rfl; have hcz6_1 : w5.cell? ⟨gb219, 1, none⟩ = some (.int .i64 0) := (blk_cell BK219.out 1).trans rfl; have hcz6_2 : w5.cell? ⟨gb219, 2, none⟩ = some (.int .i64 0) := (blk_cell BK219.out 2).trans rfl; have hcz6_3 : w5.cell? ⟨gb219, 3, none⟩ = some (.int .i64 0) := (blk_cell BK219.out 3).trans rfl; have hfz6_0 := blk_frozen BK219.out 0; have hfz6_1 := blk_frozen BK219.out 1; have hfz6_2 := blk_frozen BK219.out 2; have hfz6_3 := blk_frozen BK219.out 3)); go_upto_region 5 with (first | ((with_reducible refine gate_dst (N := 4) rfl ?_); (try (refine gate_guard (by rfl) ?_; dsimp only)); refine box_event ?hg (N := 4) ?hd (cs := #[.string (⟨#[]⟩ : ByteArray), .int .i64 0, .int .i64 0, .int .i64 0]) (t := 32) ?hr ?_; (case hd => rfl); (case hg => rfl); (case hr => first | (go_simp; done) | (go_simp; rfl)); intro gb219 hg w5 hbox hb; have n0_ := Aside0.mk (below_step (by repeat (first | (with_reducible first | exact HB.out | apply below_alloc | apply pw_below_drewN | apply below_drew1) | exact HB.out)) hb); have n1_ := Aside0.mk (hbox); have n2_ := Aside0.mk ((by rw [hg]; exact (below_size (by repeat (first | (with_reducible first | exact HB.out | apply below_alloc | apply pw_below_drewN | apply below_drew1) | exact HB.out))) : w.heap.size ≤ gb219)); have n3_ := Aside0.mk ((by rw [hg]; exact (below_size (by repeat (first | (with_reducible first | exact HB.out | apply below_alloc | apply pw_below_drewN | apply below_drew1) | exact HB.out))) : w.heap.size ≤ gb219)); clear HB; have HB := n0_; have BK219 := n1_; have GW219 := n2_; have GE219 := n3_; clear n0_ n1_ n2_ n3_; clear hb hbox hg; have hcz6_0 : w5.cell? ⟨gb219, 0, none⟩ = some (.string (⟨#[]⟩ : ByteArray)) := (blk_cell BK219.out 0).trans rfl; have hcz6_1 : w5.cell? ⟨gb219, 1, none⟩ = some (.int .i64 0) := (blk_cell BK219.out 1).trans rfl; have hcz6_2 : w5.cell? ⟨gb219, 2, none⟩ = some (.int .i64 0) := (blk_cell BK219.out 2).trans rfl; have hcz6_3 : w5.cell? ⟨gb219, 3, none⟩ = some (.int .i64 0) := (blk_cell BK219.out 3).trans rfl; have hfz6_0 := blk_frozen BK219.out 0; have hfz6_1 := blk_frozen BK219.out 1; have hfz6_2 := blk_frozen BK219.out 2; have hfz6_3 := blk_frozen BK219.out 3)))
          (try simp only [Act.put, List.setIfInBounds_toArray, List.set_cons_zero, List.set_cons_succ])
          go_cut [59] (fun v59 wc => ∃ (kq : Nat) (x59_3 : Bool), v59 = .bool x59_3 ∧ Aside0 (loesslaw14_may.j1 kq l0 x3_1 x59_3 ((rd_T32 l0 x3_1).f0) ((rd_T32 l0 x3_1).f1) ((rd_T32 l0 x3_1).f2.f0) ((rd_T32 l0 x3_1).f2.f1) = some r) ∧ Aside0 (kq ≤ k1) ∧ Aside0 (wc.heap[gb219]? = some (.cells #[.string ((rd_T32 l0 x3_1).f0), .int .i64 ((rd_T32 l0 x3_1).f1), .int .i64 ((rd_T32 l0 x3_1).f2.f0), .int .i64 ((rd_T32 l0 x3_1).f2.f1)] 32 (0, 0))) ∧ Aside0 (Below w.heap.size w wc))
          case first =>
            have H := HC4.out
            clear HC4
            by_cases c7 : (((rd_T32 l0 x3_1).f0).size : Int) < 1
            · rw [if_pos c7] at H
              have c7b0 : decide ((((rd_T32 l0 x3_1).f0).size : Int) < 1) = true := decide_eq_true c7
              have c7b1 : decide (((rd_T32 l0 x3_1).f0).size < 1) = true := decide_eq_true (by omega)
              clear c7
              (first | rw [c7b0] | (simp only [i64_w, i32_w]; rw [c7b0]) | skip)
              have H' := Aside0.mk H
              clear H
              have hcz8_0 : w5.cell? ⟨gb219, 0, none⟩ = some (.string (⟨#[]⟩ : ByteArray)) := (blk_cell BK219.out 0).trans rfl
              have hcz8_1 : w5.cell? ⟨gb219, 1, none⟩ = some (.int .i64 0) := (blk_cell BK219.out 1).trans rfl
              have hcz8_2 : w5.cell? ⟨gb219, 2, none⟩ = some (.int .i64 0) := (blk_cell BK219.out 2).trans rfl
              have hcz8_3 : w5.cell? ⟨gb219, 3, none⟩ = some (.int .i64 0) := (blk_cell BK219.out 3).trans rfl
              have hfz8_0 := blk_frozen BK219.out 0
              have hfz8_1 := blk_frozen BK219.out 1
              have hfz8_2 := blk_frozen BK219.out 2
              have hfz8_3 := blk_frozen BK219.out 3
              go_wp2
              repeat (go_quiet (fail); try go_wp2)
              go_meet
              case rel => exact ⟨_, (true), (by first | rfl | (simp; done) | (simp [*]; done)), H', ⟨by have := HK1.out; first | omega | exact Nat.le_refl _⟩, ⟨by (with_reducible repeat (first | refine blk_drewN ?_ _ | refine blk_drew ?_ | refine blk_alloc ?_ _)); refine blk_put (cs := #[.string ((rd_T32 l0 x3_1).f0), .int .i64 ((rd_T32 l0 x3_1).f1), .int .i64 ((rd_T32 l0 x3_1).f2.f0), .int .i64 0]) ?_ 3 _ rfl; (with_reducible repeat (first | refine blk_drewN ?_ _ | refine blk_drew ?_ | refine blk_alloc ?_ _)); refine blk_put (cs := #[.string ((rd_T32 l0 x3_1).f0), .int .i64 ((rd_T32 l0 x3_1).f1), .int .i64 0, .int .i64 0]) ?_ 2 _ rfl; (with_reducible repeat (first | refine blk_drewN ?_ _ | refine blk_drew ?_ | refine blk_alloc ?_ _)); refine blk_put (cs := #[.string ((rd_T32 l0 x3_1).f0), .int .i64 0, .int .i64 0, .int .i64 0]) ?_ 1 _ rfl; (with_reducible repeat (first | refine blk_drewN ?_ _ | refine blk_drew ?_ | refine blk_alloc ?_ _)); refine blk_put (cs := #[.string (⟨#[]⟩ : ByteArray), .int .i64 0, .int .i64 0, .int .i64 0]) ?_ 0 _ rfl; (with_reducible repeat (first | refine blk_drewN ?_ _ | refine blk_drew ?_ | refine blk_alloc ?_ _)); exact BK219.out⟩, ⟨by repeat (first | (with_reducible first | exact HB.out | apply below_alloc | apply pw_below_drewN | apply below_drew1 | refine below_set ?_ GE219.out) | exact HB.out)⟩⟩
            · rw [if_neg c7] at H
              have c7b0 : decide ((((rd_T32 l0 x3_1).f0).size : Int) < 1) = false := decide_eq_false c7
              have c7b1 : decide (((rd_T32 l0 x3_1).f0).size < 1) = false := decide_eq_false (by omega)
              clear c7
              (first | rw [c7b0] | (simp only [i64_w, i32_w]; rw [c7b0]) | skip)
              by_cases c9 : (((rd_T32 l0 x3_1).f0).size : Int) > 20
              · rw [if_pos c9] at H
                have c9b0 : decide (20 < (((rd_T32 l0 x3_1).f0).size : Int)) = true := decide_eq_true c9
                have c9b1 : decide (20 < ((rd_T32 l0 x3_1).f0).size) = true := decide_eq_true (by omega)
                clear c9
                have H' := Aside0.mk H
                clear H
                have hcz10_0 : w5.cell? ⟨gb219, 0, none⟩ = some (.string (⟨#[]⟩ : ByteArray)) := (blk_cell BK219.out 0).trans rfl
                have hcz10_1 : w5.cell? ⟨gb219, 1, none⟩ = some (.int .i64 0) := (blk_cell BK219.out 1).trans rfl
                have hcz10_2 : w5.cell? ⟨gb219, 2, none⟩ = some (.int .i64 0) := (blk_cell BK219.out 2).trans rfl
                have hcz10_3 : w5.cell? ⟨gb219, 3, none⟩ = some (.int .i64 0) := (blk_cell BK219.out 3).trans rfl
                have hfz10_0 := blk_frozen BK219.out 0
                have hfz10_1 := blk_frozen BK219.out 1
                have hfz10_2 := blk_frozen BK219.out 2
                have hfz10_3 := blk_frozen BK219.out 3
                go_wp2
                repeat (go_quiet (fail); try go_wp2)
                go_meet
                case rel => exact ⟨_, (true), (by first | rfl | (simp; done) | (simp [*]; done)), H', ⟨by have := HK1.out; first | omega | exact Nat.le_refl _⟩, ⟨by (with_reducible repeat (first | refine blk_drewN ?_ _ | refine blk_drew ?_ | refine blk_alloc ?_ _)); refine blk_put (cs := #[.string ((rd_T32 l0 x3_1).f0), .int .i64 ((rd_T32 l0 x3_1).f1), .int .i64 ((rd_T32 l0 x3_1).f2.f0), .int .i64 0]) ?_ 3 _ rfl; (with_reducible repeat (first | refine blk_drewN ?_ _ | refine blk_drew ?_ | refine blk_alloc ?_ _)); refine blk_put (cs := #[.string ((rd_T32 l0 x3_1).f0), .int .i64 ((rd_T32 l0 x3_1).f1), .int .i64 0, .int .i64 0]) ?_ 2 _ rfl; (with_reducible repeat (first | refine blk_drewN ?_ _ | refine blk_drew ?_ | refine blk_alloc ?_ _)); refine blk_put (cs := #[.string ((rd_T32 l0 x3_1).f0), .int .i64 0, .int .i64 0, .int .i64 0]) ?_ 1 _ rfl; (with_reducible repeat (first | refine blk_drewN ?_ _ | refine blk_drew ?_ | refine blk_alloc ?_ _)); refine blk_put (cs := #[.string (⟨#[]⟩ : ByteArray), .int .i64 0, .int .i64 0, .int .i64 0]) ?_ 0 _ rfl; (with_reducible repeat (first | refine blk_drewN ?_ _ | refine blk_drew ?_ | refine blk_alloc ?_ _)); exact BK219.out⟩, ⟨by repeat (first | (with_reducible first | exact HB.out | apply below_alloc | apply pw_below_drewN | apply below_drew1 | refine below_set ?_ GE219.out) | exact HB.out)⟩⟩
              · rw [if_neg c9] at H
                have c9b0 : decide (20 < (((rd_T32 l0 x3_1).f0).size : Int)) = false := decide_eq_false c9
                have c9b1 : decide (20 < ((rd_T32 l0 x3_1).f0).size) = false := decide_eq_false (by omega)
                clear c9
                by_cases c11 : x3_1 > 0
                · rw [if_pos c11] at H
                  have c11b0 : decide (0 < x3_1) = true := decide_eq_true c11
                  clear c11
                  obtain ⟨ji12, hji12⟩ : ∃ j_ : Int, (wrap64 (x3_1 - 1)) = j_ := ⟨_, rfl⟩
                  replace H : (if 0 ≤ (ji12) then (if (ji12) < (l0.length : Int) then (if ((Op.bytesLess (((rd_T32 l0 (ji12)).f0).toList) (((rd_T32 l0 x3_1).f0).toList)) = true) then (if ((rd_T32 l0 x3_1).f1) < 0 then (loesslaw14_may.j1 k1 l0 x3_1 true ((rd_T32 l0 x3_1).f0) ((rd_T32 l0 x3_1).f1) ((rd_T32 l0 x3_1).f2.f0) ((rd_T32 l0 x3_1).f2.f1)) else (if ((rd_T32 l0 x3_1).f1) > 65536 then (loesslaw14_may.j1 k1 l0 x3_1 true ((rd_T32 l0 x3_1).f0) ((rd_T32 l0 x3_1).f1) ((rd_T32 l0 x3_1).f2.f0) ((rd_T32 l0 x3_1).f2.f1)) else (loesslaw14_may.j1 k1 l0 x3_1 (((rd_T32 l0 x3_1).f2.f1) != (wrap64 (Int.tdiv (wrap64 (((rd_T32 l0 x3_1).f1) + 63)) 64))) ((rd_T32 l0 x3_1).f0) ((rd_T32 l0 x3_1).f1) ((rd_T32 l0 x3_1).f2.f0) ((rd_T32 l0 x3_1).f2.f1)))) else (loesslaw14_may.j1 k1 l0 x3_1 true ((rd_T32 l0 x3_1).f0) ((rd_T32 l0 x3_1).f1) ((rd_T32 l0 x3_1).f2.f0) ((rd_T32 l0 x3_1).f2.f1))) else (none)) else (none)) = some r := by first | (rw [hji12] at H; exact H) | (simp only [hji12] at H ⊢; exact H)
                  have hji12w : (IntKind.i64.wrap (x3_1 - 1)) = ji12 := (i64_w _).trans hji12
                  by_cases c13 : 0 ≤ (ji12)
                  · rw [if_pos c13] at H
                    have c13b0 : decide (0 ≤ (ji12)) = true := decide_eq_true c13
                    clear c13
                    by_cases c14 : (ji12) < (l0.length : Int)
                    · rw [if_pos c14] at H
                      have c14b0 : decide ((ji12) < (l0.length : Int)) = true := decide_eq_true c14
                      clear c14
                      by_cases c15 : ((Op.bytesLess (((rd_T32 l0 (ji12)).f0).toList) (((rd_T32 l0 x3_1).f0).toList)) = true)
                      · rw [if_pos c15] at H
                        have c15b0 : (Op.bytesLess (((rd_T32 l0 (ji12)).f0).toList) (((rd_T32 l0 x3_1).f0).toList)) = true := c15
                        clear c15
                        by_cases c16 : ((rd_T32 l0 x3_1).f1) < 0
                        · rw [if_pos c16] at H
                          have c16b0 : decide (((rd_T32 l0 x3_1).f1) < 0) = true := decide_eq_true c16
                          clear c16
                          have H' := Aside0.mk H
                          clear H
                          have hcz17_0 : w5.cell? ⟨gb219, 0, none⟩ = some (.string (⟨#[]⟩ : ByteArray)) := (blk_cell BK219.out 0).trans rfl
                          have hcz17_1 : w5.cell? ⟨gb219, 1, none⟩ = some (.int .i64 0) := (blk_cell BK219.out 1).trans rfl
                          have hcz17_2 : w5.cell? ⟨gb219, 2, none⟩ = some (.int .i64 0) := (blk_cell BK219.out 2).trans rfl
                          have hcz17_3 : w5.cell? ⟨gb219, 3, none⟩ = some (.int .i64 0) := (blk_cell BK219.out 3).trans rfl
                          have hfz17_0 := blk_frozen BK219.out 0
                          have hfz17_1 := blk_frozen BK219.out 1
                          have hfz17_2 := blk_frozen BK219.out 2
                          have hfz17_3 := blk_frozen BK219.out 3
                          have p220 : 0 ≤ ((ji12) : Int) := of_decide_eq_true (by first | (with_reducible assumption) | assumption)
                          have q220 : (ji12) < (l0.length : Int) := of_decide_eq_true (by first | (with_reducible assumption) | assumption)
                          obtain ⟨ad220, e220, hx220_0, hx220_1, hx220_2, hx220_3⟩ := at_T32 HR0.out (ji12) p220 q220
                          obtain rfl : ad218 = ad220 := (by injection e220)
                          have hn220_0 : ad218.block ≠ gb219 := Nat.ne_of_lt (Nat.lt_of_lt_of_le (by have := World.block_lt_of_cell? _ _ hx220_0; first | rwa [add_block] at this | exact this) GW219.out)
                          have hn220_1 : ad218.block ≠ gb219 := Nat.ne_of_lt (Nat.lt_of_lt_of_le (by have := World.block_lt_of_cell? _ _ hx220_0; first | rwa [add_block] at this | exact this) GW219.out)
                          have hn220_2 : ad218.block ≠ gb219 := Nat.ne_of_lt (Nat.lt_of_lt_of_le (by have := World.block_lt_of_cell? _ _ hx220_0; first | rwa [add_block] at this | exact this) GW219.out)
                          have hn220_3 : ad218.block ≠ gb219 := Nat.ne_of_lt (Nat.lt_of_lt_of_le (by have := World.block_lt_of_cell? _ _ hx220_0; first | rwa [add_block] at this | exact this) GW219.out)
                          replace hx220_0 := (HB.out.cell (World.block_lt_of_cell? w _ hx220_0)).trans hx220_0
                          replace hx220_1 := (HB.out.cell (World.block_lt_of_cell? w _ hx220_1)).trans hx220_1
                          replace hx220_2 := (HB.out.cell (World.block_lt_of_cell? w _ hx220_2)).trans hx220_2
                          replace hx220_3 := (HB.out.cell (World.block_lt_of_cell? w _ hx220_3)).trans hx220_3
                          replace hx220_0 := (cell_far (p := ⟨gb219, 0, none⟩) (by first | (rw [add_block]; exact hn220_0) | (show (Addr.add _ _).block ≠ _; rw [add_block]; exact hn220_0) | exact hn220_0) (.string ((rd_T32 l0 x3_1).f0))).trans hx220_0
                          replace hx220_1 := (cell_far (p := ⟨gb219, 0, none⟩) (by first | (rw [add_block]; exact hn220_0) | (show (Addr.add _ _).block ≠ _; rw [add_block]; exact hn220_0) | exact hn220_0) (.string ((rd_T32 l0 x3_1).f0))).trans hx220_1
                          replace hx220_2 := (cell_far (p := ⟨gb219, 0, none⟩) (by first | (rw [add_block]; exact hn220_0) | (show (Addr.add _ _).block ≠ _; rw [add_block]; exact hn220_0) | exact hn220_0) (.string ((rd_T32 l0 x3_1).f0))).trans hx220_2
                          replace hx220_3 := (cell_far (p := ⟨gb219, 0, none⟩) (by first | (rw [add_block]; exact hn220_0) | (show (Addr.add _ _).block ≠ _; rw [add_block]; exact hn220_0) | exact hn220_0) (.string ((rd_T32 l0 x3_1).f0))).trans hx220_3
                          replace hx220_0 := (cell_far (p := ⟨gb219, 1, none⟩) (by first | (rw [add_block]; exact hn220_1) | (show (Addr.add _ _).block ≠ _; rw [add_block]; exact hn220_1) | exact hn220_1) (.int .i64 ((rd_T32 l0 x3_1).f1))).trans hx220_0
                          replace hx220_1 := (cell_far (p := ⟨gb219, 1, none⟩) (by first | (rw [add_block]; exact hn220_1) | (show (Addr.add _ _).block ≠ _; rw [add_block]; exact hn220_1) | exact hn220_1) (.int .i64 ((rd_T32 l0 x3_1).f1))).trans hx220_1
                          replace hx220_2 := (cell_far (p := ⟨gb219, 1, none⟩) (by first | (rw [add_block]; exact hn220_1) | (show (Addr.add _ _).block ≠ _; rw [add_block]; exact hn220_1) | exact hn220_1) (.int .i64 ((rd_T32 l0 x3_1).f1))).trans hx220_2
                          replace hx220_3 := (cell_far (p := ⟨gb219, 1, none⟩) (by first | (rw [add_block]; exact hn220_1) | (show (Addr.add _ _).block ≠ _; rw [add_block]; exact hn220_1) | exact hn220_1) (.int .i64 ((rd_T32 l0 x3_1).f1))).trans hx220_3
                          replace hx220_0 := (cell_far (p := ⟨gb219, 2, none⟩) (by first | (rw [add_block]; exact hn220_2) | (show (Addr.add _ _).block ≠ _; rw [add_block]; exact hn220_2) | exact hn220_2) (.int .i64 ((rd_T32 l0 x3_1).f2.f0))).trans hx220_0
                          replace hx220_1 := (cell_far (p := ⟨gb219, 2, none⟩) (by first | (rw [add_block]; exact hn220_2) | (show (Addr.add _ _).block ≠ _; rw [add_block]; exact hn220_2) | exact hn220_2) (.int .i64 ((rd_T32 l0 x3_1).f2.f0))).trans hx220_1
                          replace hx220_2 := (cell_far (p := ⟨gb219, 2, none⟩) (by first | (rw [add_block]; exact hn220_2) | (show (Addr.add _ _).block ≠ _; rw [add_block]; exact hn220_2) | exact hn220_2) (.int .i64 ((rd_T32 l0 x3_1).f2.f0))).trans hx220_2
                          replace hx220_3 := (cell_far (p := ⟨gb219, 2, none⟩) (by first | (rw [add_block]; exact hn220_2) | (show (Addr.add _ _).block ≠ _; rw [add_block]; exact hn220_2) | exact hn220_2) (.int .i64 ((rd_T32 l0 x3_1).f2.f0))).trans hx220_3
                          replace hx220_0 := (cell_far (p := ⟨gb219, 3, none⟩) (by first | (rw [add_block]; exact hn220_3) | (show (Addr.add _ _).block ≠ _; rw [add_block]; exact hn220_3) | exact hn220_3) (.int .i64 ((rd_T32 l0 x3_1).f2.f1))).trans hx220_0
                          replace hx220_1 := (cell_far (p := ⟨gb219, 3, none⟩) (by first | (rw [add_block]; exact hn220_3) | (show (Addr.add _ _).block ≠ _; rw [add_block]; exact hn220_3) | exact hn220_3) (.int .i64 ((rd_T32 l0 x3_1).f2.f1))).trans hx220_1
                          replace hx220_2 := (cell_far (p := ⟨gb219, 3, none⟩) (by first | (rw [add_block]; exact hn220_3) | (show (Addr.add _ _).block ≠ _; rw [add_block]; exact hn220_3) | exact hn220_3) (.int .i64 ((rd_T32 l0 x3_1).f2.f1))).trans hx220_2
                          replace hx220_3 := (cell_far (p := ⟨gb219, 3, none⟩) (by first | (rw [add_block]; exact hn220_3) | (show (Addr.add _ _).block ≠ _; rw [add_block]; exact hn220_3) | exact hn220_3) (.int .i64 ((rd_T32 l0 x3_1).f2.f1))).trans hx220_3
                          (try have hy220_0 := fun (n_ : Nat) => (show ((((((w5.drewN n_).setCell ⟨gb219, 0, none⟩ (.string ((rd_T32 l0 x3_1).f0))).setCell ⟨gb219, 1, none⟩ (.int .i64 ((rd_T32 l0 x3_1).f1))).setCell ⟨gb219, 2, none⟩ (.int .i64 ((rd_T32 l0 x3_1).f2.f0))).setCell ⟨gb219, 3, none⟩ (.int .i64 ((rd_T32 l0 x3_1).f2.f1)))).cell? _ = some _ from hx220_0))
                          (try have hy220_1 := fun (n_ : Nat) => (show ((((((w5.drewN n_).setCell ⟨gb219, 0, none⟩ (.string ((rd_T32 l0 x3_1).f0))).setCell ⟨gb219, 1, none⟩ (.int .i64 ((rd_T32 l0 x3_1).f1))).setCell ⟨gb219, 2, none⟩ (.int .i64 ((rd_T32 l0 x3_1).f2.f0))).setCell ⟨gb219, 3, none⟩ (.int .i64 ((rd_T32 l0 x3_1).f2.f1)))).cell? _ = some _ from hx220_1))
                          (try have hy220_2 := fun (n_ : Nat) => (show ((((((w5.drewN n_).setCell ⟨gb219, 0, none⟩ (.string ((rd_T32 l0 x3_1).f0))).setCell ⟨gb219, 1, none⟩ (.int .i64 ((rd_T32 l0 x3_1).f1))).setCell ⟨gb219, 2, none⟩ (.int .i64 ((rd_T32 l0 x3_1).f2.f0))).setCell ⟨gb219, 3, none⟩ (.int .i64 ((rd_T32 l0 x3_1).f2.f1)))).cell? _ = some _ from hx220_2))
                          (try have hy220_3 := fun (n_ : Nat) => (show ((((((w5.drewN n_).setCell ⟨gb219, 0, none⟩ (.string ((rd_T32 l0 x3_1).f0))).setCell ⟨gb219, 1, none⟩ (.int .i64 ((rd_T32 l0 x3_1).f1))).setCell ⟨gb219, 2, none⟩ (.int .i64 ((rd_T32 l0 x3_1).f2.f0))).setCell ⟨gb219, 3, none⟩ (.int .i64 ((rd_T32 l0 x3_1).f2.f1)))).cell? _ = some _ from hx220_3))
                          clear hn220_0
                          clear hn220_1
                          clear hn220_2
                          clear hn220_3
                          replace p220 := eq_true p220
                          replace q220 := eq_true q220
                          go_wp2
                          repeat (go_quiet (fail); try go_wp2)
                          go_meet
                          case rel => exact ⟨_, (true), (by first | rfl | (simp; done) | (simp [*]; done)), H', ⟨by have := HK1.out; first | omega | exact Nat.le_refl _⟩, ⟨by (with_reducible repeat (first | refine blk_drewN ?_ _ | refine blk_drew ?_ | refine blk_alloc ?_ _)); refine blk_put (cs := #[.string ((rd_T32 l0 x3_1).f0), .int .i64 ((rd_T32 l0 x3_1).f1), .int .i64 ((rd_T32 l0 x3_1).f2.f0), .int .i64 0]) ?_ 3 _ rfl; (with_reducible repeat (first | refine blk_drewN ?_ _ | refine blk_drew ?_ | refine blk_alloc ?_ _)); refine blk_put (cs := #[.string ((rd_T32 l0 x3_1).f0), .int .i64 ((rd_T32 l0 x3_1).f1), .int .i64 0, .int .i64 0]) ?_ 2 _ rfl; (with_reducible repeat (first | refine blk_drewN ?_ _ | refine blk_drew ?_ | refine blk_alloc ?_ _)); refine blk_put (cs := #[.string ((rd_T32 l0 x3_1).f0), .int .i64 0, .int .i64 0, .int .i64 0]) ?_ 1 _ rfl; (with_reducible repeat (first | refine blk_drewN ?_ _ | refine blk_drew ?_ | refine blk_alloc ?_ _)); refine blk_put (cs := #[.string (⟨#[]⟩ : ByteArray), .int .i64 0, .int .i64 0, .int .i64 0]) ?_ 0 _ rfl; (with_reducible repeat (first | refine blk_drewN ?_ _ | refine blk_drew ?_ | refine blk_alloc ?_ _)); exact BK219.out⟩, ⟨by repeat (first | (with_reducible first | exact HB.out | apply below_alloc | apply pw_below_drewN | apply below_drew1 | refine below_set ?_ GE219.out) | exact HB.out)⟩⟩
                        · rw [if_neg c16] at H
                          have c16b0 : decide (((rd_T32 l0 x3_1).f1) < 0) = false := decide_eq_false c16
                          clear c16
                          by_cases c18 : ((rd_T32 l0 x3_1).f1) > 65536
                          · rw [if_pos c18] at H
                            have c18b0 : decide (65536 < ((rd_T32 l0 x3_1).f1)) = true := decide_eq_true c18
                            clear c18
                            have H' := Aside0.mk H
                            clear H
                            have hcz19_0 : w5.cell? ⟨gb219, 0, none⟩ = some (.string (⟨#[]⟩ : ByteArray)) := (blk_cell BK219.out 0).trans rfl
                            have hcz19_1 : w5.cell? ⟨gb219, 1, none⟩ = some (.int .i64 0) := (blk_cell BK219.out 1).trans rfl
                            have hcz19_2 : w5.cell? ⟨gb219, 2, none⟩ = some (.int .i64 0) := (blk_cell BK219.out 2).trans rfl
                            have hcz19_3 : w5.cell? ⟨gb219, 3, none⟩ = some (.int .i64 0) := (blk_cell BK219.out 3).trans rfl
                            have hfz19_0 := blk_frozen BK219.out 0
                            have hfz19_1 := blk_frozen BK219.out 1
                            have hfz19_2 := blk_frozen BK219.out 2
                            have hfz19_3 := blk_frozen BK219.out 3
                            have p220 : 0 ≤ ((ji12) : Int) := of_decide_eq_true (by first | (with_reducible assumption) | assumption)
                            have q220 : (ji12) < (l0.length : Int) := of_decide_eq_true (by first | (with_reducible assumption) | assumption)
                            obtain ⟨ad220, e220, hx220_0, hx220_1, hx220_2, hx220_3⟩ := at_T32 HR0.out (ji12) p220 q220
                            obtain rfl : ad218 = ad220 := (by injection e220)
                            have hn220_0 : ad218.block ≠ gb219 := Nat.ne_of_lt (Nat.lt_of_lt_of_le (by have := World.block_lt_of_cell? _ _ hx220_0; first | rwa [add_block] at this | exact this) GW219.out)
                            have hn220_1 : ad218.block ≠ gb219 := Nat.ne_of_lt (Nat.lt_of_lt_of_le (by have := World.block_lt_of_cell? _ _ hx220_0; first | rwa [add_block] at this | exact this) GW219.out)
                            have hn220_2 : ad218.block ≠ gb219 := Nat.ne_of_lt (Nat.lt_of_lt_of_le (by have := World.block_lt_of_cell? _ _ hx220_0; first | rwa [add_block] at this | exact this) GW219.out)
                            have hn220_3 : ad218.block ≠ gb219 := Nat.ne_of_lt (Nat.lt_of_lt_of_le (by have := World.block_lt_of_cell? _ _ hx220_0; first | rwa [add_block] at this | exact this) GW219.out)
                            replace hx220_0 := (HB.out.cell (World.block_lt_of_cell? w _ hx220_0)).trans hx220_0
                            replace hx220_1 := (HB.out.cell (World.block_lt_of_cell? w _ hx220_1)).trans hx220_1
                            replace hx220_2 := (HB.out.cell (World.block_lt_of_cell? w _ hx220_2)).trans hx220_2
                            replace hx220_3 := (HB.out.cell (World.block_lt_of_cell? w _ hx220_3)).trans hx220_3
                            replace hx220_0 := (cell_far (p := ⟨gb219, 0, none⟩) (by first | (rw [add_block]; exact hn220_0) | (show (Addr.add _ _).block ≠ _; rw [add_block]; exact hn220_0) | exact hn220_0) (.string ((rd_T32 l0 x3_1).f0))).trans hx220_0
                            replace hx220_1 := (cell_far (p := ⟨gb219, 0, none⟩) (by first | (rw [add_block]; exact hn220_0) | (show (Addr.add _ _).block ≠ _; rw [add_block]; exact hn220_0) | exact hn220_0) (.string ((rd_T32 l0 x3_1).f0))).trans hx220_1
                            replace hx220_2 := (cell_far (p := ⟨gb219, 0, none⟩) (by first | (rw [add_block]; exact hn220_0) | (show (Addr.add _ _).block ≠ _; rw [add_block]; exact hn220_0) | exact hn220_0) (.string ((rd_T32 l0 x3_1).f0))).trans hx220_2
                            replace hx220_3 := (cell_far (p := ⟨gb219, 0, none⟩) (by first | (rw [add_block]; exact hn220_0) | (show (Addr.add _ _).block ≠ _; rw [add_block]; exact hn220_0) | exact hn220_0) (.string ((rd_T32 l0 x3_1).f0))).trans hx220_3
                            replace hx220_0 := (cell_far (p := ⟨gb219, 1, none⟩) (by first | (rw [add_block]; exact hn220_1) | (show (Addr.add _ _).block ≠ _; rw [add_block]; exact hn220_1) | exact hn220_1) (.int .i64 ((rd_T32 l0 x3_1).f1))).trans hx220_0
                            replace hx220_1 := (cell_far (p := ⟨gb219, 1, none⟩) (by first | (rw [add_block]; exact hn220_1) | (show (Addr.add _ _).block ≠ _; rw [add_block]; exact hn220_1) | exact hn220_1) (.int .i64 ((rd_T32 l0 x3_1).f1))).trans hx220_1
                            replace hx220_2 := (cell_far (p := ⟨gb219, 1, none⟩) (by first | (rw [add_block]; exact hn220_1) | (show (Addr.add _ _).block ≠ _; rw [add_block]; exact hn220_1) | exact hn220_1) (.int .i64 ((rd_T32 l0 x3_1).f1))).trans hx220_2
                            replace hx220_3 := (cell_far (p := ⟨gb219, 1, none⟩) (by first | (rw [add_block]; exact hn220_1) | (show (Addr.add _ _).block ≠ _; rw [add_block]; exact hn220_1) | exact hn220_1) (.int .i64 ((rd_T32 l0 x3_1).f1))).trans hx220_3
                            replace hx220_0 := (cell_far (p := ⟨gb219, 2, none⟩) (by first | (rw [add_block]; exact hn220_2) | (show (Addr.add _ _).block ≠ _; rw [add_block]; exact hn220_2) | exact hn220_2) (.int .i64 ((rd_T32 l0 x3_1).f2.f0))).trans hx220_0
                            replace hx220_1 := (cell_far (p := ⟨gb219, 2, none⟩) (by first | (rw [add_block]; exact hn220_2) | (show (Addr.add _ _).block ≠ _; rw [add_block]; exact hn220_2) | exact hn220_2) (.int .i64 ((rd_T32 l0 x3_1).f2.f0))).trans hx220_1
                            replace hx220_2 := (cell_far (p := ⟨gb219, 2, none⟩) (by first | (rw [add_block]; exact hn220_2) | (show (Addr.add _ _).block ≠ _; rw [add_block]; exact hn220_2) | exact hn220_2) (.int .i64 ((rd_T32 l0 x3_1).f2.f0))).trans hx220_2
                            replace hx220_3 := (cell_far (p := ⟨gb219, 2, none⟩) (by first | (rw [add_block]; exact hn220_2) | (show (Addr.add _ _).block ≠ _; rw [add_block]; exact hn220_2) | exact hn220_2) (.int .i64 ((rd_T32 l0 x3_1).f2.f0))).trans hx220_3
                            replace hx220_0 := (cell_far (p := ⟨gb219, 3, none⟩) (by first | (rw [add_block]; exact hn220_3) | (show (Addr.add _ _).block ≠ _; rw [add_block]; exact hn220_3) | exact hn220_3) (.int .i64 ((rd_T32 l0 x3_1).f2.f1))).trans hx220_0
                            replace hx220_1 := (cell_far (p := ⟨gb219, 3, none⟩) (by first | (rw [add_block]; exact hn220_3) | (show (Addr.add _ _).block ≠ _; rw [add_block]; exact hn220_3) | exact hn220_3) (.int .i64 ((rd_T32 l0 x3_1).f2.f1))).trans hx220_1
                            replace hx220_2 := (cell_far (p := ⟨gb219, 3, none⟩) (by first | (rw [add_block]; exact hn220_3) | (show (Addr.add _ _).block ≠ _; rw [add_block]; exact hn220_3) | exact hn220_3) (.int .i64 ((rd_T32 l0 x3_1).f2.f1))).trans hx220_2
                            replace hx220_3 := (cell_far (p := ⟨gb219, 3, none⟩) (by first | (rw [add_block]; exact hn220_3) | (show (Addr.add _ _).block ≠ _; rw [add_block]; exact hn220_3) | exact hn220_3) (.int .i64 ((rd_T32 l0 x3_1).f2.f1))).trans hx220_3
                            (try have hy220_0 := fun (n_ : Nat) => (show ((((((w5.drewN n_).setCell ⟨gb219, 0, none⟩ (.string ((rd_T32 l0 x3_1).f0))).setCell ⟨gb219, 1, none⟩ (.int .i64 ((rd_T32 l0 x3_1).f1))).setCell ⟨gb219, 2, none⟩ (.int .i64 ((rd_T32 l0 x3_1).f2.f0))).setCell ⟨gb219, 3, none⟩ (.int .i64 ((rd_T32 l0 x3_1).f2.f1)))).cell? _ = some _ from hx220_0))
                            (try have hy220_1 := fun (n_ : Nat) => (show ((((((w5.drewN n_).setCell ⟨gb219, 0, none⟩ (.string ((rd_T32 l0 x3_1).f0))).setCell ⟨gb219, 1, none⟩ (.int .i64 ((rd_T32 l0 x3_1).f1))).setCell ⟨gb219, 2, none⟩ (.int .i64 ((rd_T32 l0 x3_1).f2.f0))).setCell ⟨gb219, 3, none⟩ (.int .i64 ((rd_T32 l0 x3_1).f2.f1)))).cell? _ = some _ from hx220_1))
                            (try have hy220_2 := fun (n_ : Nat) => (show ((((((w5.drewN n_).setCell ⟨gb219, 0, none⟩ (.string ((rd_T32 l0 x3_1).f0))).setCell ⟨gb219, 1, none⟩ (.int .i64 ((rd_T32 l0 x3_1).f1))).setCell ⟨gb219, 2, none⟩ (.int .i64 ((rd_T32 l0 x3_1).f2.f0))).setCell ⟨gb219, 3, none⟩ (.int .i64 ((rd_T32 l0 x3_1).f2.f1)))).cell? _ = some _ from hx220_2))
                            (try have hy220_3 := fun (n_ : Nat) => (show ((((((w5.drewN n_).setCell ⟨gb219, 0, none⟩ (.string ((rd_T32 l0 x3_1).f0))).setCell ⟨gb219, 1, none⟩ (.int .i64 ((rd_T32 l0 x3_1).f1))).setCell ⟨gb219, 2, none⟩ (.int .i64 ((rd_T32 l0 x3_1).f2.f0))).setCell ⟨gb219, 3, none⟩ (.int .i64 ((rd_T32 l0 x3_1).f2.f1)))).cell? _ = some _ from hx220_3))
                            clear hn220_0
                            clear hn220_1
                            clear hn220_2
                            clear hn220_3
                            replace p220 := eq_true p220
                            replace q220 := eq_true q220
                            go_wp2
                            repeat (go_quiet (fail); try go_wp2)
                            go_meet
                            case rel => exact ⟨_, (true), (by first | rfl | (simp; done) | (simp [*]; done)), H', ⟨by have := HK1.out; first | omega | exact Nat.le_refl _⟩, ⟨by (with_reducible repeat (first | refine blk_drewN ?_ _ | refine blk_drew ?_ | refine blk_alloc ?_ _)); refine blk_put (cs := #[.string ((rd_T32 l0 x3_1).f0), .int .i64 ((rd_T32 l0 x3_1).f1), .int .i64 ((rd_T32 l0 x3_1).f2.f0), .int .i64 0]) ?_ 3 _ rfl; (with_reducible repeat (first | refine blk_drewN ?_ _ | refine blk_drew ?_ | refine blk_alloc ?_ _)); refine blk_put (cs := #[.string ((rd_T32 l0 x3_1).f0), .int .i64 ((rd_T32 l0 x3_1).f1), .int .i64 0, .int .i64 0]) ?_ 2 _ rfl; (with_reducible repeat (first | refine blk_drewN ?_ _ | refine blk_drew ?_ | refine blk_alloc ?_ _)); refine blk_put (cs := #[.string ((rd_T32 l0 x3_1).f0), .int .i64 0, .int .i64 0, .int .i64 0]) ?_ 1 _ rfl; (with_reducible repeat (first | refine blk_drewN ?_ _ | refine blk_drew ?_ | refine blk_alloc ?_ _)); refine blk_put (cs := #[.string (⟨#[]⟩ : ByteArray), .int .i64 0, .int .i64 0, .int .i64 0]) ?_ 0 _ rfl; (with_reducible repeat (first | refine blk_drewN ?_ _ | refine blk_drew ?_ | refine blk_alloc ?_ _)); exact BK219.out⟩, ⟨by repeat (first | (with_reducible first | exact HB.out | apply below_alloc | apply pw_below_drewN | apply below_drew1 | refine below_set ?_ GE219.out) | exact HB.out)⟩⟩
                          · rw [if_neg c18] at H
                            have c18b0 : decide (65536 < ((rd_T32 l0 x3_1).f1)) = false := decide_eq_false c18
                            clear c18
                            have H' := Aside0.mk H
                            clear H
                            have hcz20_0 : w5.cell? ⟨gb219, 0, none⟩ = some (.string (⟨#[]⟩ : ByteArray)) := (blk_cell BK219.out 0).trans rfl
                            have hcz20_1 : w5.cell? ⟨gb219, 1, none⟩ = some (.int .i64 0) := (blk_cell BK219.out 1).trans rfl
                            have hcz20_2 : w5.cell? ⟨gb219, 2, none⟩ = some (.int .i64 0) := (blk_cell BK219.out 2).trans rfl
                            have hcz20_3 : w5.cell? ⟨gb219, 3, none⟩ = some (.int .i64 0) := (blk_cell BK219.out 3).trans rfl
                            have hfz20_0 := blk_frozen BK219.out 0
                            have hfz20_1 := blk_frozen BK219.out 1
                            have hfz20_2 := blk_frozen BK219.out 2
                            have hfz20_3 := blk_frozen BK219.out 3
                            have p220 : 0 ≤ ((ji12) : Int) := of_decide_eq_true (by first | (with_reducible assumption) | assumption)
                            have q220 : (ji12) < (l0.length : Int) := of_decide_eq_true (by first | (with_reducible assumption) | assumption)
                            obtain ⟨ad220, e220, hx220_0, hx220_1, hx220_2, hx220_3⟩ := at_T32 HR0.out (ji12) p220 q220
                            obtain rfl : ad218 = ad220 := (by injection e220)
                            have hn220_0 : ad218.block ≠ gb219 := Nat.ne_of_lt (Nat.lt_of_lt_of_le (by have := World.block_lt_of_cell? _ _ hx220_0; first | rwa [add_block] at this | exact this) GW219.out)
                            have hn220_1 : ad218.block ≠ gb219 := Nat.ne_of_lt (Nat.lt_of_lt_of_le (by have := World.block_lt_of_cell? _ _ hx220_0; first | rwa [add_block] at this | exact this) GW219.out)
                            have hn220_2 : ad218.block ≠ gb219 := Nat.ne_of_lt (Nat.lt_of_lt_of_le (by have := World.block_lt_of_cell? _ _ hx220_0; first | rwa [add_block] at this | exact this) GW219.out)
                            have hn220_3 : ad218.block ≠ gb219 := Nat.ne_of_lt (Nat.lt_of_lt_of_le (by have := World.block_lt_of_cell? _ _ hx220_0; first | rwa [add_block] at this | exact this) GW219.out)
                            replace hx220_0 := (HB.out.cell (World.block_lt_of_cell? w _ hx220_0)).trans hx220_0
                            replace hx220_1 := (HB.out.cell (World.block_lt_of_cell? w _ hx220_1)).trans hx220_1
                            replace hx220_2 := (HB.out.cell (World.block_lt_of_cell? w _ hx220_2)).trans hx220_2
                            replace hx220_3 := (HB.out.cell (World.block_lt_of_cell? w _ hx220_3)).trans hx220_3
                            replace hx220_0 := (cell_far (p := ⟨gb219, 0, none⟩) (by first | (rw [add_block]; exact hn220_0) | (show (Addr.add _ _).block ≠ _; rw [add_block]; exact hn220_0) | exact hn220_0) (.string ((rd_T32 l0 x3_1).f0))).trans hx220_0
                            replace hx220_1 := (cell_far (p := ⟨gb219, 0, none⟩) (by first | (rw [add_block]; exact hn220_0) | (show (Addr.add _ _).block ≠ _; rw [add_block]; exact hn220_0) | exact hn220_0) (.string ((rd_T32 l0 x3_1).f0))).trans hx220_1
                            replace hx220_2 := (cell_far (p := ⟨gb219, 0, none⟩) (by first | (rw [add_block]; exact hn220_0) | (show (Addr.add _ _).block ≠ _; rw [add_block]; exact hn220_0) | exact hn220_0) (.string ((rd_T32 l0 x3_1).f0))).trans hx220_2
                            replace hx220_3 := (cell_far (p := ⟨gb219, 0, none⟩) (by first | (rw [add_block]; exact hn220_0) | (show (Addr.add _ _).block ≠ _; rw [add_block]; exact hn220_0) | exact hn220_0) (.string ((rd_T32 l0 x3_1).f0))).trans hx220_3
                            replace hx220_0 := (cell_far (p := ⟨gb219, 1, none⟩) (by first | (rw [add_block]; exact hn220_1) | (show (Addr.add _ _).block ≠ _; rw [add_block]; exact hn220_1) | exact hn220_1) (.int .i64 ((rd_T32 l0 x3_1).f1))).trans hx220_0
                            replace hx220_1 := (cell_far (p := ⟨gb219, 1, none⟩) (by first | (rw [add_block]; exact hn220_1) | (show (Addr.add _ _).block ≠ _; rw [add_block]; exact hn220_1) | exact hn220_1) (.int .i64 ((rd_T32 l0 x3_1).f1))).trans hx220_1
                            replace hx220_2 := (cell_far (p := ⟨gb219, 1, none⟩) (by first | (rw [add_block]; exact hn220_1) | (show (Addr.add _ _).block ≠ _; rw [add_block]; exact hn220_1) | exact hn220_1) (.int .i64 ((rd_T32 l0 x3_1).f1))).trans hx220_2
                            replace hx220_3 := (cell_far (p := ⟨gb219, 1, none⟩) (by first | (rw [add_block]; exact hn220_1) | (show (Addr.add _ _).block ≠ _; rw [add_block]; exact hn220_1) | exact hn220_1) (.int .i64 ((rd_T32 l0 x3_1).f1))).trans hx220_3
                            replace hx220_0 := (cell_far (p := ⟨gb219, 2, none⟩) (by first | (rw [add_block]; exact hn220_2) | (show (Addr.add _ _).block ≠ _; rw [add_block]; exact hn220_2) | exact hn220_2) (.int .i64 ((rd_T32 l0 x3_1).f2.f0))).trans hx220_0
                            replace hx220_1 := (cell_far (p := ⟨gb219, 2, none⟩) (by first | (rw [add_block]; exact hn220_2) | (show (Addr.add _ _).block ≠ _; rw [add_block]; exact hn220_2) | exact hn220_2) (.int .i64 ((rd_T32 l0 x3_1).f2.f0))).trans hx220_1
                            replace hx220_2 := (cell_far (p := ⟨gb219, 2, none⟩) (by first | (rw [add_block]; exact hn220_2) | (show (Addr.add _ _).block ≠ _; rw [add_block]; exact hn220_2) | exact hn220_2) (.int .i64 ((rd_T32 l0 x3_1).f2.f0))).trans hx220_2
                            replace hx220_3 := (cell_far (p := ⟨gb219, 2, none⟩) (by first | (rw [add_block]; exact hn220_2) | (show (Addr.add _ _).block ≠ _; rw [add_block]; exact hn220_2) | exact hn220_2) (.int .i64 ((rd_T32 l0 x3_1).f2.f0))).trans hx220_3
                            replace hx220_0 := (cell_far (p := ⟨gb219, 3, none⟩) (by first | (rw [add_block]; exact hn220_3) | (show (Addr.add _ _).block ≠ _; rw [add_block]; exact hn220_3) | exact hn220_3) (.int .i64 ((rd_T32 l0 x3_1).f2.f1))).trans hx220_0
                            replace hx220_1 := (cell_far (p := ⟨gb219, 3, none⟩) (by first | (rw [add_block]; exact hn220_3) | (show (Addr.add _ _).block ≠ _; rw [add_block]; exact hn220_3) | exact hn220_3) (.int .i64 ((rd_T32 l0 x3_1).f2.f1))).trans hx220_1
                            replace hx220_2 := (cell_far (p := ⟨gb219, 3, none⟩) (by first | (rw [add_block]; exact hn220_3) | (show (Addr.add _ _).block ≠ _; rw [add_block]; exact hn220_3) | exact hn220_3) (.int .i64 ((rd_T32 l0 x3_1).f2.f1))).trans hx220_2
                            replace hx220_3 := (cell_far (p := ⟨gb219, 3, none⟩) (by first | (rw [add_block]; exact hn220_3) | (show (Addr.add _ _).block ≠ _; rw [add_block]; exact hn220_3) | exact hn220_3) (.int .i64 ((rd_T32 l0 x3_1).f2.f1))).trans hx220_3
                            (try have hy220_0 := fun (n_ : Nat) => (show ((((((w5.drewN n_).setCell ⟨gb219, 0, none⟩ (.string ((rd_T32 l0 x3_1).f0))).setCell ⟨gb219, 1, none⟩ (.int .i64 ((rd_T32 l0 x3_1).f1))).setCell ⟨gb219, 2, none⟩ (.int .i64 ((rd_T32 l0 x3_1).f2.f0))).setCell ⟨gb219, 3, none⟩ (.int .i64 ((rd_T32 l0 x3_1).f2.f1)))).cell? _ = some _ from hx220_0))
                            (try have hy220_1 := fun (n_ : Nat) => (show ((((((w5.drewN n_).setCell ⟨gb219, 0, none⟩ (.string ((rd_T32 l0 x3_1).f0))).setCell ⟨gb219, 1, none⟩ (.int .i64 ((rd_T32 l0 x3_1).f1))).setCell ⟨gb219, 2, none⟩ (.int .i64 ((rd_T32 l0 x3_1).f2.f0))).setCell ⟨gb219, 3, none⟩ (.int .i64 ((rd_T32 l0 x3_1).f2.f1)))).cell? _ = some _ from hx220_1))
                            (try have hy220_2 := fun (n_ : Nat) => (show ((((((w5.drewN n_).setCell ⟨gb219, 0, none⟩ (.string ((rd_T32 l0 x3_1).f0))).setCell ⟨gb219, 1, none⟩ (.int .i64 ((rd_T32 l0 x3_1).f1))).setCell ⟨gb219, 2, none⟩ (.int .i64 ((rd_T32 l0 x3_1).f2.f0))).setCell ⟨gb219, 3, none⟩ (.int .i64 ((rd_T32 l0 x3_1).f2.f1)))).cell? _ = some _ from hx220_2))
                            (try have hy220_3 := fun (n_ : Nat) => (show ((((((w5.drewN n_).setCell ⟨gb219, 0, none⟩ (.string ((rd_T32 l0 x3_1).f0))).setCell ⟨gb219, 1, none⟩ (.int .i64 ((rd_T32 l0 x3_1).f1))).setCell ⟨gb219, 2, none⟩ (.int .i64 ((rd_T32 l0 x3_1).f2.f0))).setCell ⟨gb219, 3, none⟩ (.int .i64 ((rd_T32 l0 x3_1).f2.f1)))).cell? _ = some _ from hx220_3))
                            clear hn220_0
                            clear hn220_1
                            clear hn220_2
                            clear hn220_3
                            replace p220 := eq_true p220
                            replace q220 := eq_true q220
                            go_wp2
                            repeat (go_quiet (fail); try go_wp2)
                            go_meet
                            case rel => exact ⟨_, ((((rd_T32 l0 x3_1).f2.f1) != (wrap64 (Int.tdiv (wrap64 (((rd_T32 l0 x3_1).f1) + 63)) 64)))), (by first | rfl | (simp; done) | (simp [*]; done)), H', ⟨by have := HK1.out; first | omega | exact Nat.le_refl _⟩, ⟨by (with_reducible repeat (first | refine blk_drewN ?_ _ | refine blk_drew ?_ | refine blk_alloc ?_ _)); refine blk_put (cs := #[.string ((rd_T32 l0 x3_1).f0), .int .i64 ((rd_T32 l0 x3_1).f1), .int .i64 ((rd_T32 l0 x3_1).f2.f0), .int .i64 0]) ?_ 3 _ rfl; (with_reducible repeat (first | refine blk_drewN ?_ _ | refine blk_drew ?_ | refine blk_alloc ?_ _)); refine blk_put (cs := #[.string ((rd_T32 l0 x3_1).f0), .int .i64 ((rd_T32 l0 x3_1).f1), .int .i64 0, .int .i64 0]) ?_ 2 _ rfl; (with_reducible repeat (first | refine blk_drewN ?_ _ | refine blk_drew ?_ | refine blk_alloc ?_ _)); refine blk_put (cs := #[.string ((rd_T32 l0 x3_1).f0), .int .i64 0, .int .i64 0, .int .i64 0]) ?_ 1 _ rfl; (with_reducible repeat (first | refine blk_drewN ?_ _ | refine blk_drew ?_ | refine blk_alloc ?_ _)); refine blk_put (cs := #[.string (⟨#[]⟩ : ByteArray), .int .i64 0, .int .i64 0, .int .i64 0]) ?_ 0 _ rfl; (with_reducible repeat (first | refine blk_drewN ?_ _ | refine blk_drew ?_ | refine blk_alloc ?_ _)); exact BK219.out⟩, ⟨by repeat (first | (with_reducible first | exact HB.out | apply below_alloc | apply pw_below_drewN | apply below_drew1 | refine below_set ?_ GE219.out) | exact HB.out)⟩⟩
                      · rw [if_neg c15] at H
                        have c15b0 : (Op.bytesLess (((rd_T32 l0 (ji12)).f0).toList) (((rd_T32 l0 x3_1).f0).toList)) = false := by simpa using c15
                        clear c15
                        have H' := Aside0.mk H
                        clear H
                        have hcz21_0 : w5.cell? ⟨gb219, 0, none⟩ = some (.string (⟨#[]⟩ : ByteArray)) := (blk_cell BK219.out 0).trans rfl
                        have hcz21_1 : w5.cell? ⟨gb219, 1, none⟩ = some (.int .i64 0) := (blk_cell BK219.out 1).trans rfl
                        have hcz21_2 : w5.cell? ⟨gb219, 2, none⟩ = some (.int .i64 0) := (blk_cell BK219.out 2).trans rfl
                        have hcz21_3 : w5.cell? ⟨gb219, 3, none⟩ = some (.int .i64 0) := (blk_cell BK219.out 3).trans rfl
                        have hfz21_0 := blk_frozen BK219.out 0
                        have hfz21_1 := blk_frozen BK219.out 1
                        have hfz21_2 := blk_frozen BK219.out 2
                        have hfz21_3 := blk_frozen BK219.out 3
                        have p220 : 0 ≤ ((ji12) : Int) := of_decide_eq_true (by first | (with_reducible assumption) | assumption)
                        have q220 : (ji12) < (l0.length : Int) := of_decide_eq_true (by first | (with_reducible assumption) | assumption)
                        obtain ⟨ad220, e220, hx220_0, hx220_1, hx220_2, hx220_3⟩ := at_T32 HR0.out (ji12) p220 q220
                        obtain rfl : ad218 = ad220 := (by injection e220)
                        have hn220_0 : ad218.block ≠ gb219 := Nat.ne_of_lt (Nat.lt_of_lt_of_le (by have := World.block_lt_of_cell? _ _ hx220_0; first | rwa [add_block] at this | exact this) GW219.out)
                        have hn220_1 : ad218.block ≠ gb219 := Nat.ne_of_lt (Nat.lt_of_lt_of_le (by have := World.block_lt_of_cell? _ _ hx220_0; first | rwa [add_block] at this | exact this) GW219.out)
                        have hn220_2 : ad218.block ≠ gb219 := Nat.ne_of_lt (Nat.lt_of_lt_of_le (by have := World.block_lt_of_cell? _ _ hx220_0; first | rwa [add_block] at this | exact this) GW219.out)
                        have hn220_3 : ad218.block ≠ gb219 := Nat.ne_of_lt (Nat.lt_of_lt_of_le (by have := World.block_lt_of_cell? _ _ hx220_0; first | rwa [add_block] at this | exact this) GW219.out)
                        replace hx220_0 := (HB.out.cell (World.block_lt_of_cell? w _ hx220_0)).trans hx220_0
                        replace hx220_1 := (HB.out.cell (World.block_lt_of_cell? w _ hx220_1)).trans hx220_1
                        replace hx220_2 := (HB.out.cell (World.block_lt_of_cell? w _ hx220_2)).trans hx220_2
                        replace hx220_3 := (HB.out.cell (World.block_lt_of_cell? w _ hx220_3)).trans hx220_3
                        replace hx220_0 := (cell_far (p := ⟨gb219, 0, none⟩) (by first | (rw [add_block]; exact hn220_0) | (show (Addr.add _ _).block ≠ _; rw [add_block]; exact hn220_0) | exact hn220_0) (.string ((rd_T32 l0 x3_1).f0))).trans hx220_0
                        replace hx220_1 := (cell_far (p := ⟨gb219, 0, none⟩) (by first | (rw [add_block]; exact hn220_0) | (show (Addr.add _ _).block ≠ _; rw [add_block]; exact hn220_0) | exact hn220_0) (.string ((rd_T32 l0 x3_1).f0))).trans hx220_1
                        replace hx220_2 := (cell_far (p := ⟨gb219, 0, none⟩) (by first | (rw [add_block]; exact hn220_0) | (show (Addr.add _ _).block ≠ _; rw [add_block]; exact hn220_0) | exact hn220_0) (.string ((rd_T32 l0 x3_1).f0))).trans hx220_2
                        replace hx220_3 := (cell_far (p := ⟨gb219, 0, none⟩) (by first | (rw [add_block]; exact hn220_0) | (show (Addr.add _ _).block ≠ _; rw [add_block]; exact hn220_0) | exact hn220_0) (.string ((rd_T32 l0 x3_1).f0))).trans hx220_3
                        replace hx220_0 := (cell_far (p := ⟨gb219, 1, none⟩) (by first | (rw [add_block]; exact hn220_1) | (show (Addr.add _ _).block ≠ _; rw [add_block]; exact hn220_1) | exact hn220_1) (.int .i64 ((rd_T32 l0 x3_1).f1))).trans hx220_0
                        replace hx220_1 := (cell_far (p := ⟨gb219, 1, none⟩) (by first | (rw [add_block]; exact hn220_1) | (show (Addr.add _ _).block ≠ _; rw [add_block]; exact hn220_1) | exact hn220_1) (.int .i64 ((rd_T32 l0 x3_1).f1))).trans hx220_1
                        replace hx220_2 := (cell_far (p := ⟨gb219, 1, none⟩) (by first | (rw [add_block]; exact hn220_1) | (show (Addr.add _ _).block ≠ _; rw [add_block]; exact hn220_1) | exact hn220_1) (.int .i64 ((rd_T32 l0 x3_1).f1))).trans hx220_2
                        replace hx220_3 := (cell_far (p := ⟨gb219, 1, none⟩) (by first | (rw [add_block]; exact hn220_1) | (show (Addr.add _ _).block ≠ _; rw [add_block]; exact hn220_1) | exact hn220_1) (.int .i64 ((rd_T32 l0 x3_1).f1))).trans hx220_3
                        replace hx220_0 := (cell_far (p := ⟨gb219, 2, none⟩) (by first | (rw [add_block]; exact hn220_2) | (show (Addr.add _ _).block ≠ _; rw [add_block]; exact hn220_2) | exact hn220_2) (.int .i64 ((rd_T32 l0 x3_1).f2.f0))).trans hx220_0
                        replace hx220_1 := (cell_far (p := ⟨gb219, 2, none⟩) (by first | (rw [add_block]; exact hn220_2) | (show (Addr.add _ _).block ≠ _; rw [add_block]; exact hn220_2) | exact hn220_2) (.int .i64 ((rd_T32 l0 x3_1).f2.f0))).trans hx220_1
                        replace hx220_2 := (cell_far (p := ⟨gb219, 2, none⟩) (by first | (rw [add_block]; exact hn220_2) | (show (Addr.add _ _).block ≠ _; rw [add_block]; exact hn220_2) | exact hn220_2) (.int .i64 ((rd_T32 l0 x3_1).f2.f0))).trans hx220_2
                        replace hx220_3 := (cell_far (p := ⟨gb219, 2, none⟩) (by first | (rw [add_block]; exact hn220_2) | (show (Addr.add _ _).block ≠ _; rw [add_block]; exact hn220_2) | exact hn220_2) (.int .i64 ((rd_T32 l0 x3_1).f2.f0))).trans hx220_3
                        replace hx220_0 := (cell_far (p := ⟨gb219, 3, none⟩) (by first | (rw [add_block]; exact hn220_3) | (show (Addr.add _ _).block ≠ _; rw [add_block]; exact hn220_3) | exact hn220_3) (.int .i64 ((rd_T32 l0 x3_1).f2.f1))).trans hx220_0
                        replace hx220_1 := (cell_far (p := ⟨gb219, 3, none⟩) (by first | (rw [add_block]; exact hn220_3) | (show (Addr.add _ _).block ≠ _; rw [add_block]; exact hn220_3) | exact hn220_3) (.int .i64 ((rd_T32 l0 x3_1).f2.f1))).trans hx220_1
                        replace hx220_2 := (cell_far (p := ⟨gb219, 3, none⟩) (by first | (rw [add_block]; exact hn220_3) | (show (Addr.add _ _).block ≠ _; rw [add_block]; exact hn220_3) | exact hn220_3) (.int .i64 ((rd_T32 l0 x3_1).f2.f1))).trans hx220_2
                        replace hx220_3 := (cell_far (p := ⟨gb219, 3, none⟩) (by first | (rw [add_block]; exact hn220_3) | (show (Addr.add _ _).block ≠ _; rw [add_block]; exact hn220_3) | exact hn220_3) (.int .i64 ((rd_T32 l0 x3_1).f2.f1))).trans hx220_3
                        (try have hy220_0 := fun (n_ : Nat) => (show ((((((w5.drewN n_).setCell ⟨gb219, 0, none⟩ (.string ((rd_T32 l0 x3_1).f0))).setCell ⟨gb219, 1, none⟩ (.int .i64 ((rd_T32 l0 x3_1).f1))).setCell ⟨gb219, 2, none⟩ (.int .i64 ((rd_T32 l0 x3_1).f2.f0))).setCell ⟨gb219, 3, none⟩ (.int .i64 ((rd_T32 l0 x3_1).f2.f1)))).cell? _ = some _ from hx220_0))
                        (try have hy220_1 := fun (n_ : Nat) => (show ((((((w5.drewN n_).setCell ⟨gb219, 0, none⟩ (.string ((rd_T32 l0 x3_1).f0))).setCell ⟨gb219, 1, none⟩ (.int .i64 ((rd_T32 l0 x3_1).f1))).setCell ⟨gb219, 2, none⟩ (.int .i64 ((rd_T32 l0 x3_1).f2.f0))).setCell ⟨gb219, 3, none⟩ (.int .i64 ((rd_T32 l0 x3_1).f2.f1)))).cell? _ = some _ from hx220_1))
                        (try have hy220_2 := fun (n_ : Nat) => (show ((((((w5.drewN n_).setCell ⟨gb219, 0, none⟩ (.string ((rd_T32 l0 x3_1).f0))).setCell ⟨gb219, 1, none⟩ (.int .i64 ((rd_T32 l0 x3_1).f1))).setCell ⟨gb219, 2, none⟩ (.int .i64 ((rd_T32 l0 x3_1).f2.f0))).setCell ⟨gb219, 3, none⟩ (.int .i64 ((rd_T32 l0 x3_1).f2.f1)))).cell? _ = some _ from hx220_2))
                        (try have hy220_3 := fun (n_ : Nat) => (show ((((((w5.drewN n_).setCell ⟨gb219, 0, none⟩ (.string ((rd_T32 l0 x3_1).f0))).setCell ⟨gb219, 1, none⟩ (.int .i64 ((rd_T32 l0 x3_1).f1))).setCell ⟨gb219, 2, none⟩ (.int .i64 ((rd_T32 l0 x3_1).f2.f0))).setCell ⟨gb219, 3, none⟩ (.int .i64 ((rd_T32 l0 x3_1).f2.f1)))).cell? _ = some _ from hx220_3))
                        clear hn220_0
                        clear hn220_1
                        clear hn220_2
                        clear hn220_3
                        replace p220 := eq_true p220
                        replace q220 := eq_true q220
                        go_wp2
                        repeat (go_quiet (fail); try go_wp2)
                        go_meet
                        case rel => exact ⟨_, (true), (by first | rfl | (simp; done) | (simp [*]; done)), H', ⟨by have := HK1.out; first | omega | exact Nat.le_refl _⟩, ⟨by (with_reducible repeat (first | refine blk_drewN ?_ _ | refine blk_drew ?_ | refine blk_alloc ?_ _)); refine blk_put (cs := #[.string ((rd_T32 l0 x3_1).f0), .int .i64 ((rd_T32 l0 x3_1).f1), .int .i64 ((rd_T32 l0 x3_1).f2.f0), .int .i64 0]) ?_ 3 _ rfl; (with_reducible repeat (first | refine blk_drewN ?_ _ | refine blk_drew ?_ | refine blk_alloc ?_ _)); refine blk_put (cs := #[.string ((rd_T32 l0 x3_1).f0), .int .i64 ((rd_T32 l0 x3_1).f1), .int .i64 0, .int .i64 0]) ?_ 2 _ rfl; (with_reducible repeat (first | refine blk_drewN ?_ _ | refine blk_drew ?_ | refine blk_alloc ?_ _)); refine blk_put (cs := #[.string ((rd_T32 l0 x3_1).f0), .int .i64 0, .int .i64 0, .int .i64 0]) ?_ 1 _ rfl; (with_reducible repeat (first | refine blk_drewN ?_ _ | refine blk_drew ?_ | refine blk_alloc ?_ _)); refine blk_put (cs := #[.string (⟨#[]⟩ : ByteArray), .int .i64 0, .int .i64 0, .int .i64 0]) ?_ 0 _ rfl; (with_reducible repeat (first | refine blk_drewN ?_ _ | refine blk_drew ?_ | refine blk_alloc ?_ _)); exact BK219.out⟩, ⟨by repeat (first | (with_reducible first | exact HB.out | apply below_alloc | apply pw_below_drewN | apply below_drew1 | refine below_set ?_ GE219.out) | exact HB.out)⟩⟩
                    · rw [if_neg c14] at H
                      exact absurd H (by simp)
                  · rw [if_neg c13] at H
                    exact absurd H (by simp)
                · rw [if_neg c11] at H
                  have c11b0 : decide (0 < x3_1) = false := decide_eq_false c11
                  clear c11
                  by_cases c22 : ((rd_T32 l0 x3_1).f1) < 0
                  · rw [if_pos c22] at H
                    have c22b0 : decide (((rd_T32 l0 x3_1).f1) < 0) = true := decide_eq_true c22
                    clear c22
                    have H' := Aside0.mk H
                    clear H
                    have hcz23_0 : w5.cell? ⟨gb219, 0, none⟩ = some (.string (⟨#[]⟩ : ByteArray)) := (blk_cell BK219.out 0).trans rfl
                    have hcz23_1 : w5.cell? ⟨gb219, 1, none⟩ = some (.int .i64 0) := (blk_cell BK219.out 1).trans rfl
                    have hcz23_2 : w5.cell? ⟨gb219, 2, none⟩ = some (.int .i64 0) := (blk_cell BK219.out 2).trans rfl
                    have hcz23_3 : w5.cell? ⟨gb219, 3, none⟩ = some (.int .i64 0) := (blk_cell BK219.out 3).trans rfl
                    have hfz23_0 := blk_frozen BK219.out 0
                    have hfz23_1 := blk_frozen BK219.out 1
                    have hfz23_2 := blk_frozen BK219.out 2
                    have hfz23_3 := blk_frozen BK219.out 3
                    go_wp2
                    repeat (go_quiet (fail); try go_wp2)
                    go_meet
                    case rel => exact ⟨_, (true), (by first | rfl | (simp; done) | (simp [*]; done)), H', ⟨by have := HK1.out; first | omega | exact Nat.le_refl _⟩, ⟨by (with_reducible repeat (first | refine blk_drewN ?_ _ | refine blk_drew ?_ | refine blk_alloc ?_ _)); refine blk_put (cs := #[.string ((rd_T32 l0 x3_1).f0), .int .i64 ((rd_T32 l0 x3_1).f1), .int .i64 ((rd_T32 l0 x3_1).f2.f0), .int .i64 0]) ?_ 3 _ rfl; (with_reducible repeat (first | refine blk_drewN ?_ _ | refine blk_drew ?_ | refine blk_alloc ?_ _)); refine blk_put (cs := #[.string ((rd_T32 l0 x3_1).f0), .int .i64 ((rd_T32 l0 x3_1).f1), .int .i64 0, .int .i64 0]) ?_ 2 _ rfl; (with_reducible repeat (first | refine blk_drewN ?_ _ | refine blk_drew ?_ | refine blk_alloc ?_ _)); refine blk_put (cs := #[.string ((rd_T32 l0 x3_1).f0), .int .i64 0, .int .i64 0, .int .i64 0]) ?_ 1 _ rfl; (with_reducible repeat (first | refine blk_drewN ?_ _ | refine blk_drew ?_ | refine blk_alloc ?_ _)); refine blk_put (cs := #[.string (⟨#[]⟩ : ByteArray), .int .i64 0, .int .i64 0, .int .i64 0]) ?_ 0 _ rfl; (with_reducible repeat (first | refine blk_drewN ?_ _ | refine blk_drew ?_ | refine blk_alloc ?_ _)); exact BK219.out⟩, ⟨by repeat (first | (with_reducible first | exact HB.out | apply below_alloc | apply pw_below_drewN | apply below_drew1 | refine below_set ?_ GE219.out) | exact HB.out)⟩⟩
                  · rw [if_neg c22] at H
                    have c22b0 : decide (((rd_T32 l0 x3_1).f1) < 0) = false := decide_eq_false c22
                    clear c22
                    by_cases c24 : ((rd_T32 l0 x3_1).f1) > 65536
                    · rw [if_pos c24] at H
                      have c24b0 : decide (65536 < ((rd_T32 l0 x3_1).f1)) = true := decide_eq_true c24
                      clear c24
                      have H' := Aside0.mk H
                      clear H
                      have hcz25_0 : w5.cell? ⟨gb219, 0, none⟩ = some (.string (⟨#[]⟩ : ByteArray)) := (blk_cell BK219.out 0).trans rfl
                      have hcz25_1 : w5.cell? ⟨gb219, 1, none⟩ = some (.int .i64 0) := (blk_cell BK219.out 1).trans rfl
                      have hcz25_2 : w5.cell? ⟨gb219, 2, none⟩ = some (.int .i64 0) := (blk_cell BK219.out 2).trans rfl
                      have hcz25_3 : w5.cell? ⟨gb219, 3, none⟩ = some (.int .i64 0) := (blk_cell BK219.out 3).trans rfl
                      have hfz25_0 := blk_frozen BK219.out 0
                      have hfz25_1 := blk_frozen BK219.out 1
                      have hfz25_2 := blk_frozen BK219.out 2
                      have hfz25_3 := blk_frozen BK219.out 3
                      go_wp2
                      repeat (go_quiet (fail); try go_wp2)
                      go_meet
                      case rel => exact ⟨_, (true), (by first | rfl | (simp; done) | (simp [*]; done)), H', ⟨by have := HK1.out; first | omega | exact Nat.le_refl _⟩, ⟨by (with_reducible repeat (first | refine blk_drewN ?_ _ | refine blk_drew ?_ | refine blk_alloc ?_ _)); refine blk_put (cs := #[.string ((rd_T32 l0 x3_1).f0), .int .i64 ((rd_T32 l0 x3_1).f1), .int .i64 ((rd_T32 l0 x3_1).f2.f0), .int .i64 0]) ?_ 3 _ rfl; (with_reducible repeat (first | refine blk_drewN ?_ _ | refine blk_drew ?_ | refine blk_alloc ?_ _)); refine blk_put (cs := #[.string ((rd_T32 l0 x3_1).f0), .int .i64 ((rd_T32 l0 x3_1).f1), .int .i64 0, .int .i64 0]) ?_ 2 _ rfl; (with_reducible repeat (first | refine blk_drewN ?_ _ | refine blk_drew ?_ | refine blk_alloc ?_ _)); refine blk_put (cs := #[.string ((rd_T32 l0 x3_1).f0), .int .i64 0, .int .i64 0, .int .i64 0]) ?_ 1 _ rfl; (with_reducible repeat (first | refine blk_drewN ?_ _ | refine blk_drew ?_ | refine blk_alloc ?_ _)); refine blk_put (cs := #[.string (⟨#[]⟩ : ByteArray), .int .i64 0, .int .i64 0, .int .i64 0]) ?_ 0 _ rfl; (with_reducible repeat (first | refine blk_drewN ?_ _ | refine blk_drew ?_ | refine blk_alloc ?_ _)); exact BK219.out⟩, ⟨by repeat (first | (with_reducible first | exact HB.out | apply below_alloc | apply pw_below_drewN | apply below_drew1 | refine below_set ?_ GE219.out) | exact HB.out)⟩⟩
                    · rw [if_neg c24] at H
                      have c24b0 : decide (65536 < ((rd_T32 l0 x3_1).f1)) = false := decide_eq_false c24
                      clear c24
                      have H' := Aside0.mk H
                      clear H
                      have hcz26_0 : w5.cell? ⟨gb219, 0, none⟩ = some (.string (⟨#[]⟩ : ByteArray)) := (blk_cell BK219.out 0).trans rfl
                      have hcz26_1 : w5.cell? ⟨gb219, 1, none⟩ = some (.int .i64 0) := (blk_cell BK219.out 1).trans rfl
                      have hcz26_2 : w5.cell? ⟨gb219, 2, none⟩ = some (.int .i64 0) := (blk_cell BK219.out 2).trans rfl
                      have hcz26_3 : w5.cell? ⟨gb219, 3, none⟩ = some (.int .i64 0) := (blk_cell BK219.out 3).trans rfl
                      have hfz26_0 := blk_frozen BK219.out 0
                      have hfz26_1 := blk_frozen BK219.out 1
                      have hfz26_2 := blk_frozen BK219.out 2
                      have hfz26_3 := blk_frozen BK219.out 3
                      go_wp2
                      repeat (go_quiet (fail); try go_wp2)
                      go_meet
                      case rel => exact ⟨_, ((((rd_T32 l0 x3_1).f2.f1) != (wrap64 (Int.tdiv (wrap64 (((rd_T32 l0 x3_1).f1) + 63)) 64)))), (by first | rfl | (simp; done) | (simp [*]; done)), H', ⟨by have := HK1.out; first | omega | exact Nat.le_refl _⟩, ⟨by (with_reducible repeat (first | refine blk_drewN ?_ _ | refine blk_drew ?_ | refine blk_alloc ?_ _)); refine blk_put (cs := #[.string ((rd_T32 l0 x3_1).f0), .int .i64 ((rd_T32 l0 x3_1).f1), .int .i64 ((rd_T32 l0 x3_1).f2.f0), .int .i64 0]) ?_ 3 _ rfl; (with_reducible repeat (first | refine blk_drewN ?_ _ | refine blk_drew ?_ | refine blk_alloc ?_ _)); refine blk_put (cs := #[.string ((rd_T32 l0 x3_1).f0), .int .i64 ((rd_T32 l0 x3_1).f1), .int .i64 0, .int .i64 0]) ?_ 2 _ rfl; (with_reducible repeat (first | refine blk_drewN ?_ _ | refine blk_drew ?_ | refine blk_alloc ?_ _)); refine blk_put (cs := #[.string ((rd_T32 l0 x3_1).f0), .int .i64 0, .int .i64 0, .int .i64 0]) ?_ 1 _ rfl; (with_reducible repeat (first | refine blk_drewN ?_ _ | refine blk_drew ?_ | refine blk_alloc ?_ _)); refine blk_put (cs := #[.string (⟨#[]⟩ : ByteArray), .int .i64 0, .int .i64 0, .int .i64 0]) ?_ 0 _ rfl; (with_reducible repeat (first | refine blk_drewN ?_ _ | refine blk_drew ?_ | refine blk_alloc ?_ _)); exact BK219.out⟩, ⟨by repeat (first | (with_reducible first | exact HB.out | apply below_alloc | apply pw_below_drewN | apply below_drew1 | refine below_set ?_ GE219.out) | exact HB.out)⟩⟩
          case rest =>
            clear HC4
            try clear c1
            try clear c2
            try clear c2b0
            try clear p2
            try clear q2
            try clear hx2
            try clear c3
            try clear c3b0
            try clear p6
            try clear c7
            try clear c7b0
            try clear c7b1
            try clear c9
            try clear c9b0
            try clear c9b1
            try clear c11
            try clear c11b0
            try clear c12
            try clear c13
            try clear c13b0
            try clear c14
            try clear c14b0
            try clear c15
            try clear c15b0
            try clear c16
            try clear c16b0
            try clear c18
            try clear c18b0
            try clear p21
            try clear q21
            try clear hx21
            try clear c22
            try clear c22b0
            try clear p22
            try clear q22
            try clear hx22
            try clear c24
            try clear c24b0
            try clear hcz10_0
            try clear hcz10_1
            try clear hcz10_2
            try clear hcz10_3
            try clear hcz17_0
            try clear hcz17_1
            try clear hcz17_2
            try clear hcz17_3
            try clear hcz19_0
            try clear hcz19_1
            try clear hcz19_2
            try clear hcz19_3
            try clear hcz20_0
            try clear hcz20_1
            try clear hcz20_2
            try clear hcz20_3
            try clear hcz21_0
            try clear hcz21_1
            try clear hcz21_2
            try clear hcz21_3
            try clear hcz23_0
            try clear hcz23_1
            try clear hcz23_2
            try clear hcz23_3
            try clear hcz25_0
            try clear hcz25_1
            try clear hcz25_2
            try clear hcz25_3
            try clear hcz26_0
            try clear hcz26_1
            try clear hcz26_2
            try clear hcz26_3
            try clear hcz6_0
            try clear hcz6_1
            try clear hcz6_2
            try clear hcz6_3
            try clear hcz8_0
            try clear hcz8_1
            try clear hcz8_2
            try clear hcz8_3
            try clear hfz10_0
            try clear hfz10_1
            try clear hfz10_2
            try clear hfz10_3
            try clear hfz17_0
            try clear hfz17_1
            try clear hfz17_2
            try clear hfz17_3
            try clear hfz19_0
            try clear hfz19_1
            try clear hfz19_2
            try clear hfz19_3
            try clear hfz20_0
            try clear hfz20_1
            try clear hfz20_2
            try clear hfz20_3
            try clear hfz21_0
            try clear hfz21_1
            try clear hfz21_2
            try clear hfz21_3
            try clear hfz23_0
            try clear hfz23_1
            try clear hfz23_2
            try clear hfz23_3
            try clear hfz25_0
            try clear hfz25_1
            try clear hfz25_2
            try clear hfz25_3
            try clear hfz26_0
            try clear hfz26_1
            try clear hfz26_2
            try clear hfz26_3
            try clear hfz6_0
            try clear hfz6_1
            try clear hfz6_2
            try clear hfz6_3
            try clear hfz8_0
            try clear hfz8_1
            try clear hfz8_2
            try clear hfz8_3
            try clear hx218_0
            try clear hx218_1
            try clear hx218_2
            try clear hx218_3
            try clear hx220_0
            try clear hx220_1
            try clear hx220_2
            try clear hx220_3
            try clear p218
            try clear p220
            try clear q218
            try clear q220
            obtain ⟨kq, x59_3, rfl, HA, HJ3, BK219, HB⟩ := hcut
            cases kq with
            | zero => exact absurd HA.out (by simp [loesslaw14_may.j1])
            | succ kj3 =>
              have H := HA.out
              clear HA
              simp only [loesslaw14_may.j1] at H
              by_cases c27 : x59_3 = true
              · subst c27
                have H1 : (some false) = some r := by rw [if_pos rfl] at H; exact H
                clear H
                have H := H1
                clear H1
                obtain rfl := Option.some.inj H
                go_wp2
                repeat (go_quiet (fail); try go_wp2)
                go_ret
                exact ⟨by first | rfl | (simp [errW_none, errW_some] <;> rfl) | (simp [*, errW_none, errW_some] <;> rfl), by repeat (first | (with_reducible first | exact HB.out | apply below_alloc | apply pw_below_drewN | apply below_drew1 | refine below_set ?_ GE219.out) | exact HB.out)⟩
              · replace c27 := Bool.eq_false_iff.mpr c27
                subst c27
                have H1 : (if ((rd_T32 l0 x3_1).f2.f0) < 0 then (some false) else (if ((rd_T32 l0 x3_1).f2.f0) > 2048 then (some false) else (if ((rd_T32 l0 x3_1).f2.f1) = 0 then (if ((rd_T32 l0 x3_1).f2.f0) = 0 then (loesslaw14_may.l0 kj3 l0 (wrap64 (x3_1 + 1))) else (some false)) else (loesslaw14_may.l0 kj3 l0 (wrap64 (x3_1 + 1)))))) = some r := by rw [if_neg (show ¬ (false = true) by decide)] at H; exact H
                clear H
                have H := H1
                clear H1
                by_cases c28 : ((rd_T32 l0 x3_1).f2.f0) < 0
                · rw [if_pos c28] at H
                  have c28b0 : decide (((rd_T32 l0 x3_1).f2.f0) < 0) = true := decide_eq_true c28
                  clear c28
                  obtain rfl := Option.some.inj H
                  have hcz29_0 : wc.cell? ⟨gb219, 0, none⟩ = some (.string ((rd_T32 l0 x3_1).f0)) := (blk_cell BK219.out 0).trans rfl
                  have hcz29_1 : wc.cell? ⟨gb219, 1, none⟩ = some (.int .i64 ((rd_T32 l0 x3_1).f1)) := (blk_cell BK219.out 1).trans rfl
                  have hcz29_2 : wc.cell? ⟨gb219, 2, none⟩ = some (.int .i64 ((rd_T32 l0 x3_1).f2.f0)) := (blk_cell BK219.out 2).trans rfl
                  have hcz29_3 : wc.cell? ⟨gb219, 3, none⟩ = some (.int .i64 ((rd_T32 l0 x3_1).f2.f1)) := (blk_cell BK219.out 3).trans rfl
                  have hfz29_0 := blk_frozen BK219.out 0
                  have hfz29_1 := blk_frozen BK219.out 1
                  have hfz29_2 := blk_frozen BK219.out 2
                  have hfz29_3 := blk_frozen BK219.out 3
                  go_wp2
                  repeat (go_quiet (fail); try go_wp2)
                  go_ret
                  exact ⟨by first | rfl | (simp [errW_none, errW_some] <;> rfl) | (simp [*, errW_none, errW_some] <;> rfl), by repeat (first | (with_reducible first | exact HB.out | apply below_alloc | apply pw_below_drewN | apply below_drew1 | refine below_set ?_ GE219.out) | exact HB.out)⟩
                · rw [if_neg c28] at H
                  have c28b0 : decide (((rd_T32 l0 x3_1).f2.f0) < 0) = false := decide_eq_false c28
                  clear c28
                  by_cases c30 : ((rd_T32 l0 x3_1).f2.f0) > 2048
                  · rw [if_pos c30] at H
                    have c30b0 : decide (2048 < ((rd_T32 l0 x3_1).f2.f0)) = true := decide_eq_true c30
                    clear c30
                    obtain rfl := Option.some.inj H
                    have hcz31_0 : wc.cell? ⟨gb219, 0, none⟩ = some (.string ((rd_T32 l0 x3_1).f0)) := (blk_cell BK219.out 0).trans rfl
                    have hcz31_1 : wc.cell? ⟨gb219, 1, none⟩ = some (.int .i64 ((rd_T32 l0 x3_1).f1)) := (blk_cell BK219.out 1).trans rfl
                    have hcz31_2 : wc.cell? ⟨gb219, 2, none⟩ = some (.int .i64 ((rd_T32 l0 x3_1).f2.f0)) := (blk_cell BK219.out 2).trans rfl
                    have hcz31_3 : wc.cell? ⟨gb219, 3, none⟩ = some (.int .i64 ((rd_T32 l0 x3_1).f2.f1)) := (blk_cell BK219.out 3).trans rfl
                    have hfz31_0 := blk_frozen BK219.out 0
                    have hfz31_1 := blk_frozen BK219.out 1
                    have hfz31_2 := blk_frozen BK219.out 2
                    have hfz31_3 := blk_frozen BK219.out 3
                    go_wp2
                    repeat (go_quiet (fail); try go_wp2)
                    go_ret
                    exact ⟨by first | rfl | (simp [errW_none, errW_some] <;> rfl) | (simp [*, errW_none, errW_some] <;> rfl), by repeat (first | (with_reducible first | exact HB.out | apply below_alloc | apply pw_below_drewN | apply below_drew1 | refine below_set ?_ GE219.out) | exact HB.out)⟩
                  · rw [if_neg c30] at H
                    have c30b0 : decide (2048 < ((rd_T32 l0 x3_1).f2.f0)) = false := decide_eq_false c30
                    clear c30
                    by_cases c32 : ((rd_T32 l0 x3_1).f2.f1) = 0
                    · rw [if_pos c32] at H
                      have c32b0 : (((rd_T32 l0 x3_1).f2.f1) == 0) = true := beq_iff_eq.mpr c32
                      have c32b1 : (((rd_T32 l0 x3_1).f2.f1) != 0) = false := bne_eq_false_iff_eq.mpr c32
                      clear c32
                      by_cases c33 : ((rd_T32 l0 x3_1).f2.f0) = 0
                      · rw [if_pos c33] at H
                        have c33b0 : (((rd_T32 l0 x3_1).f2.f0) == 0) = true := beq_iff_eq.mpr c33
                        have c33b1 : (((rd_T32 l0 x3_1).f2.f0) != 0) = false := bne_eq_false_iff_eq.mpr c33
                        clear c33
                        have H' := Aside0.mk H
                        clear H
                        have hcz34_0 : wc.cell? ⟨gb219, 0, none⟩ = some (.string ((rd_T32 l0 x3_1).f0)) := (blk_cell BK219.out 0).trans rfl
                        have hcz34_1 : wc.cell? ⟨gb219, 1, none⟩ = some (.int .i64 ((rd_T32 l0 x3_1).f1)) := (blk_cell BK219.out 1).trans rfl
                        have hcz34_2 : wc.cell? ⟨gb219, 2, none⟩ = some (.int .i64 ((rd_T32 l0 x3_1).f2.f0)) := (blk_cell BK219.out 2).trans rfl
                        have hcz34_3 : wc.cell? ⟨gb219, 3, none⟩ = some (.int .i64 ((rd_T32 l0 x3_1).f2.f1)) := (blk_cell BK219.out 3).trans rfl
                        have hfz34_0 := blk_frozen BK219.out 0
                        have hfz34_1 := blk_frozen BK219.out 1
                        have hfz34_2 := blk_frozen BK219.out 2
                        have hfz34_3 := blk_frozen BK219.out 3
                        go_wp2
                        repeat (go_quiet (fail); try go_wp2)
                        go_roundg kj3
                        case measure => have := HK1.out; have := HJ3.out; omega
                        case rel => exact ⟨(wrap64 (x3_1 + 1)), (by first | rfl | (simp; done) | (simp [*]; done)), H', ⟨by have := HK1.out; have := HJ3.out; omega⟩, ⟨by repeat (first | (with_reducible first | exact HB.out | apply below_alloc | apply pw_below_drewN | apply below_drew1 | refine below_set ?_ GE219.out) | exact HB.out)⟩⟩
                      · rw [if_neg c33] at H
                        have c33b0 : (((rd_T32 l0 x3_1).f2.f0) == 0) = false := beq_eq_false_iff_ne.mpr c33
                        have c33b1 : (((rd_T32 l0 x3_1).f2.f0) != 0) = true := bne_iff_ne.mpr c33
                        obtain rfl := Option.some.inj H
                        have hcz35_0 : wc.cell? ⟨gb219, 0, none⟩ = some (.string ((rd_T32 l0 x3_1).f0)) := (blk_cell BK219.out 0).trans rfl
                        have hcz35_1 : wc.cell? ⟨gb219, 1, none⟩ = some (.int .i64 ((rd_T32 l0 x3_1).f1)) := (blk_cell BK219.out 1).trans rfl
                        have hcz35_2 : wc.cell? ⟨gb219, 2, none⟩ = some (.int .i64 ((rd_T32 l0 x3_1).f2.f0)) := (blk_cell BK219.out 2).trans rfl
                        have hcz35_3 : wc.cell? ⟨gb219, 3, none⟩ = some (.int .i64 ((rd_T32 l0 x3_1).f2.f1)) := (blk_cell BK219.out 3).trans rfl
                        have hfz35_0 := blk_frozen BK219.out 0
                        have hfz35_1 := blk_frozen BK219.out 1
                        have hfz35_2 := blk_frozen BK219.out 2
                        have hfz35_3 := blk_frozen BK219.out 3
                        go_wp2
                        repeat (go_quiet (fail); try go_wp2)
                        go_ret
                        exact ⟨by first | rfl | (simp [errW_none, errW_some] <;> rfl) | (simp [*, errW_none, errW_some] <;> rfl), by repeat (first | (with_reducible first | exact HB.out | apply below_alloc | apply pw_below_drewN | apply below_drew1 | refine below_set ?_ GE219.out) | exact HB.out)⟩
                    · rw [if_neg c32] at H
                      have c32b0 : (((rd_T32 l0 x3_1).f2.f1) == 0) = false := beq_eq_false_iff_ne.mpr c32
                      have c32b1 : (((rd_T32 l0 x3_1).f2.f1) != 0) = true := bne_iff_ne.mpr c32
                      have H' := Aside0.mk H
                      clear H
                      have hcz36_0 : wc.cell? ⟨gb219, 0, none⟩ = some (.string ((rd_T32 l0 x3_1).f0)) := (blk_cell BK219.out 0).trans rfl
                      have hcz36_1 : wc.cell? ⟨gb219, 1, none⟩ = some (.int .i64 ((rd_T32 l0 x3_1).f1)) := (blk_cell BK219.out 1).trans rfl
                      have hcz36_2 : wc.cell? ⟨gb219, 2, none⟩ = some (.int .i64 ((rd_T32 l0 x3_1).f2.f0)) := (blk_cell BK219.out 2).trans rfl
                      have hcz36_3 : wc.cell? ⟨gb219, 3, none⟩ = some (.int .i64 ((rd_T32 l0 x3_1).f2.f1)) := (blk_cell BK219.out 3).trans rfl
                      have hfz36_0 := blk_frozen BK219.out 0
                      have hfz36_1 := blk_frozen BK219.out 1
                      have hfz36_2 := blk_frozen BK219.out 2
                      have hfz36_3 := blk_frozen BK219.out 3
                      go_wp2
                      repeat (go_quiet (fail); try go_wp2)
                      go_roundg kj3
                      case measure => have := HK1.out; have := HJ3.out; omega
                      case rel => exact ⟨(wrap64 (x3_1 + 1)), (by first | rfl | (simp; done) | (simp [*]; done)), H', ⟨by have := HK1.out; have := HJ3.out; omega⟩, ⟨by repeat (first | (with_reducible first | exact HB.out | apply below_alloc | apply pw_below_drewN | apply below_drew1 | refine below_set ?_ GE219.out) | exact HB.out)⟩⟩
        · rw [if_neg c3] at H
          exact absurd H (by simp)
      · rw [if_neg c2] at H
        have c2b0 : decide (x3_1 < (l0.length : Int)) = false := decide_eq_false c2
        clear c2
        obtain rfl := Option.some.inj H
        go_wp2
        repeat (go_quiet (fail); try go_wp2)
        go_ret
        exact ⟨by first | rfl | (simp [errW_none, errW_some] <;> rfl) | (simp [*, errW_none, errW_some] <;> rfl), by repeat (first | (with_reducible first | exact HB.out | apply below_alloc | apply pw_below_drewN | apply below_drew1) | exact HB.out)⟩

end Go.Proofs.Ytoffcgdamcchcaa.XDir
