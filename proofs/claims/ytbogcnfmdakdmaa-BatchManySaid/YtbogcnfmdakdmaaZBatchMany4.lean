import Derived.Test.YtbogcnfmdakdmaaZBatchMany1
import Derived.Test.YtbogcnfmdakdmaaZBatchMany2
import Derived.Test.YtbogcnfmdakdmaaZBatchMany3
-- Written by wip/xprint.py, this session's wrapper round the kit's print program. Not trusted: Lean checks it.
namespace Go.Proofs.Ytbogcnfmdakdmaa.XBat
open Go.RowKit Go.Proofs.Ytbogcnfmdakdmaa.G Go.Proofs.YtbogcnfmdakdmaaW.PrintWords Go.Proofs.YtbogcnfmdakdmaaW.PrintLast Go.Proofs.YtbogcnfmdakdmaaW.PrintMore
attribute [local go_sem] max2_int min2_int max_two min_two max_three min_three max_four min_four   -- for this text's walks alone
set_option linter.unusedVariables false
set_option linter.unusedSimpArgs false

/-! ### loessref10_MayAll: function 11 -/
def loessref10_MayAll.l0 : Nat → List (S38) → Int → Option (Bool)
  | 0, _, _ => none
  | k + 1, x0, x3 => if x3 < (x0.length : Int) then (if 0 ≤ x3 then ((loessref10_May.f k ((rd_T38 x0 x3).f0) ((rd_T38 x0 x3).f1) ((rd_T38 x0 x3).f2.f0) ((rd_T38 x0 x3).f2.f1) ((rd_T38 x0 x3).f2.f2)).bind fun t287 => (if t287 = true then (loessref10_MayAll.l0 k x0 (wrap64 (x3 + 1))) else (some false))) else (none)) else (some (decide ((x0.length : Int) ≤ 1000)))
def loessref10_MayAll.f (k : Nat) (l0 : List (S38)) : Option (Bool) := loessref10_MayAll.l0 k l0 0
theorem loessref10_MayAll.mono_l : ∀ k, (∀ y0 y1, LeO (loessref10_MayAll.l0 k y0 y1) (loessref10_MayAll.l0 (k + 1) y0 y1))
  | 0 => fun _ _ r h => by simp [loessref10_MayAll.l0] at h
  | k + 1 => by
    have ih0 := loessref10_MayAll.mono_l k
    · intro y0 y1
      unfold loessref10_MayAll.l0
      repeat' first
      | (with_reducible exact ih0 _ _)
      | (with_reducible exact loessref10_May.mono _ _ _ _ _ _)
      | (with_reducible exact LeO.refl _)
      | (with_reducible exact LeO.none _)
      | (with_reducible refine LeO.ite ?_ ?_)
      | (with_reducible refine LeO.bind ?_ (fun _ => ?_))
      | exact ih0 _ _
      | exact loessref10_May.mono _ _ _ _ _ _
      | exact LeO.none _
      | refine LeO.ite ?_ ?_
      | refine LeO.bind ?_ (fun _ => ?_)
theorem loessref10_MayAll.mono : ∀ a0 k, LeO (loessref10_MayAll.f k a0) (loessref10_MayAll.f (k + 1) a0) := by
  intro a0 k
  have ih0 := loessref10_MayAll.mono_l k
  unfold loessref10_MayAll.f
  repeat' first
      | (with_reducible exact ih0 _ _)
      | (with_reducible exact loessref10_May.mono _ _ _ _ _ _)
      | (with_reducible exact LeO.refl _)
      | (with_reducible exact LeO.none _)
      | (with_reducible refine LeO.ite ?_ ?_)
      | (with_reducible refine LeO.bind ?_ (fun _ => ?_))
      | exact ih0 _ _
      | exact loessref10_May.mono _ _ _ _ _ _
      | exact LeO.none _
      | refine LeO.ite ?_ ?_
      | refine LeO.bind ?_ (fun _ => ?_)
set_option maxHeartbeats 8000000 in
set_option maxRecDepth 100000 in
theorem loessref10_MayAll.calls (k : Nat) (A0 : Option Addr) (c0 : Nat) (l0 : List (S38)) (r : Bool) (w : World) (hr0 : Kd.C k38 w A0 l0.length l0) (hc0 : l0.length ≤ c0) (h : loessref10_MayAll.f k l0 = some r) :
    Calls Try.prog 11 #[.slice A0 l0.length c0] w fun e w' => e = .returned (.bool r) ∧ Below w.heap.size w w' := by
  have hu38 := Try.underlying38
  have HR0 := Aside0.mk hr0
  have HC0 := Aside0.mk hc0
  clear hr0 hc0
  have HB := Aside0.mk (Below.refl w.heap.size w)
  have H : (loessref10_MayAll.l0 k l0 0) = some r := h
  clear h
  have H' := Aside0.mk H
  clear H
  go_enter Try.func11, Try.ntmps11
  go_wp2
  go_loopg [3] k (fun kq v3 w' => ∃ (x3_1 : Int), v3 = .int .i64 x3_1 ∧ Aside0 (loessref10_MayAll.l0 kq l0 x3_1 = some r) ∧ Aside0 (kq ≤ k) ∧ Aside0 (Below w.heap.size w w'))
  case atStart => exact ⟨(0), (by first | rfl | (simp; done) | (simp [*]; done)), H', ⟨Nat.le_refl _⟩, ⟨by repeat (first | (with_reducible first | exact HB.out | apply below_alloc | apply pw_below_drewN | apply below_drew1) | exact HB.out)⟩⟩
  case round =>
    clear H'
    try clear c1
    obtain ⟨x3_1, rfl, HA, HK1, HB⟩ := hrel
    cases gk with
    | zero => exact absurd HA.out (by simp [loessref10_MayAll.l0])
    | succ k1 =>
      have H := HA.out
      clear HA
      simp only [loessref10_MayAll.l0] at H
      by_cases c2 : x3_1 < (l0.length : Int)
      · rw [if_pos c2] at H
        have c2b0 : decide (x3_1 < (l0.length : Int)) = true := decide_eq_true c2
        clear c2
        by_cases c3 : 0 ≤ x3_1
        · rw [if_pos c3] at H
          have c3b0 : decide (0 ≤ x3_1) = true := decide_eq_true c3
          clear c3
          replace H := Option.bind_eq_some_iff.mp H
          obtain ⟨t287, A40, H⟩ := H
          replace H : (if t287 = true then (loessref10_MayAll.l0 k1 l0 (wrap64 (x3_1 + 1))) else (some false)) = some r := H
          have A4 := Aside0.mk A40
          clear A40
          by_cases c5 : t287 = true
          · subst c5
            have H1 : (loessref10_MayAll.l0 k1 l0 (wrap64 (x3_1 + 1))) = some r := by rw [if_pos rfl] at H; exact H
            clear H
            have H := H1
            clear H1
            have H' := Aside0.mk H
            clear H
            have p286 : 0 ≤ (x3_1 : Int) := of_decide_eq_true (by first | (with_reducible assumption) | assumption)
            have q286 : x3_1 < (l0.length : Int) := of_decide_eq_true (by first | (with_reducible assumption) | assumption)
            obtain ⟨ad286, e286, hx286_0, hx286_1, hx286_2, hx286_3, hx286_4⟩ := at_T38 HR0.out x3_1 p286 q286
            cases e286
            replace hx286_0 := (HB.out.cell (World.block_lt_of_cell? w _ hx286_0)).trans hx286_0
            replace hx286_1 := (HB.out.cell (World.block_lt_of_cell? w _ hx286_1)).trans hx286_1
            replace hx286_2 := (HB.out.cell (World.block_lt_of_cell? w _ hx286_2)).trans hx286_2
            replace hx286_3 := (HB.out.cell (World.block_lt_of_cell? w _ hx286_3)).trans hx286_3
            replace hx286_4 := (HB.out.cell (World.block_lt_of_cell? w _ hx286_4)).trans hx286_4
            replace p286 := eq_true p286
            replace q286 := eq_true q286
            go_wp2_with (first | ((with_reducible refine gate_callee (f := 19) rfl ?_); refine goesL_ (some 14) rfl rfl Try.func19 (by kernel_rfl) rfl #[.agg #[.string ((rd_T38 l0 x3_1).f0), .bool ((rd_T38 l0 x3_1).f1), .int .i64 ((rd_T38 l0 x3_1).f2.f0), .int .i64 ((rd_T38 l0 x3_1).f2.f1), .string ((rd_T38 l0 x3_1).f2.f2)]] rfl (by (try simp only [List.map_toArray, List.map_cons, List.map_nil]); first | done | rfl | (simp only [List.length_drop, List.length_take]; rfl)) ?_; (with_reducible refine (loessref10_May.calls k1 ((rd_T38 l0 x3_1).f0) ((rd_T38 l0 x3_1).f1) ((rd_T38 l0 x3_1).f2.f0) ((rd_T38 l0 x3_1).f2.f1) ((rd_T38 l0 x3_1).f2.f2) true _ A4.out).mono ?_); rintro e w6 ⟨rfl, hb⟩; refine ⟨_, rfl, ?_⟩; have n0_ := Aside0.mk (below_step (by repeat (first | (with_reducible first | exact HB.out | apply below_alloc | apply pw_below_drewN | apply below_drew1) | exact HB.out)) hb); clear HB; have HB := n0_; clear n0_; (try clear hb); (try clear hb2); (try clear hk); (try clear hi)))
            go_roundg k1
            case measure => have := HK1.out; omega
            case rel => exact ⟨(wrap64 (x3_1 + 1)), (by first | rfl | (simp; done) | (simp [*]; done)), H', ⟨by have := HK1.out; omega⟩, ⟨by repeat (first | (with_reducible first | exact HB.out | apply below_alloc | apply pw_below_drewN | apply below_drew1) | exact HB.out)⟩⟩
          · replace c5 := Bool.eq_false_iff.mpr c5
            subst c5
            have H1 : (some false) = some r := by rw [if_neg (show ¬ (false = true) by decide)] at H; exact H
            clear H
            have H := H1
            clear H1
            obtain rfl := Option.some.inj H
            have p286 : 0 ≤ (x3_1 : Int) := of_decide_eq_true (by first | (with_reducible assumption) | assumption)
            have q286 : x3_1 < (l0.length : Int) := of_decide_eq_true (by first | (with_reducible assumption) | assumption)
            obtain ⟨ad286, e286, hx286_0, hx286_1, hx286_2, hx286_3, hx286_4⟩ := at_T38 HR0.out x3_1 p286 q286
            cases e286
            replace hx286_0 := (HB.out.cell (World.block_lt_of_cell? w _ hx286_0)).trans hx286_0
            replace hx286_1 := (HB.out.cell (World.block_lt_of_cell? w _ hx286_1)).trans hx286_1
            replace hx286_2 := (HB.out.cell (World.block_lt_of_cell? w _ hx286_2)).trans hx286_2
            replace hx286_3 := (HB.out.cell (World.block_lt_of_cell? w _ hx286_3)).trans hx286_3
            replace hx286_4 := (HB.out.cell (World.block_lt_of_cell? w _ hx286_4)).trans hx286_4
            replace p286 := eq_true p286
            replace q286 := eq_true q286
            go_wp2_with (first | ((with_reducible refine gate_callee (f := 19) rfl ?_); refine goesL_ (some 14) rfl rfl Try.func19 (by kernel_rfl) rfl #[.agg #[.string ((rd_T38 l0 x3_1).f0), .bool ((rd_T38 l0 x3_1).f1), .int .i64 ((rd_T38 l0 x3_1).f2.f0), .int .i64 ((rd_T38 l0 x3_1).f2.f1), .string ((rd_T38 l0 x3_1).f2.f2)]] rfl (by (try simp only [List.map_toArray, List.map_cons, List.map_nil]); first | done | rfl | (simp only [List.length_drop, List.length_take]; rfl)) ?_; (with_reducible refine (loessref10_May.calls k1 ((rd_T38 l0 x3_1).f0) ((rd_T38 l0 x3_1).f1) ((rd_T38 l0 x3_1).f2.f0) ((rd_T38 l0 x3_1).f2.f1) ((rd_T38 l0 x3_1).f2.f2) false _ A4.out).mono ?_); rintro e w7 ⟨rfl, hb⟩; refine ⟨_, rfl, ?_⟩; have n0_ := Aside0.mk (below_step (by repeat (first | (with_reducible first | exact HB.out | apply below_alloc | apply pw_below_drewN | apply below_drew1) | exact HB.out)) hb); clear HB; have HB := n0_; clear n0_; (try clear hb); (try clear hb2); (try clear hk); (try clear hi)))
            go_ret
            exact ⟨by first | rfl | (simp [errW_none, errW_some] <;> rfl) | (simp [*, errW_none, errW_some] <;> rfl), by repeat (first | (with_reducible first | exact HB.out | apply below_alloc | apply pw_below_drewN | apply below_drew1) | exact HB.out)⟩
        · rw [if_neg c3] at H
          exact absurd H (by simp)
      · rw [if_neg c2] at H
        have c2b0 : decide (x3_1 < (l0.length : Int)) = false := decide_eq_false c2
        clear c2
        obtain rfl := Option.some.inj H
        go_wp2
        go_ret
        exact ⟨by first | rfl | (simp [errW_none, errW_some] <;> rfl) | (simp [*, errW_none, errW_some] <;> rfl), by repeat (first | (with_reducible first | exact HB.out | apply below_alloc | apply pw_below_drewN | apply below_drew1) | exact HB.out)⟩

end Go.Proofs.Ytbogcnfmdakdmaa.XBat

-- Written by wip/xprint.py, this session's wrapper round the kit's print program. Not trusted: Lean checks it.
namespace Go.Proofs.Ytbogcnfmdakdmaa.XBat
open Go.RowKit Go.Proofs.Ytbogcnfmdakdmaa.G Go.Proofs.YtbogcnfmdakdmaaW.PrintWords Go.Proofs.YtbogcnfmdakdmaaW.PrintLast Go.Proofs.YtbogcnfmdakdmaaW.PrintMore
attribute [local go_sem] max2_int min2_int max_two min_two max_three min_three max_four min_four   -- for this text's walks alone
set_option linter.unusedVariables false
set_option linter.unusedSimpArgs false

/-! ### loessref10_Row: function 12 -/
def loessref10_Row.l0 : Nat → List (S38) → List Int → Int → Option (List Int)
  | 0, _, _, _ => none
  | k + 1, x0, x3, x4 => if x4 < (x0.length : Int) then (if 0 ≤ x4 then ((loessref10_Bytes.f k ((rd_T38 x0 x4).f0) ((rd_T38 x0 x4).f1) ((rd_T38 x0 x4).f2.f0) ((rd_T38 x0 x4).f2.f1) ((rd_T38 x0 x4).f2.f2)).bind fun t337 => (if x3.length + t337.length < 140737488355328 then (loessref10_Row.l0 k x0 (x3 ++ t337) (wrap64 (x4 + 1))) else (none))) else (none)) else (some x3)
def loessref10_Row.f (k : Nat) (l0 : List (S38)) : Option (List Int) := (loessref10_MayAll.f k l0).bind fun t332 => (if t332 = true then ((loessref1_Put.f k (l0.length : Int)).bind fun t333 => (loessref10_Row.l0 k l0 t333 0)) else (some ([] : List Int)))
theorem loessref10_Row.mono_l : ∀ k, (∀ y0 y1 y2, LeO (loessref10_Row.l0 k y0 y1 y2) (loessref10_Row.l0 (k + 1) y0 y1 y2))
  | 0 => fun _ _ _ r h => by simp [loessref10_Row.l0] at h
  | k + 1 => by
    have ih0 := loessref10_Row.mono_l k
    · intro y0 y1 y2
      unfold loessref10_Row.l0
      repeat' first
      | (with_reducible exact ih0 _ _ _)
      | (with_reducible exact loessref10_Bytes.mono _ _ _ _ _ _)
      | (with_reducible exact loessref10_MayAll.mono _ _)
      | (with_reducible exact loessref1_Put.mono _ _)
      | (with_reducible exact LeO.refl _)
      | (with_reducible exact LeO.none _)
      | (with_reducible refine LeO.ite ?_ ?_)
      | (with_reducible refine LeO.bind ?_ (fun _ => ?_))
      | exact ih0 _ _ _
      | exact loessref10_Bytes.mono _ _ _ _ _ _
      | exact loessref10_MayAll.mono _ _
      | exact loessref1_Put.mono _ _
      | exact LeO.none _
      | refine LeO.ite ?_ ?_
      | refine LeO.bind ?_ (fun _ => ?_)
theorem loessref10_Row.mono : ∀ a0 k, LeO (loessref10_Row.f k a0) (loessref10_Row.f (k + 1) a0) := by
  intro a0 k
  have ih0 := loessref10_Row.mono_l k
  unfold loessref10_Row.f
  repeat' first
      | (with_reducible exact ih0 _ _ _)
      | (with_reducible exact loessref10_Bytes.mono _ _ _ _ _ _)
      | (with_reducible exact loessref10_MayAll.mono _ _)
      | (with_reducible exact loessref1_Put.mono _ _)
      | (with_reducible exact LeO.refl _)
      | (with_reducible exact LeO.none _)
      | (with_reducible refine LeO.ite ?_ ?_)
      | (with_reducible refine LeO.bind ?_ (fun _ => ?_))
      | exact ih0 _ _ _
      | exact loessref10_Bytes.mono _ _ _ _ _ _
      | exact loessref10_MayAll.mono _ _
      | exact loessref1_Put.mono _ _
      | exact LeO.none _
      | refine LeO.ite ?_ ?_
      | refine LeO.bind ?_ (fun _ => ?_)
set_option maxHeartbeats 8000000 in
set_option maxRecDepth 100000 in
theorem loessref10_Row.calls (k : Nat) (A0 : Option Addr) (c0 : Nat) (l0 : List (S38)) (r : List Int) (w : World) (hr0 : Kd.C k38 w A0 l0.length l0) (hc0 : l0.length ≤ c0) (h : loessref10_Row.f k l0 = some r) :
    Calls Try.prog 12 #[.slice A0 l0.length c0] w fun e w' => ∃ v0_ : Value, e = .returned (v0_) ∧ Kd.R (Kd.int .u8) 5 w' w.heap.size (fun _ => True) v0_ r ∧ Below w.heap.size w w' := by
  have hu38 := Try.underlying38
  have HR0 := Aside0.mk hr0
  have HC0 := Aside0.mk hc0
  clear hr0 hc0
  have HB := Aside0.mk (Below.refl w.heap.size w)
  have H : ((loessref10_MayAll.f k l0).bind fun t332 => (if t332 = true then ((loessref1_Put.f k (l0.length : Int)).bind fun t333 => (loessref10_Row.l0 k l0 t333 0)) else (some ([] : List Int)))) = some r := h
  clear h
  replace H := Option.bind_eq_some_iff.mp H
  obtain ⟨t332, A20, H⟩ := H
  replace H : (if t332 = true then ((loessref1_Put.f k (l0.length : Int)).bind fun t333 => (loessref10_Row.l0 k l0 t333 0)) else (some ([] : List Int))) = some r := H
  have A2 := Aside0.mk A20
  clear A20
  by_cases c3 : t332 = true
  · subst c3
    have H1 : ((loessref1_Put.f k (l0.length : Int)).bind fun t333 => (loessref10_Row.l0 k l0 t333 0)) = some r := by rw [if_pos rfl] at H; exact H
    clear H
    have H := H1
    clear H1
    replace H := Option.bind_eq_some_iff.mp H
    obtain ⟨t333, A40, H⟩ := H
    replace H : (loessref10_Row.l0 k l0 t333 0) = some r := H
    have A4 := Aside0.mk A40
    clear A40
    have H' := Aside0.mk H
    clear H
    go_enter Try.func12, Try.ntmps12
    go_wp2_with (first | ((with_reducible refine gate_callee (f := 11) rfl ?_); refine goesL_ (some 6) rfl rfl Try.func11 (by kernel_rfl) rfl #[.slice A0 l0.length c0] rfl (by (try simp only [List.map_toArray, List.map_cons, List.map_nil]); first | done | rfl | (simp only [List.length_drop, List.length_take]; rfl)) ?_; (with_reducible refine (loessref10_MayAll.calls k _ _ l0 true _ ?side1 ?side2 A2.out).mono ?_); (case side1 => repeat (first | exact HR0.out | (with_reducible refine Kd.C_alloc ?_ _) | (with_reducible refine Kd.C_drewN ?_ _) | (with_reducible refine Kd.C_drew ?_))); (case side2 => exact HC0.out); rintro e w5 ⟨rfl, hb⟩; refine ⟨_, rfl, ?_⟩; have n0_ := Aside0.mk (below_step (by repeat (first | (with_reducible first | exact HB.out | apply below_alloc | apply pw_below_drewN | apply below_drew1) | exact HB.out)) hb); clear HB; have HB := n0_; clear n0_; (try clear hb); (try clear hb2); (try clear hk); (try clear hi)) | ((with_reducible refine gate_callee (f := 25) rfl ?_); refine goesL_ (some 10) rfl rfl Try.func25 (by kernel_rfl) rfl #[.int .i64 (l0.length : Int)] rfl (by (try simp only [List.map_toArray, List.map_cons, List.map_nil]); first | done | rfl | (simp only [List.length_drop, List.length_take]; rfl)) ?_; (with_reducible refine (loessref1_Put.calls k (l0.length : Int) t333 _ A4.out).mono ?_); rintro e w6 ⟨v334, rfl, ho0, hb⟩; refine ⟨_, rfl, ?_⟩; have n0_ := Aside0.mk (Kd.R_lower ho0 (below_size (by repeat (first | (with_reducible first | exact HB.out | apply below_alloc | apply pw_below_drewN | apply below_drew1) | exact HB.out)))); have n1_ := Aside0.mk (below_step (by repeat (first | (with_reducible first | exact HB.out | apply below_alloc | apply pw_below_drewN | apply below_drew1) | exact HB.out)) hb); clear HB; have HO335 := n0_; have HB := n1_; clear n0_ n1_; (try clear hb); (try clear hb2); (try clear hk); (try clear hi); (try clear ho0)))
    go_loopg [3, 4] k (fun kq v3 v4 w' => ∃ (x3_1 : List Int) (x4_1 : Int), v4 = .int .i64 x4_1 ∧ Aside0 (loessref10_Row.l0 kq l0 x3_1 x4_1 = some r) ∧ Aside0 (kq ≤ k) ∧ Aside0 (Kd.R (Kd.int .u8) 5 w' w.heap.size (fun _ => True) v3 x3_1) ∧ Aside0 (Below w.heap.size w w'))
    case atStart => exact ⟨(t333), (0), (by first | rfl | (simp; done) | (simp [*]; done)), H', ⟨Nat.le_refl _⟩, ⟨by (with_reducible repeat (first | apply Kd.R_alloc | apply Kd.R_drewN | apply Kd.R_drew)); exact HO335.out⟩, ⟨by repeat (first | (with_reducible first | exact HB.out | apply below_alloc | apply pw_below_drewN | apply below_drew1) | exact HB.out)⟩⟩
    case round =>
      clear H'
      try clear c1
      try clear c2
      try clear p2
      try clear c3
      obtain ⟨x3_1, x4_1, rfl, HA, HK1, HO_3, HB⟩ := hrel
      cases gk with
      | zero => exact absurd HA.out (by simp [loessref10_Row.l0])
      | succ k1 =>
        have H := HA.out
        clear HA
        simp only [loessref10_Row.l0] at H
        by_cases c7 : x4_1 < (l0.length : Int)
        · rw [if_pos c7] at H
          have c7b0 : decide (x4_1 < (l0.length : Int)) = true := decide_eq_true c7
          clear c7
          by_cases c8 : 0 ≤ x4_1
          · rw [if_pos c8] at H
            have c8b0 : decide (0 ≤ x4_1) = true := decide_eq_true c8
            clear c8
            replace H := Option.bind_eq_some_iff.mp H
            obtain ⟨t337, A90, H⟩ := H
            replace H : (if x3_1.length + t337.length < 140737488355328 then (loessref10_Row.l0 k1 l0 (x3_1 ++ t337) (wrap64 (x4_1 + 1))) else (none)) = some r := H
            have A9 := Aside0.mk A90
            clear A90
            by_cases c10 : x3_1.length + t337.length < 140737488355328
            · rw [if_pos c10] at H
              have LMc10 := Aside0.mk c10
              clear c10
              obtain ⟨y340, hy340⟩ : ∃ y_ : List Int, y_ = (x3_1 ++ t337) := ⟨_, rfl⟩
              replace H : (loessref10_Row.l0 k1 l0 y340 (wrap64 (x4_1 + 1))) = some r := by first | (rw [hy340]; with_reducible exact H) | (have H2_ := (Option.bind_some _ _).symm.trans H; rw [hy340]; with_reducible exact H2_) | (have H2_ := (Option.bind_some _ _).symm.trans H; with_reducible exact H2_) | with_reducible exact H | (rw [hy340]; exact H) | exact H
              have Ny340 := Aside0.mk hy340
              clear hy340
              have H' := Aside0.mk H
              clear H
              have p336 : 0 ≤ (x4_1 : Int) := of_decide_eq_true (by first | (with_reducible assumption) | assumption)
              have q336 : x4_1 < (l0.length : Int) := of_decide_eq_true (by first | (with_reducible assumption) | assumption)
              obtain ⟨ad336, e336, hx336_0, hx336_1, hx336_2, hx336_3, hx336_4⟩ := at_T38 HR0.out x4_1 p336 q336
              cases e336
              replace hx336_0 := (HB.out.cell (World.block_lt_of_cell? w _ hx336_0)).trans hx336_0
              replace hx336_1 := (HB.out.cell (World.block_lt_of_cell? w _ hx336_1)).trans hx336_1
              replace hx336_2 := (HB.out.cell (World.block_lt_of_cell? w _ hx336_2)).trans hx336_2
              replace hx336_3 := (HB.out.cell (World.block_lt_of_cell? w _ hx336_3)).trans hx336_3
              replace hx336_4 := (HB.out.cell (World.block_lt_of_cell? w _ hx336_4)).trans hx336_4
              replace p336 := eq_true p336
              replace q336 := eq_true q336
              go_wp2_with (first | ((with_reducible refine gate_callee (f := 26) rfl ?_); refine goesL_ (some 22) rfl rfl Try.func26 (by kernel_rfl) rfl #[.agg #[.string ((rd_T38 l0 x4_1).f0), .bool ((rd_T38 l0 x4_1).f1), .int .i64 ((rd_T38 l0 x4_1).f2.f0), .int .i64 ((rd_T38 l0 x4_1).f2.f1), .string ((rd_T38 l0 x4_1).f2.f2)]] rfl (by (try simp only [List.map_toArray, List.map_cons, List.map_nil]); first | done | rfl | (simp only [List.length_drop, List.length_take]; rfl)) ?_; (with_reducible refine (loessref10_Bytes.calls k1 ((rd_T38 l0 x4_1).f0) ((rd_T38 l0 x4_1).f1) ((rd_T38 l0 x4_1).f2.f0) ((rd_T38 l0 x4_1).f2.f1) ((rd_T38 l0 x4_1).f2.f2) t337 _ A9.out).mono ?_); rintro e w11 ⟨v338, rfl, ho0, hb⟩; refine ⟨_, rfl, ?_⟩; have n0_ := Aside0.mk (Kd.R_elder' (by (with_reducible repeat (first | apply Kd.R_alloc | apply Kd.R_drewN | apply Kd.R_drew)); exact HO_3.out) (Kd.R_base ho0) hb); have n1_ := Aside0.mk (Kd.R_lower (Kd.R_new' ho0 (Kd.R_lt (by (with_reducible repeat (first | apply Kd.R_alloc | apply Kd.R_drewN | apply Kd.R_drew)); exact HO_3.out))) (below_size (by repeat (first | (with_reducible first | exact HB.out | apply below_alloc | apply pw_below_drewN | apply below_drew1) | exact HB.out)))); have n2_ := Aside0.mk (below_step (by repeat (first | (with_reducible first | exact HB.out | apply below_alloc | apply pw_below_drewN | apply below_drew1) | exact HB.out)) hb); clear HO_3; clear HB; have HO_3 := n0_; have HO339 := n1_; have HB := n2_; clear n0_ n1_ n2_; (try clear hb); (try clear hb2); (try clear hk); (try clear hi); (try clear ho0); obtain ⟨Ao13, co13, eo13⟩ := Kd.R_slice HO339.out; subst eo13) | ((with_reducible refine gate_builtin (b := .append) (xs := #[.tmp 17, .tmp 22]) rfl ?_); at_builtin; refine Kd.R_append_rows (Kd.int .u8) (w0 := w) w.heap.size rfl (.tmp 17) (.tmp 22) 25 5 (.int .u8 0) 1 rfl Try.underlying25 info5 rfl (by decide) (by omega) u3 x3_1 t337 _ _ _ (fun k_ => some k_ ≠ (.slice Ao13 t337.length co13 : Value).ownBlock) (fun _ => False) rfl rfl ?aO ?aR (fun _ _ h => h) (fun _ h => h.elim) ?aF ?aB ?aS ?aL ?_; (case aR => repeat (first | exact (Kd.R_reads' HO339.out).2.2 | (with_reducible refine Kd.C_alloc ?_ _) | (with_reducible refine Kd.C_drewN ?_ _) | (with_reducible refine Kd.C_drew ?_))); (case aB => exact (by repeat (first | (with_reducible first | exact HB.out | apply below_alloc | apply pw_below_drewN | apply below_drew1) | exact HB.out))); (case aF => exact (fun k_ hk => Kd.fresh' (Kd.R_lt (by (with_reducible repeat (first | apply Kd.R_alloc | apply Kd.R_drewN | apply Kd.R_drew)); exact HO339.out)) k_ hk)); (case aO => exact (by (with_reducible repeat (first | apply Kd.R_alloc | apply Kd.R_drewN | apply Kd.R_drew)); exact Kd.R_mono HO_3.out (fun _ hk => hk.2))); (case aS => exact (below_size (by repeat (first | (with_reducible first | exact HB.out | apply below_alloc | apply pw_below_drewN | apply below_drew1) | exact HB.out)))); (case aL => have := LMc10.out; omega); intro v341 w12 ho hb hg hat; rw [← Ny340.out] at ho; have n0_ := Aside0.mk (Kd.R_after (ok := (fun _ => True)) (by (with_reducible repeat (first | apply Kd.R_alloc | apply Kd.R_drewN | apply Kd.R_drew)); exact HO339.out) hg hat); have n1_ := Aside0.mk (hb); have n2_ := Aside0.mk (ho); clear HO339; clear HB; clear HO_3; have HO339 := n0_; have HB := n1_; have HO342 := n2_; clear n0_ n1_ n2_; clear ho hb hg hat))
              go_roundg k1
              case measure => have := HK1.out; omega
              case rel => exact ⟨(y340), (wrap64 (x4_1 + 1)), (by first | rfl | (simp; done) | (simp [*]; done)), H', ⟨by have := HK1.out; omega⟩, ⟨by (with_reducible repeat (first | apply Kd.R_alloc | apply Kd.R_drewN | apply Kd.R_drew)); exact Kd.R_mono HO342.out (fun _ hk => trivial)⟩, ⟨by repeat (first | (with_reducible first | exact HB.out | apply below_alloc | apply pw_below_drewN | apply below_drew1) | exact HB.out)⟩⟩
            · rw [if_neg c10] at H
              exact absurd H (by simp)
          · rw [if_neg c8] at H
            exact absurd H (by simp)
        · rw [if_neg c7] at H
          have c7b0 : decide (x4_1 < (l0.length : Int)) = false := decide_eq_false c7
          clear c7
          obtain rfl := Option.some.inj H
          go_wp2
          go_ret
          exact ⟨_, by first | rfl | (simp [errW_none, errW_some] <;> rfl) | (simp [*, errW_none, errW_some] <;> rfl), by (with_reducible repeat (first | apply Kd.R_alloc | apply Kd.R_drewN | apply Kd.R_drew)); exact HO_3.out, by repeat (first | (with_reducible first | exact HB.out | apply below_alloc | apply pw_below_drewN | apply below_drew1) | exact HB.out)⟩
  · replace c3 := Bool.eq_false_iff.mpr c3
    subst c3
    have H1 : (some ([] : List Int)) = some r := by rw [if_neg (show ¬ (false = true) by decide)] at H; exact H
    clear H
    have H := H1
    clear H1
    obtain rfl := Option.some.inj H
    go_enter Try.func12, Try.ntmps12
    go_wp2_with (first | ((with_reducible refine gate_callee (f := 11) rfl ?_); refine goesL_ (some 6) rfl rfl Try.func11 (by kernel_rfl) rfl #[.slice A0 l0.length c0] rfl (by (try simp only [List.map_toArray, List.map_cons, List.map_nil]); first | done | rfl | (simp only [List.length_drop, List.length_take]; rfl)) ?_; (with_reducible refine (loessref10_MayAll.calls k _ _ l0 false _ ?side1 ?side2 A2.out).mono ?_); (case side1 => repeat (first | exact HR0.out | (with_reducible refine Kd.C_alloc ?_ _) | (with_reducible refine Kd.C_drewN ?_ _) | (with_reducible refine Kd.C_drew ?_))); (case side2 => exact HC0.out); rintro e w14 ⟨rfl, hb⟩; refine ⟨_, rfl, ?_⟩; have n0_ := Aside0.mk (below_step (by repeat (first | (with_reducible first | exact HB.out | apply below_alloc | apply pw_below_drewN | apply below_drew1) | exact HB.out)) hb); clear HB; have HB := n0_; clear n0_; (try clear hb); (try clear hb2); (try clear hk); (try clear hi)))
    go_ret
    exact ⟨_, by first | rfl | (simp [errW_none, errW_some] <;> rfl) | (simp [*, errW_none, errW_some] <;> rfl), by first | exact Kd.R_nil _ _ _ _ _ | exact Kd.N_nil _ _ _ _ _ | exact Kd.V_nil _ _ _ _ _ | exact Kd.Q_nil _ _ _ _ _ | exact Kd.S_nil _ _ _ _ _, by repeat (first | (with_reducible first | exact HB.out | apply below_alloc | apply pw_below_drewN | apply below_drew1) | exact HB.out)⟩

end Go.Proofs.Ytbogcnfmdakdmaa.XBat

-- Written by wip/xprint.py, this session's wrapper round the kit's print program. Not trusted: Lean checks it.
namespace Go.Proofs.Ytbogcnfmdakdmaa.XBat
open Go.RowKit Go.Proofs.Ytbogcnfmdakdmaa.G Go.Proofs.YtbogcnfmdakdmaaW.PrintWords Go.Proofs.YtbogcnfmdakdmaaW.PrintLast Go.Proofs.YtbogcnfmdakdmaaW.PrintMore
attribute [local go_sem] max2_int min2_int max_two min_two max_three min_three max_four min_four   -- for this text's walks alone
set_option linter.unusedVariables false
set_option linter.unusedSimpArgs false

/-! ### loessref10_EqRecs: function 14 -/
def loessref10_EqRecs.l0 : Nat → List (S38) → List (S38) → Int → Option (Bool)
  | 0, _, _, _ => none
  | k + 1, x0, x1, x5 => if x5 < (x0.length : Int) then (if 0 ≤ x5 then (if x5 < (x1.length : Int) then ((loessref10_Eq.f ((rd_T38 x0 x5).f0) ((rd_T38 x0 x5).f1) ((rd_T38 x0 x5).f2.f0) ((rd_T38 x0 x5).f2.f1) ((rd_T38 x0 x5).f2.f2) ((rd_T38 x1 x5).f0) ((rd_T38 x1 x5).f1) ((rd_T38 x1 x5).f2.f0) ((rd_T38 x1 x5).f2.f1) ((rd_T38 x1 x5).f2.f2)).bind fun t350 => (if t350 = true then (loessref10_EqRecs.l0 k x0 x1 (wrap64 (x5 + 1))) else (some false))) else (none)) else (none)) else (some true)
def loessref10_EqRecs.f (k : Nat) (l0 : List (S38)) (l1 : List (S38)) : Option (Bool) := if (l0.length : Int) = (l1.length : Int) then (loessref10_EqRecs.l0 k l0 l1 0) else (some false)
theorem loessref10_EqRecs.mono_l : ∀ k, (∀ y0 y1 y2, LeO (loessref10_EqRecs.l0 k y0 y1 y2) (loessref10_EqRecs.l0 (k + 1) y0 y1 y2))
  | 0 => fun _ _ _ r h => by simp [loessref10_EqRecs.l0] at h
  | k + 1 => by
    have ih0 := loessref10_EqRecs.mono_l k
    · intro y0 y1 y2
      unfold loessref10_EqRecs.l0
      repeat' first
      | (with_reducible exact ih0 _ _ _)
      | (with_reducible exact LeO.refl _)
      | (with_reducible exact LeO.none _)
      | (with_reducible refine LeO.ite ?_ ?_)
      | (with_reducible refine LeO.bind ?_ (fun _ => ?_))
      | exact ih0 _ _ _
      | exact LeO.none _
      | refine LeO.ite ?_ ?_
      | refine LeO.bind ?_ (fun _ => ?_)
theorem loessref10_EqRecs.mono : ∀ a0 a1 k, LeO (loessref10_EqRecs.f k a0 a1) (loessref10_EqRecs.f (k + 1) a0 a1) := by
  intro a0 a1 k
  have ih0 := loessref10_EqRecs.mono_l k
  unfold loessref10_EqRecs.f
  repeat' first
      | (with_reducible exact ih0 _ _ _)
      | (with_reducible exact LeO.refl _)
      | (with_reducible exact LeO.none _)
      | (with_reducible refine LeO.ite ?_ ?_)
      | (with_reducible refine LeO.bind ?_ (fun _ => ?_))
      | exact ih0 _ _ _
      | exact LeO.none _
      | refine LeO.ite ?_ ?_
      | refine LeO.bind ?_ (fun _ => ?_)
def loessref10_EqRecs.T6 : Bool × List (List Nat × List Nat) := (true, [([], []), ([], []), ([0, 1], [0, 1]), ([2], [2]), ([], []), ([], []), ([4, 5], [4, 5]), ([6], [6]), ([3, 7], [3, 7]), ([8], [8])])
def loessref10_EqRecs.B6 : List Nat := [0, 0, 3, 7, 0, 0, 48, 112, 255, 511]
theorem loessref10_EqRecs.tab6 : rtab .any (opsOf Try.f14 6) = loessref10_EqRecs.T6 := by kernel_rfl
theorem loessref10_EqRecs.bits6 : waitsOk loessref10_EqRecs.T6.2 loessref10_EqRecs.B6 = true := by kernel_rfl
set_option maxHeartbeats 8000000 in
set_option maxRecDepth 100000 in
theorem loessref10_EqRecs.calls (k : Nat) (A0 : Option Addr) (c0 : Nat) (l0 : List (S38)) (A1 : Option Addr) (c1 : Nat) (l1 : List (S38)) (r : Bool) (w : World) (hr0 : Kd.C k38 w A0 l0.length l0) (hc0 : l0.length ≤ c0) (hr1 : Kd.C k38 w A1 l1.length l1) (hc1 : l1.length ≤ c1) (h : loessref10_EqRecs.f k l0 l1 = some r) :
    Calls Try.prog 14 #[.slice A0 l0.length c0, .slice A1 l1.length c1] w fun e w' => e = .returned (.bool r) ∧ Below w.heap.size w w' := by
  have hu38 := Try.underlying38
  have HR0 := Aside0.mk hr0
  have HC0 := Aside0.mk hc0
  clear hr0 hc0
  have HR1 := Aside0.mk hr1
  have HC1 := Aside0.mk hc1
  clear hr1 hc1
  have HB := Aside0.mk (Below.refl w.heap.size w)
  have H : (if (l0.length : Int) = (l1.length : Int) then (loessref10_EqRecs.l0 k l0 l1 0) else (some false)) = some r := h
  clear h
  by_cases c3 : (l0.length : Int) = (l1.length : Int)
  · rw [if_pos c3] at H
    have c3b0 : ((l0.length : Int) == (l1.length : Int)) = true := beq_iff_eq.mpr c3
    have c3b1 : ((l0.length : Int) != (l1.length : Int)) = false := bne_eq_false_iff_eq.mpr c3
    have c3b2 : (l0.length == l1.length) = true := by first | simpa using c3 | (simp at c3 ⊢; omega)
    clear c3
    have H' := Aside0.mk H
    clear H
    go_enter Try.func14, Try.ntmps14
    go_wp2
    go_loopg [5] k (fun kq v5 w' => ∃ (x5_1 : Int), v5 = .int .i64 x5_1 ∧ Aside0 (loessref10_EqRecs.l0 kq l0 l1 x5_1 = some r) ∧ Aside0 (kq ≤ k) ∧ Aside0 (Below w.heap.size w w'))
    case atStart => exact ⟨(0), (by first | rfl | (simp; done) | (simp [*]; done)), H', ⟨Nat.le_refl _⟩, ⟨by repeat (first | (with_reducible first | exact HB.out | apply below_alloc | apply pw_below_drewN | apply below_drew1) | exact HB.out)⟩⟩
    case round =>
      clear H'
      try clear c1
      try clear p2
      try clear c3
      try clear c3b0
      try clear c3b1
      try clear c3b2
      obtain ⟨x5_1, rfl, HA, HK1, HB⟩ := hrel
      cases gk with
      | zero => exact absurd HA.out (by simp [loessref10_EqRecs.l0])
      | succ k1 =>
        have H := HA.out
        clear HA
        simp only [loessref10_EqRecs.l0] at H
        by_cases c4 : x5_1 < (l0.length : Int)
        · rw [if_pos c4] at H
          have c4b0 : decide (x5_1 < (l0.length : Int)) = true := decide_eq_true c4
          clear c4
          by_cases c5 : 0 ≤ x5_1
          · rw [if_pos c5] at H
            have c5b0 : decide (0 ≤ x5_1) = true := decide_eq_true c5
            clear c5
            by_cases c6 : x5_1 < (l1.length : Int)
            · rw [if_pos c6] at H
              have c6b0 : decide (x5_1 < (l1.length : Int)) = true := decide_eq_true c6
              clear c6
              replace H := Option.bind_eq_some_iff.mp H
              obtain ⟨t350, A70, H⟩ := H
              replace H : (if t350 = true then (loessref10_EqRecs.l0 k1 l0 l1 (wrap64 (x5_1 + 1))) else (some false)) = some r := H
              have A7 := Aside0.mk A70
              clear A70
              by_cases c8 : t350 = true
              · subst c8
                have H1 : (loessref10_EqRecs.l0 k1 l0 l1 (wrap64 (x5_1 + 1))) = some r := by rw [if_pos rfl] at H; exact H
                clear H
                have H := H1
                clear H1
                have H' := Aside0.mk H
                clear H
                try go_wp2
                have n0_ := Aside0.mk (below_drew1 HB.out)
                clear HB
                have HB := n0_
                clear n0_
                have p348 : 0 ≤ (x5_1 : Int) := of_decide_eq_true (by first | (with_reducible assumption) | assumption)
                have q348 : x5_1 < (l0.length : Int) := of_decide_eq_true (by first | (with_reducible assumption) | assumption)
                obtain ⟨ad348, e348, hx348_0, hx348_1, hx348_2, hx348_3, hx348_4⟩ := at_T38 HR0.out x5_1 p348 q348
                have hw348_4 := hx348_4
                have hw348_3 := hx348_3
                have hw348_2 := hx348_2
                have hw348_1 := hx348_1
                have hw348_0 := hx348_0
                cases e348
                replace hx348_0 := (HB.out.cell (World.block_lt_of_cell? w _ hx348_0)).trans hx348_0
                replace hx348_1 := (HB.out.cell (World.block_lt_of_cell? w _ hx348_1)).trans hx348_1
                replace hx348_2 := (HB.out.cell (World.block_lt_of_cell? w _ hx348_2)).trans hx348_2
                replace hx348_3 := (HB.out.cell (World.block_lt_of_cell? w _ hx348_3)).trans hx348_3
                replace hx348_4 := (HB.out.cell (World.block_lt_of_cell? w _ hx348_4)).trans hx348_4
                replace p348 := eq_true p348
                replace q348 := eq_true q348
                have p349 : 0 ≤ (x5_1 : Int) := of_decide_eq_true (by first | (with_reducible assumption) | assumption)
                have q349 : x5_1 < (l1.length : Int) := of_decide_eq_true (by first | (with_reducible assumption) | assumption)
                obtain ⟨ad349, e349, hx349_0, hx349_1, hx349_2, hx349_3, hx349_4⟩ := at_T38 HR1.out x5_1 p349 q349
                have hw349_4 := hx349_4
                have hw349_3 := hx349_3
                have hw349_2 := hx349_2
                have hw349_1 := hx349_1
                have hw349_0 := hx349_0
                cases e349
                replace hx349_0 := (HB.out.cell (World.block_lt_of_cell? w _ hx349_0)).trans hx349_0
                replace hx349_1 := (HB.out.cell (World.block_lt_of_cell? w _ hx349_1)).trans hx349_1
                replace hx349_2 := (HB.out.cell (World.block_lt_of_cell? w _ hx349_2)).trans hx349_2
                replace hx349_3 := (HB.out.cell (World.block_lt_of_cell? w _ hx349_3)).trans hx349_3
                replace hx349_4 := (HB.out.cell (World.block_lt_of_cell? w _ hx349_4)).trans hx349_4
                replace p349 := eq_true p349
                replace q349 := eq_true q349
                refine start_ (n := 10) (S := fun w' => w'.cell? (ad348.add ((x5_1).toNat * 5)) = some (.string ((rd_T38 l0 x5_1).f0)) ∧ w'.cell? ⟨(ad348.add ((x5_1).toNat * 5)).block, (ad348.add ((x5_1).toNat * 5)).off + 1, none⟩ = some (.bool ((rd_T38 l0 x5_1).f1)) ∧ w'.cell? ⟨(ad348.add ((x5_1).toNat * 5)).block, (ad348.add ((x5_1).toNat * 5)).off + 2, none⟩ = some (.int .i64 ((rd_T38 l0 x5_1).f2.f0)) ∧ w'.cell? ⟨(ad348.add ((x5_1).toNat * 5)).block, (ad348.add ((x5_1).toNat * 5)).off + 3, none⟩ = some (.int .i64 ((rd_T38 l0 x5_1).f2.f1)) ∧ w'.cell? ⟨(ad348.add ((x5_1).toNat * 5)).block, (ad348.add ((x5_1).toNat * 5)).off + 4, none⟩ = some (.string ((rd_T38 l0 x5_1).f2.f2)) ∧ w'.cell? (ad349.add ((x5_1).toNat * 5)) = some (.string ((rd_T38 l1 x5_1).f0)) ∧ w'.cell? ⟨(ad349.add ((x5_1).toNat * 5)).block, (ad349.add ((x5_1).toNat * 5)).off + 1, none⟩ = some (.bool ((rd_T38 l1 x5_1).f1)) ∧ w'.cell? ⟨(ad349.add ((x5_1).toNat * 5)).block, (ad349.add ((x5_1).toNat * 5)).off + 2, none⟩ = some (.int .i64 ((rd_T38 l1 x5_1).f2.f0)) ∧ w'.cell? ⟨(ad349.add ((x5_1).toNat * 5)).block, (ad349.add ((x5_1).toNat * 5)).off + 3, none⟩ = some (.int .i64 ((rd_T38 l1 x5_1).f2.f1)) ∧ w'.cell? ⟨(ad349.add ((x5_1).toNat * 5)).block, (ad349.add ((x5_1).toNat * 5)).off + 4, none⟩ = some (.string ((rd_T38 l1 x5_1).f2.f2))) (ds := []) #[false, false, false, false, false, false, false, false, false, false] (by kernel_rfl) rfl rfl ⟨((HB.out.cell (World.block_lt_of_cell? w _ hw348_0)).trans hw348_0), ((HB.out.cell (World.block_lt_of_cell? w _ hw348_1)).trans hw348_1), ((HB.out.cell (World.block_lt_of_cell? w _ hw348_2)).trans hw348_2), ((HB.out.cell (World.block_lt_of_cell? w _ hw348_3)).trans hw348_3), ((HB.out.cell (World.block_lt_of_cell? w _ hw348_4)).trans hw348_4), ((HB.out.cell (World.block_lt_of_cell? w _ hw349_0)).trans hw349_0), ((HB.out.cell (World.block_lt_of_cell? w _ hw349_1)).trans hw349_1), ((HB.out.cell (World.block_lt_of_cell? w _ hw349_2)).trans hw349_2), ((HB.out.cell (World.block_lt_of_cell? w _ hw349_3)).trans hw349_3), ((HB.out.cell (World.block_lt_of_cell? w _ hw349_4)).trans hw349_4)⟩ (fun hHeld => ?_); refine with_tabW loessref10_EqRecs.tab6 loessref10_EqRecs.bits6 (fun HT_ HW_ => ?_)
                generalize wr.drew = w9 at HB hx348_0 hx348_1 hx348_2 hx348_3 hx348_4 hx349_0 hx349_1 hx349_2 hx349_3 hx349_4 hHeld ⊢
                refine pure_ (i := 0) (N := some 17) (v := ?_) (a' := ?_) #[true, false, false, false, false, false, false, false, false, false] rfl rfl (any_of HT_.out (by kernel_rfl)) (fun _ _ _ h => h) (Or.inl ⟨by rfl, ?_⟩) ?_ ?_
                rotate_left
                · intro w'
                  go_simp
                  with_reducible rfl
                rotate_left
                · simp only [Act.put, List.setIfInBounds_toArray, List.set_cons_zero, List.set_cons_succ, i64_w, i32_w]
                  rfl
                refine pure_ (i := 1) (N := some 18) (v := ?_) (a' := ?_) #[true, true, false, false, false, false, false, false, false, false] rfl rfl (any_of HT_.out (by kernel_rfl)) (fun _ _ _ h => h) (Or.inl ⟨by rfl, ?_⟩) ?_ ?_
                rotate_left
                · intro w'
                  go_simp
                  with_reducible rfl
                rotate_left
                · simp only [Act.put, List.setIfInBounds_toArray, List.set_cons_zero, List.set_cons_succ, i64_w, i32_w]
                  rfl
                refine pure_ (i := 2) (N := some 19) (v := ?_) (a' := ?_) #[true, true, true, false, false, false, false, false, false, false] rfl rfl (any_of HT_.out (by kernel_rfl)) (fun _ _ _ h => h) (Or.inl ⟨by rfl, ?_⟩) ?_ ?_
                rotate_left
                · intro w'
                  go_simp
                  with_reducible rfl
                rotate_left
                · simp only [Act.put, List.setIfInBounds_toArray, List.set_cons_zero, List.set_cons_succ, i64_w, i32_w]
                  rfl
                refine pure_ (i := 4) (N := some 21) (v := ?_) (a' := ?_) #[true, true, true, false, true, false, false, false, false, false] rfl rfl (any_of HT_.out (by kernel_rfl)) (fun _ _ _ h => h) (Or.inl ⟨by rfl, ?_⟩) ?_ ?_
                rotate_left
                · intro w'
                  go_simp
                  with_reducible rfl
                rotate_left
                · simp only [Act.put, List.setIfInBounds_toArray, List.set_cons_zero, List.set_cons_succ, i64_w, i32_w]
                  rfl
                refine pure_ (i := 5) (N := some 22) (v := ?_) (a' := ?_) #[true, true, true, false, true, true, false, false, false, false] rfl rfl (any_of HT_.out (by kernel_rfl)) (fun _ _ _ h => h) (Or.inl ⟨by rfl, ?_⟩) ?_ ?_
                rotate_left
                · intro w'
                  go_simp
                  with_reducible rfl
                rotate_left
                · simp only [Act.put, List.setIfInBounds_toArray, List.set_cons_zero, List.set_cons_succ, i64_w, i32_w]
                  rfl
                refine pure_ (i := 6) (N := some 23) (v := ?_) (a' := ?_) #[true, true, true, false, true, true, true, false, false, false] rfl rfl (any_of HT_.out (by kernel_rfl)) (fun _ _ _ h => h) (Or.inl ⟨by rfl, ?_⟩) ?_ ?_
                rotate_left
                · intro w'
                  go_simp
                  with_reducible rfl
                rotate_left
                · simp only [Act.put, List.setIfInBounds_toArray, List.set_cons_zero, List.set_cons_succ, i64_w, i32_w]
                  rfl
                refine take_ (i := 3) (N := some 20) (v := ?_) (a' := ?_) #[true, true, true, true, true, true, true, false, false, false] rfl rfl (take_ofW HT_.out HW_.out (by kernel_rfl)) (fun _ _ _ h => h) (Or.inl ⟨by rfl, ?_⟩) hHeld ?_ ?_
                rotate_left
                · rintro w' ⟨s0, s1, s2, s3, s4, s5, s6, s7, s8, s9⟩
                  go_simp
                  with_reducible rfl
                rotate_left
                · simp only [Act.put, List.setIfInBounds_toArray, List.set_cons_zero, List.set_cons_succ, i64_w, i32_w]
                  rfl
                refine take_ (i := 7) (N := some 24) (v := ?_) (a' := ?_) #[true, true, true, true, true, true, true, true, false, false] rfl rfl (take_ofW HT_.out HW_.out (by kernel_rfl)) (fun _ _ _ h => h) (Or.inl ⟨by rfl, ?_⟩) hHeld ?_ ?_
                rotate_left
                · rintro w' ⟨s0, s1, s2, s3, s4, s5, s6, s7, s8, s9⟩
                  go_simp
                  with_reducible rfl
                rotate_left
                · simp only [Act.put, List.setIfInBounds_toArray, List.set_cons_zero, List.set_cons_succ, i64_w, i32_w]
                  rfl
                refine one_ (i := 8) (N := some 25) #[true, true, true, true, true, true, true, true, true, false] rfl rfl (one_of HT_.out (by kernel_rfl)) (by decide) (fun K hK => ?_)
                refine goes_ Try.func29 (by kernel_rfl) rfl #[.agg #[.string ((rd_T38 l0 x5_1).f0), .bool ((rd_T38 l0 x5_1).f1), .int .i64 ((rd_T38 l0 x5_1).f2.f0), .int .i64 ((rd_T38 l0 x5_1).f2.f1), .string ((rd_T38 l0 x5_1).f2.f2)], .agg #[.string ((rd_T38 l1 x5_1).f0), .bool ((rd_T38 l1 x5_1).f1), .int .i64 ((rd_T38 l1 x5_1).f2.f0), .int .i64 ((rd_T38 l1 x5_1).f2.f1), .string ((rd_T38 l1 x5_1).f2.f2)]] (by rfl) rfl rfl (by (try simp only [List.map_toArray, List.map_cons, List.map_nil]); first | done | rfl | (simp only [List.length_drop, List.length_take]; rfl)) ?_
                with_reducible refine (loessref10_Eq.calls ((rd_T38 l0 x5_1).f0) ((rd_T38 l0 x5_1).f1) ((rd_T38 l0 x5_1).f2.f0) ((rd_T38 l0 x5_1).f2.f1) ((rd_T38 l0 x5_1).f2.f2) ((rd_T38 l1 x5_1).f0) ((rd_T38 l1 x5_1).f1) ((rd_T38 l1 x5_1).f2.f0) ((rd_T38 l1 x5_1).f2.f1) ((rd_T38 l1 x5_1).f2.f2) true _ A7.out).mono ?_
                rintro e w10 ⟨rfl, hb⟩
                refine ⟨_, rfl, ?_⟩
                have n0_ := Aside0.mk (below_step (by repeat (first | (with_reducible first | exact HB.out | apply below_alloc | apply pw_below_drewN | apply below_drew1) | exact HB.out)) hb)
                clear HB
                have HB := n0_
                clear n0_
                (try clear hb)
                (try clear hb2)
                (try clear hk)
                (try clear hi)
                refine hK.out _ _ ⟨((HB.out.cell (World.block_lt_of_cell? w _ hw348_0)).trans hw348_0), ((HB.out.cell (World.block_lt_of_cell? w _ hw348_1)).trans hw348_1), ((HB.out.cell (World.block_lt_of_cell? w _ hw348_2)).trans hw348_2), ((HB.out.cell (World.block_lt_of_cell? w _ hw348_3)).trans hw348_3), ((HB.out.cell (World.block_lt_of_cell? w _ hw348_4)).trans hw348_4), ((HB.out.cell (World.block_lt_of_cell? w _ hw349_0)).trans hw349_0), ((HB.out.cell (World.block_lt_of_cell? w _ hw349_1)).trans hw349_1), ((HB.out.cell (World.block_lt_of_cell? w _ hw349_2)).trans hw349_2), ((HB.out.cell (World.block_lt_of_cell? w _ hw349_3)).trans hw349_3), ((HB.out.cell (World.block_lt_of_cell? w _ hw349_4)).trans hw349_4)⟩ (fun hHeld => ?_)
                clear hK K
                refine norm_ (a' := ?_) ?_ ?_
                rotate_left
                · show Act.put _ (some 25) _ = _
                  simp only [Act.put, List.setIfInBounds_toArray, List.set_cons_zero, List.set_cons_succ, i64_w, i32_w]
                  rfl
                refine pure_ (i := 9) (N := some 26) (v := ?_) (a' := ?_) #[true, true, true, true, true, true, true, true, true, true] rfl rfl (any_of HT_.out (by kernel_rfl)) (fun _ _ _ h => h) (Or.inl ⟨by rfl, ?_⟩) ?_ ?_
                rotate_left
                · intro w'
                  go_simp
                  with_reducible rfl
                rotate_left
                · simp only [Act.put, List.setIfInBounds_toArray, List.set_cons_zero, List.set_cons_succ, i64_w, i32_w]
                  rfl
                refine done_ (done_of HT_.out (by kernel_rfl)) ?_
                try go_wp2
                go_roundg k1
                case measure => have := HK1.out; omega
                case rel => exact ⟨(wrap64 (x5_1 + 1)), (by first | rfl | (simp; done) | (simp [*]; done)), H', ⟨by have := HK1.out; omega⟩, ⟨by repeat (first | (with_reducible first | exact HB.out | apply below_alloc | apply pw_below_drewN | apply below_drew1) | exact HB.out)⟩⟩
              · replace c8 := Bool.eq_false_iff.mpr c8
                subst c8
                have H1 : (some false) = some r := by rw [if_neg (show ¬ (false = true) by decide)] at H; exact H
                clear H
                have H := H1
                clear H1
                obtain rfl := Option.some.inj H
                try go_wp2
                have n0_ := Aside0.mk (below_drew1 HB.out)
                clear HB
                have HB := n0_
                clear n0_
                have p348 : 0 ≤ (x5_1 : Int) := of_decide_eq_true (by first | (with_reducible assumption) | assumption)
                have q348 : x5_1 < (l0.length : Int) := of_decide_eq_true (by first | (with_reducible assumption) | assumption)
                obtain ⟨ad348, e348, hx348_0, hx348_1, hx348_2, hx348_3, hx348_4⟩ := at_T38 HR0.out x5_1 p348 q348
                have hw348_4 := hx348_4
                have hw348_3 := hx348_3
                have hw348_2 := hx348_2
                have hw348_1 := hx348_1
                have hw348_0 := hx348_0
                cases e348
                replace hx348_0 := (HB.out.cell (World.block_lt_of_cell? w _ hx348_0)).trans hx348_0
                replace hx348_1 := (HB.out.cell (World.block_lt_of_cell? w _ hx348_1)).trans hx348_1
                replace hx348_2 := (HB.out.cell (World.block_lt_of_cell? w _ hx348_2)).trans hx348_2
                replace hx348_3 := (HB.out.cell (World.block_lt_of_cell? w _ hx348_3)).trans hx348_3
                replace hx348_4 := (HB.out.cell (World.block_lt_of_cell? w _ hx348_4)).trans hx348_4
                replace p348 := eq_true p348
                replace q348 := eq_true q348
                have p349 : 0 ≤ (x5_1 : Int) := of_decide_eq_true (by first | (with_reducible assumption) | assumption)
                have q349 : x5_1 < (l1.length : Int) := of_decide_eq_true (by first | (with_reducible assumption) | assumption)
                obtain ⟨ad349, e349, hx349_0, hx349_1, hx349_2, hx349_3, hx349_4⟩ := at_T38 HR1.out x5_1 p349 q349
                have hw349_4 := hx349_4
                have hw349_3 := hx349_3
                have hw349_2 := hx349_2
                have hw349_1 := hx349_1
                have hw349_0 := hx349_0
                cases e349
                replace hx349_0 := (HB.out.cell (World.block_lt_of_cell? w _ hx349_0)).trans hx349_0
                replace hx349_1 := (HB.out.cell (World.block_lt_of_cell? w _ hx349_1)).trans hx349_1
                replace hx349_2 := (HB.out.cell (World.block_lt_of_cell? w _ hx349_2)).trans hx349_2
                replace hx349_3 := (HB.out.cell (World.block_lt_of_cell? w _ hx349_3)).trans hx349_3
                replace hx349_4 := (HB.out.cell (World.block_lt_of_cell? w _ hx349_4)).trans hx349_4
                replace p349 := eq_true p349
                replace q349 := eq_true q349
                refine start_ (n := 10) (S := fun w' => w'.cell? (ad348.add ((x5_1).toNat * 5)) = some (.string ((rd_T38 l0 x5_1).f0)) ∧ w'.cell? ⟨(ad348.add ((x5_1).toNat * 5)).block, (ad348.add ((x5_1).toNat * 5)).off + 1, none⟩ = some (.bool ((rd_T38 l0 x5_1).f1)) ∧ w'.cell? ⟨(ad348.add ((x5_1).toNat * 5)).block, (ad348.add ((x5_1).toNat * 5)).off + 2, none⟩ = some (.int .i64 ((rd_T38 l0 x5_1).f2.f0)) ∧ w'.cell? ⟨(ad348.add ((x5_1).toNat * 5)).block, (ad348.add ((x5_1).toNat * 5)).off + 3, none⟩ = some (.int .i64 ((rd_T38 l0 x5_1).f2.f1)) ∧ w'.cell? ⟨(ad348.add ((x5_1).toNat * 5)).block, (ad348.add ((x5_1).toNat * 5)).off + 4, none⟩ = some (.string ((rd_T38 l0 x5_1).f2.f2)) ∧ w'.cell? (ad349.add ((x5_1).toNat * 5)) = some (.string ((rd_T38 l1 x5_1).f0)) ∧ w'.cell? ⟨(ad349.add ((x5_1).toNat * 5)).block, (ad349.add ((x5_1).toNat * 5)).off + 1, none⟩ = some (.bool ((rd_T38 l1 x5_1).f1)) ∧ w'.cell? ⟨(ad349.add ((x5_1).toNat * 5)).block, (ad349.add ((x5_1).toNat * 5)).off + 2, none⟩ = some (.int .i64 ((rd_T38 l1 x5_1).f2.f0)) ∧ w'.cell? ⟨(ad349.add ((x5_1).toNat * 5)).block, (ad349.add ((x5_1).toNat * 5)).off + 3, none⟩ = some (.int .i64 ((rd_T38 l1 x5_1).f2.f1)) ∧ w'.cell? ⟨(ad349.add ((x5_1).toNat * 5)).block, (ad349.add ((x5_1).toNat * 5)).off + 4, none⟩ = some (.string ((rd_T38 l1 x5_1).f2.f2))) (ds := []) #[false, false, false, false, false, false, false, false, false, false] (by kernel_rfl) rfl rfl ⟨((HB.out.cell (World.block_lt_of_cell? w _ hw348_0)).trans hw348_0), ((HB.out.cell (World.block_lt_of_cell? w _ hw348_1)).trans hw348_1), ((HB.out.cell (World.block_lt_of_cell? w _ hw348_2)).trans hw348_2), ((HB.out.cell (World.block_lt_of_cell? w _ hw348_3)).trans hw348_3), ((HB.out.cell (World.block_lt_of_cell? w _ hw348_4)).trans hw348_4), ((HB.out.cell (World.block_lt_of_cell? w _ hw349_0)).trans hw349_0), ((HB.out.cell (World.block_lt_of_cell? w _ hw349_1)).trans hw349_1), ((HB.out.cell (World.block_lt_of_cell? w _ hw349_2)).trans hw349_2), ((HB.out.cell (World.block_lt_of_cell? w _ hw349_3)).trans hw349_3), ((HB.out.cell (World.block_lt_of_cell? w _ hw349_4)).trans hw349_4)⟩ (fun hHeld => ?_); refine with_tabW loessref10_EqRecs.tab6 loessref10_EqRecs.bits6 (fun HT_ HW_ => ?_)
                generalize wr.drew = w11 at HB hx348_0 hx348_1 hx348_2 hx348_3 hx348_4 hx349_0 hx349_1 hx349_2 hx349_3 hx349_4 hHeld ⊢
                refine pure_ (i := 0) (N := some 17) (v := ?_) (a' := ?_) #[true, false, false, false, false, false, false, false, false, false] rfl rfl (any_of HT_.out (by kernel_rfl)) (fun _ _ _ h => h) (Or.inl ⟨by rfl, ?_⟩) ?_ ?_
                rotate_left
                · intro w'
                  go_simp
                  with_reducible rfl
                rotate_left
                · simp only [Act.put, List.setIfInBounds_toArray, List.set_cons_zero, List.set_cons_succ, i64_w, i32_w]
                  rfl
                refine pure_ (i := 1) (N := some 18) (v := ?_) (a' := ?_) #[true, true, false, false, false, false, false, false, false, false] rfl rfl (any_of HT_.out (by kernel_rfl)) (fun _ _ _ h => h) (Or.inl ⟨by rfl, ?_⟩) ?_ ?_
                rotate_left
                · intro w'
                  go_simp
                  with_reducible rfl
                rotate_left
                · simp only [Act.put, List.setIfInBounds_toArray, List.set_cons_zero, List.set_cons_succ, i64_w, i32_w]
                  rfl
                refine pure_ (i := 2) (N := some 19) (v := ?_) (a' := ?_) #[true, true, true, false, false, false, false, false, false, false] rfl rfl (any_of HT_.out (by kernel_rfl)) (fun _ _ _ h => h) (Or.inl ⟨by rfl, ?_⟩) ?_ ?_
                rotate_left
                · intro w'
                  go_simp
                  with_reducible rfl
                rotate_left
                · simp only [Act.put, List.setIfInBounds_toArray, List.set_cons_zero, List.set_cons_succ, i64_w, i32_w]
                  rfl
                refine pure_ (i := 4) (N := some 21) (v := ?_) (a' := ?_) #[true, true, true, false, true, false, false, false, false, false] rfl rfl (any_of HT_.out (by kernel_rfl)) (fun _ _ _ h => h) (Or.inl ⟨by rfl, ?_⟩) ?_ ?_
                rotate_left
                · intro w'
                  go_simp
                  with_reducible rfl
                rotate_left
                · simp only [Act.put, List.setIfInBounds_toArray, List.set_cons_zero, List.set_cons_succ, i64_w, i32_w]
                  rfl
                refine pure_ (i := 5) (N := some 22) (v := ?_) (a' := ?_) #[true, true, true, false, true, true, false, false, false, false] rfl rfl (any_of HT_.out (by kernel_rfl)) (fun _ _ _ h => h) (Or.inl ⟨by rfl, ?_⟩) ?_ ?_
                rotate_left
                · intro w'
                  go_simp
                  with_reducible rfl
                rotate_left
                · simp only [Act.put, List.setIfInBounds_toArray, List.set_cons_zero, List.set_cons_succ, i64_w, i32_w]
                  rfl
                refine pure_ (i := 6) (N := some 23) (v := ?_) (a' := ?_) #[true, true, true, false, true, true, true, false, false, false] rfl rfl (any_of HT_.out (by kernel_rfl)) (fun _ _ _ h => h) (Or.inl ⟨by rfl, ?_⟩) ?_ ?_
                rotate_left
                · intro w'
                  go_simp
                  with_reducible rfl
                rotate_left
                · simp only [Act.put, List.setIfInBounds_toArray, List.set_cons_zero, List.set_cons_succ, i64_w, i32_w]
                  rfl
                refine take_ (i := 3) (N := some 20) (v := ?_) (a' := ?_) #[true, true, true, true, true, true, true, false, false, false] rfl rfl (take_ofW HT_.out HW_.out (by kernel_rfl)) (fun _ _ _ h => h) (Or.inl ⟨by rfl, ?_⟩) hHeld ?_ ?_
                rotate_left
                · rintro w' ⟨s0, s1, s2, s3, s4, s5, s6, s7, s8, s9⟩
                  go_simp
                  with_reducible rfl
                rotate_left
                · simp only [Act.put, List.setIfInBounds_toArray, List.set_cons_zero, List.set_cons_succ, i64_w, i32_w]
                  rfl
                refine take_ (i := 7) (N := some 24) (v := ?_) (a' := ?_) #[true, true, true, true, true, true, true, true, false, false] rfl rfl (take_ofW HT_.out HW_.out (by kernel_rfl)) (fun _ _ _ h => h) (Or.inl ⟨by rfl, ?_⟩) hHeld ?_ ?_
                rotate_left
                · rintro w' ⟨s0, s1, s2, s3, s4, s5, s6, s7, s8, s9⟩
                  go_simp
                  with_reducible rfl
                rotate_left
                · simp only [Act.put, List.setIfInBounds_toArray, List.set_cons_zero, List.set_cons_succ, i64_w, i32_w]
                  rfl
                refine one_ (i := 8) (N := some 25) #[true, true, true, true, true, true, true, true, true, false] rfl rfl (one_of HT_.out (by kernel_rfl)) (by decide) (fun K hK => ?_)
                refine goes_ Try.func29 (by kernel_rfl) rfl #[.agg #[.string ((rd_T38 l0 x5_1).f0), .bool ((rd_T38 l0 x5_1).f1), .int .i64 ((rd_T38 l0 x5_1).f2.f0), .int .i64 ((rd_T38 l0 x5_1).f2.f1), .string ((rd_T38 l0 x5_1).f2.f2)], .agg #[.string ((rd_T38 l1 x5_1).f0), .bool ((rd_T38 l1 x5_1).f1), .int .i64 ((rd_T38 l1 x5_1).f2.f0), .int .i64 ((rd_T38 l1 x5_1).f2.f1), .string ((rd_T38 l1 x5_1).f2.f2)]] (by rfl) rfl rfl (by (try simp only [List.map_toArray, List.map_cons, List.map_nil]); first | done | rfl | (simp only [List.length_drop, List.length_take]; rfl)) ?_
                with_reducible refine (loessref10_Eq.calls ((rd_T38 l0 x5_1).f0) ((rd_T38 l0 x5_1).f1) ((rd_T38 l0 x5_1).f2.f0) ((rd_T38 l0 x5_1).f2.f1) ((rd_T38 l0 x5_1).f2.f2) ((rd_T38 l1 x5_1).f0) ((rd_T38 l1 x5_1).f1) ((rd_T38 l1 x5_1).f2.f0) ((rd_T38 l1 x5_1).f2.f1) ((rd_T38 l1 x5_1).f2.f2) false _ A7.out).mono ?_
                rintro e w12 ⟨rfl, hb⟩
                refine ⟨_, rfl, ?_⟩
                have n0_ := Aside0.mk (below_step (by repeat (first | (with_reducible first | exact HB.out | apply below_alloc | apply pw_below_drewN | apply below_drew1) | exact HB.out)) hb)
                clear HB
                have HB := n0_
                clear n0_
                (try clear hb)
                (try clear hb2)
                (try clear hk)
                (try clear hi)
                refine hK.out _ _ ⟨((HB.out.cell (World.block_lt_of_cell? w _ hw348_0)).trans hw348_0), ((HB.out.cell (World.block_lt_of_cell? w _ hw348_1)).trans hw348_1), ((HB.out.cell (World.block_lt_of_cell? w _ hw348_2)).trans hw348_2), ((HB.out.cell (World.block_lt_of_cell? w _ hw348_3)).trans hw348_3), ((HB.out.cell (World.block_lt_of_cell? w _ hw348_4)).trans hw348_4), ((HB.out.cell (World.block_lt_of_cell? w _ hw349_0)).trans hw349_0), ((HB.out.cell (World.block_lt_of_cell? w _ hw349_1)).trans hw349_1), ((HB.out.cell (World.block_lt_of_cell? w _ hw349_2)).trans hw349_2), ((HB.out.cell (World.block_lt_of_cell? w _ hw349_3)).trans hw349_3), ((HB.out.cell (World.block_lt_of_cell? w _ hw349_4)).trans hw349_4)⟩ (fun hHeld => ?_)
                clear hK K
                refine norm_ (a' := ?_) ?_ ?_
                rotate_left
                · show Act.put _ (some 25) _ = _
                  simp only [Act.put, List.setIfInBounds_toArray, List.set_cons_zero, List.set_cons_succ, i64_w, i32_w]
                  rfl
                refine pure_ (i := 9) (N := some 26) (v := ?_) (a' := ?_) #[true, true, true, true, true, true, true, true, true, true] rfl rfl (any_of HT_.out (by kernel_rfl)) (fun _ _ _ h => h) (Or.inl ⟨by rfl, ?_⟩) ?_ ?_
                rotate_left
                · intro w'
                  go_simp
                  with_reducible rfl
                rotate_left
                · simp only [Act.put, List.setIfInBounds_toArray, List.set_cons_zero, List.set_cons_succ, i64_w, i32_w]
                  rfl
                refine done_ (done_of HT_.out (by kernel_rfl)) ?_
                try go_wp2
                go_ret
                exact ⟨by first | rfl | (simp [errW_none, errW_some] <;> rfl) | (simp [*, errW_none, errW_some] <;> rfl), by repeat (first | (with_reducible first | exact HB.out | apply below_alloc | apply pw_below_drewN | apply below_drew1) | exact HB.out)⟩
            · rw [if_neg c6] at H
              exact absurd H (by simp)
          · rw [if_neg c5] at H
            exact absurd H (by simp)
        · rw [if_neg c4] at H
          have c4b0 : decide (x5_1 < (l0.length : Int)) = false := decide_eq_false c4
          clear c4
          obtain rfl := Option.some.inj H
          go_wp2
          go_ret
          exact ⟨by first | rfl | (simp [errW_none, errW_some] <;> rfl) | (simp [*, errW_none, errW_some] <;> rfl), by repeat (first | (with_reducible first | exact HB.out | apply below_alloc | apply pw_below_drewN | apply below_drew1) | exact HB.out)⟩
  · rw [if_neg c3] at H
    have c3b0 : ((l0.length : Int) == (l1.length : Int)) = false := beq_eq_false_iff_ne.mpr c3
    have c3b1 : ((l0.length : Int) != (l1.length : Int)) = true := bne_iff_ne.mpr c3
    have c3b2 : (l0.length == l1.length) = false := by first | simpa using c3 | (simp at c3 ⊢; omega)
    obtain rfl := Option.some.inj H
    go_enter Try.func14, Try.ntmps14
    go_wp2
    go_ret
    exact ⟨by first | rfl | (simp [errW_none, errW_some] <;> rfl) | (simp [*, errW_none, errW_some] <;> rfl), by repeat (first | (with_reducible first | exact HB.out | apply below_alloc | apply pw_below_drewN | apply below_drew1) | exact HB.out)⟩

end Go.Proofs.Ytbogcnfmdakdmaa.XBat

-- Written by wip/xprint.py, this session's wrapper round the kit's print program. Not trusted: Lean checks it.
namespace Go.Proofs.Ytbogcnfmdakdmaa.XBat
open Go.RowKit Go.Proofs.Ytbogcnfmdakdmaa.G Go.Proofs.YtbogcnfmdakdmaaW.PrintWords Go.Proofs.YtbogcnfmdakdmaaW.PrintLast Go.Proofs.YtbogcnfmdakdmaaW.PrintMore
attribute [local go_sem] max2_int min2_int max_two min_two max_three min_three max_four min_four   -- for this text's walks alone
set_option linter.unusedVariables false
set_option linter.unusedSimpArgs false

/-! ### loesslaw10_Cut: function 18 -/
def loesslaw10_Cut.f (a0_0 : ByteArray) (a0_1 : Bool) (a0_2 : Int) (a0_3 : Int) (a0_4 : ByteArray) : Option (ByteArray × Bool × Int × Int × ByteArray) := (loesslaw3_Cut.f a0_0 20).bind fun t265 => ((loesslaw4_Cut.f a0_2 a0_3 a0_4).bind fun bt266 => (some (t265, a0_1, bt266.1, bt266.2.1, bt266.2.2)))
def loesslaw10_Cut.T1 : Bool × List (List Nat × List Nat) := (true, [([], []), ([0], [0]), ([1], [1]), ([], []), ([3], [3]), ([4, 2], [4]), ([0, 1, 2, 3, 4], []), ([6, 2, 5, 0, 1, 2, 3, 4], [2, 6]), ([0, 1, 2, 3, 4, 5, 6, 7], []), ([8, 5, 7, 0, 1, 2, 3, 4, 5, 6, 7], [5, 8])])
def loesslaw10_Cut.B1 : List Nat := [0, 1, 3, 0, 8, 31, 31, 127, 255, 511]
theorem loesslaw10_Cut.tab1 : rtab .any (opsOf Try.f18 1) = loesslaw10_Cut.T1 := by kernel_rfl
theorem loesslaw10_Cut.bits1 : waitsOk loesslaw10_Cut.T1.2 loesslaw10_Cut.B1 = true := by kernel_rfl
set_option maxHeartbeats 8000000 in
set_option maxRecDepth 100000 in
theorem loesslaw10_Cut.calls (a0_0 : ByteArray) (a0_1 : Bool) (a0_2 : Int) (a0_3 : Int) (a0_4 : ByteArray) (r1 : ByteArray) (r2 : Bool) (r3 : Int) (r4 : Int) (r5 : ByteArray) (w : World) (h : loesslaw10_Cut.f a0_0 a0_1 a0_2 a0_3 a0_4 = some (r1, r2, r3, r4, r5)) :
    Calls Try.prog 18 #[.agg #[.string a0_0, .bool a0_1, .int .i64 a0_2, .int .i64 a0_3, .string a0_4]] w fun e w' => e = .returned (.agg #[.string r1, .bool r2, .int .i64 r3, .int .i64 r4, .string r5]) ∧ Below w.heap.size w w' := by
  have hu38 := Try.underlying38
  have hu36 := Try.underlying36
  have HB := Aside0.mk (Below.refl w.heap.size w)
  have H : ((loesslaw3_Cut.f a0_0 20).bind fun t265 => ((loesslaw4_Cut.f a0_2 a0_3 a0_4).bind fun bt266 => (some (t265, a0_1, bt266.1, bt266.2.1, bt266.2.2)))) = some (r1, r2, r3, r4, r5) := h
  clear h
  replace H := Option.bind_eq_some_iff.mp H
  obtain ⟨t265, A20, H⟩ := H
  replace H : ((loesslaw4_Cut.f a0_2 a0_3 a0_4).bind fun bt266 => (some (t265, a0_1, bt266.1, bt266.2.1, bt266.2.2))) = some (r1, r2, r3, r4, r5) := H
  have A2 := Aside0.mk A20
  clear A20
  replace H := Option.bind_eq_some_iff.mp H
  obtain ⟨⟨t266, t267, t268⟩, A30, H⟩ := H
  replace H : (some (t265, a0_1, t266, t267, t268)) = some (r1, r2, r3, r4, r5) := H
  have A3 := Aside0.mk A30
  clear A30
  simp only [Option.some.injEq, Prod.mk.injEq] at H
  obtain ⟨rfl, rfl, rfl, rfl, rfl⟩ := H
  go_enter Try.func18, Try.ntmps18
  try go_wp2_with (first | ((with_reducible refine gate_dst (N := 1) rfl ?_); refine box_event ?hg (N := 1) ?hd (cs := #[.string a0_0, .bool a0_1, .int .i64 a0_2, .int .i64 a0_3, .string a0_4]) (t := 38) ?hr ?_; (case hd => rfl); (case hg => rfl); (case hr => first | (go_simp; done) | (go_simp; rfl)); intro gb263 hg w4 hbox hb; have n0_ := Aside0.mk (below_step (by repeat (first | (with_reducible first | exact HB.out | apply below_alloc | apply pw_below_drewN | apply below_drew1) | exact HB.out)) hb); have n1_ := Aside0.mk (hbox); have n2_ := Aside0.mk ((by rw [hg]; exact (below_size (by repeat (first | (with_reducible first | exact HB.out | apply below_alloc | apply pw_below_drewN | apply below_drew1) | exact HB.out))) : w.heap.size ≤ gb263)); have n3_ := Aside0.mk ((by rw [hg]; exact (below_size (by repeat (first | (with_reducible first | exact HB.out | apply below_alloc | apply pw_below_drewN | apply below_drew1) | exact HB.out))) : w.heap.size ≤ gb263)); clear HB; have HB := n0_; have BK263 := n1_; have GW263 := n2_; have GE263 := n3_; clear n0_ n1_ n2_ n3_; clear hb hbox hg) | ((with_reducible refine gate_dst (N := 2) rfl ?_); refine box_event ?hg (N := 2) ?hd (cs := #[.string (⟨#[]⟩ : ByteArray), .bool false, .int .i64 0, .int .i64 0, .string (⟨#[]⟩ : ByteArray)]) (t := 38) ?hr ?_; (case hd => rfl); (case hg => rfl); (case hr => first | (go_simp; done) | (go_simp; rfl)); intro gb264 hg w5 hbox hb; have n0_ := Aside0.mk (blk_below (g := gb263) (o := .cells #[.string a0_0, .bool a0_1, .int .i64 a0_2, .int .i64 a0_3, .string a0_4] 38 (0, 0)) (by (with_reducible repeat (first | refine blk_drewN ?_ _ | refine blk_drew ?_ | refine blk_alloc ?_ _)); exact BK263.out) hb); have n1_ := Aside0.mk (below_step (by repeat (first | (with_reducible first | exact HB.out | apply below_alloc | apply pw_below_drewN | apply below_drew1 | refine below_set ?_ GE263.out) | exact HB.out)) hb); have n2_ := Aside0.mk (hbox); have n3_ := Aside0.mk ((by rw [hg]; exact (below_size (by repeat (first | (with_reducible first | exact HB.out | apply below_alloc | apply pw_below_drewN | apply below_drew1 | refine below_set ?_ GE263.out) | exact HB.out))) : w.heap.size ≤ gb264)); have n4_ := Aside0.mk ((by rw [hg]; exact (below_size (by repeat (first | (with_reducible first | exact HB.out | apply below_alloc | apply pw_below_drewN | apply below_drew1 | refine below_set ?_ GE263.out) | exact HB.out))) : w.heap.size ≤ gb264)); have n5_ := Aside0.mk ((by rw [hg]; exact Nat.ne_of_lt (blk_lt (g := gb263) (o := .cells #[.string a0_0, .bool a0_1, .int .i64 a0_2, .int .i64 a0_3, .string a0_4] 38 (0, 0)) (by (with_reducible repeat (first | refine blk_drewN ?_ _ | refine blk_drew ?_ | refine blk_alloc ?_ _)); exact BK263.out)) : gb263 ≠ gb264)); have n6_ := Aside0.mk ((by rw [hg]; exact Nat.ne_of_gt (blk_lt (g := gb263) (o := .cells #[.string a0_0, .bool a0_1, .int .i64 a0_2, .int .i64 a0_3, .string a0_4] 38 (0, 0)) (by (with_reducible repeat (first | refine blk_drewN ?_ _ | refine blk_drew ?_ | refine blk_alloc ?_ _)); exact BK263.out)) : gb264 ≠ gb263)); clear BK263; clear HB; have BK263 := n0_; have HB := n1_; have BK264 := n2_; have GW264 := n3_; have GE264 := n4_; have NB263_264 := n5_; have NB264_263 := n6_; clear n0_ n1_ n2_ n3_ n4_ n5_ n6_; clear hb hbox hg))
  have n0_ := Aside0.mk (blk_drew BK263.out)
  have n1_ := Aside0.mk (blk_drew BK264.out)
  have n2_ := Aside0.mk (below_drew1 HB.out)
  clear BK263
  clear BK264
  clear HB
  have BK263 := n0_
  have BK264 := n1_
  have HB := n2_
  clear n0_ n1_ n2_
  refine start_ (n := 10) (S := fun w' => w'.cell? ⟨gb263, 0, none⟩ = some (.string a0_0) ∧ w'.cell? ⟨gb263, 1, none⟩ = some (.bool a0_1) ∧ w'.cell? ⟨gb263, 2, none⟩ = some (.int .i64 a0_2) ∧ w'.cell? ⟨gb263, 3, none⟩ = some (.int .i64 a0_3) ∧ w'.cell? ⟨gb263, 4, none⟩ = some (.string a0_4)) (ds := [7, 9]) #[false, false, false, false, false, false, false, false, false, false] (by kernel_rfl) rfl rfl ⟨(blk_cell BK263.out 0).trans rfl, (blk_cell BK263.out 1).trans rfl, (blk_cell BK263.out 2).trans rfl, (blk_cell BK263.out 3).trans rfl, (blk_cell BK263.out 4).trans rfl⟩ (fun hHeld => ?_); refine with_tabW loesslaw10_Cut.tab1 loesslaw10_Cut.bits1 (fun HT_ HW_ => ?_)
  generalize w5.drew = w6 at BK263 BK264 HB hHeld ⊢
  refine pure_ (i := 0) (N := some 3) (v := ?_) (a' := ?_) #[true, false, false, false, false, false, false, false, false, false] rfl rfl (any_of HT_.out (by kernel_rfl)) (fun _ _ _ h => h) (Or.inl ⟨by rfl, ?_⟩) ?_ ?_
  rotate_left
  · intro w'
    go_simp
    with_reducible rfl
  rotate_left
  · simp only [Act.put, List.setIfInBounds_toArray, List.set_cons_zero, List.set_cons_succ, i64_w, i32_w]
    rfl
  refine pure_ (i := 3) (N := some 6) (v := ?_) (a' := ?_) #[true, false, false, true, false, false, false, false, false, false] rfl rfl (any_of HT_.out (by kernel_rfl)) (fun _ _ _ h => h) (Or.inl ⟨by rfl, ?_⟩) ?_ ?_
  rotate_left
  · intro w'
    go_simp
    with_reducible rfl
  rotate_left
  · simp only [Act.put, List.setIfInBounds_toArray, List.set_cons_zero, List.set_cons_succ, i64_w, i32_w]
    rfl
  refine take_ (i := 1) (N := some 4) (v := ?_) (a' := ?_) #[true, true, false, true, false, false, false, false, false, false] rfl rfl (take_ofW HT_.out HW_.out (by kernel_rfl)) (fun _ _ _ h => h) (Or.inl ⟨by rfl, ?_⟩) hHeld ?_ ?_
  rotate_left
  · rintro w' ⟨s0, s1, s2, s3, s4⟩
    go_simp
    with_reducible rfl
  rotate_left
  · simp only [Act.put, List.setIfInBounds_toArray, List.set_cons_zero, List.set_cons_succ, i64_w, i32_w]
    rfl
  refine take_ (i := 4) (N := some 7) (v := ?_) (a' := ?_) #[true, true, false, true, true, false, false, false, false, false] rfl rfl (take_ofW HT_.out HW_.out (by kernel_rfl)) (fun _ _ _ h => h) (Or.inl ⟨by rfl, ?_⟩) hHeld ?_ ?_
  rotate_left
  · rintro w' ⟨s0, s1, s2, s3, s4⟩
    go_simp
    with_reducible rfl
  rotate_left
  · simp only [Act.put, List.setIfInBounds_toArray, List.set_cons_zero, List.set_cons_succ, i64_w, i32_w]
    rfl
  refine one_ (i := 2) (N := some 5) #[true, true, true, true, true, false, false, false, false, false] rfl rfl (one_of HT_.out (by kernel_rfl)) (by decide) (fun K hK => ?_)
  refine goes_ Try.func33 (by kernel_rfl) rfl #[.string a0_0, .int .i64 20] (by rfl) rfl rfl (by (try simp only [List.map_toArray, List.map_cons, List.map_nil]); first | done | rfl | (simp only [List.length_drop, List.length_take]; rfl)) ?_
  with_reducible refine (loesslaw3_Cut.calls a0_0 20 t265 _ A2.out).mono ?_
  rintro e w' ⟨rfl, ⟨nd, rfl⟩⟩
  refine ⟨_, rfl, ?_⟩
  refine hK.out _ _ ⟨(blk_cell BK263.out 0).trans rfl, (blk_cell BK263.out 1).trans rfl, (blk_cell BK263.out 2).trans rfl, (blk_cell BK263.out 3).trans rfl, (blk_cell BK263.out 4).trans rfl⟩ (fun hHeld => ?_)
  clear hK K
  refine norm_ (a' := ?_) ?_ ?_
  rotate_left
  · show Act.put _ (some 5) _ = _
    simp only [Act.put, List.setIfInBounds_toArray, List.set_cons_zero, List.set_cons_succ, i64_w, i32_w]
    rfl
  refine pure_ (i := 6) (N := some 9) (v := ?_) (a' := ?_) #[true, true, true, true, true, false, true, false, false, false] rfl rfl (any_of HT_.out (by kernel_rfl)) (fun _ _ _ h => h) (Or.inl ⟨by rfl, ?_⟩) ?_ ?_
  rotate_left
  · intro w'
    go_simp
    with_reducible rfl
  rotate_left
  · simp only [Act.put, List.setIfInBounds_toArray, List.set_cons_zero, List.set_cons_succ, i64_w, i32_w]
    rfl
  refine one_ (i := 5) (N := some 8) #[true, true, true, true, true, true, true, false, false, false] rfl rfl (one_of HT_.out (by kernel_rfl)) (by decide) (fun K hK => ?_)
  refine goes_ Try.func34 (by kernel_rfl) rfl #[.agg #[.int .i64 a0_2, .int .i64 a0_3, .string a0_4]] (by rfl) rfl rfl (by (try simp only [List.map_toArray, List.map_cons, List.map_nil]); first | done | rfl | (simp only [List.length_drop, List.length_take]; rfl)) ?_
  with_reducible refine (loesslaw4_Cut.calls a0_2 a0_3 a0_4 t266 t267 t268 _ A3.out).mono ?_
  rintro e w7 ⟨rfl, hb⟩
  refine ⟨_, rfl, ?_⟩
  have n0_ := Aside0.mk (blk_below (g := gb263) (o := .cells #[.string a0_0, .bool a0_1, .int .i64 a0_2, .int .i64 a0_3, .string a0_4] 38 (0, 0)) (by (with_reducible repeat (first | refine blk_drewN ?_ _ | refine blk_drew ?_ | refine blk_alloc ?_ _)); exact BK263.out) hb)
  have n1_ := Aside0.mk (blk_below (g := gb264) (o := .cells #[.string (⟨#[]⟩ : ByteArray), .bool false, .int .i64 0, .int .i64 0, .string (⟨#[]⟩ : ByteArray)] 38 (0, 0)) (by (with_reducible repeat (first | refine blk_drewN ?_ _ | refine blk_drew ?_ | refine blk_alloc ?_ _)); exact BK264.out) hb)
  have n2_ := Aside0.mk (below_step (by repeat (first | (with_reducible first | exact HB.out | apply below_alloc | apply pw_below_drewN | apply below_drew1 | refine below_set ?_ GE263.out | refine below_set ?_ GE264.out) | exact HB.out)) hb)
  clear BK263
  clear BK264
  clear HB
  have BK263 := n0_
  have BK264 := n1_
  have HB := n2_
  clear n0_ n1_ n2_
  (try clear hb)
  (try clear hb2)
  (try clear hk)
  (try clear hi)
  refine hK.out _ _ ⟨(blk_cell BK263.out 0).trans rfl, (blk_cell BK263.out 1).trans rfl, (blk_cell BK263.out 2).trans rfl, (blk_cell BK263.out 3).trans rfl, (blk_cell BK263.out 4).trans rfl⟩ (fun hHeld => ?_)
  clear hK K
  refine norm_ (a' := ?_) ?_ ?_
  rotate_left
  · show Act.put _ (some 8) _ = _
    simp only [Act.put, List.setIfInBounds_toArray, List.set_cons_zero, List.set_cons_succ, i64_w, i32_w]
    rfl
  refine last_ (i := 7) (N := none) #[true, true, true, true, true, true, true, true, false, false] rfl rfl (one_of HT_.out (by kernel_rfl)) (by decide) (fun K hK => ?_)
  have hs8 : w7.cell? ⟨gb263, 0, none⟩ = some (.string a0_0) := (blk_cell BK263.out 0).trans rfl
  have hfs8 := blk_frozen BK263.out 0
  have hns8_1 := NB264_263.out
  have hms8_1 := NB263_264.out
  refine skip_ (w1 := ?_) (by rfl) rfl ?_ ?_
  rotate_left
  · go_simp
    rfl
  refine hK.out _ _ ?_
  clear hK K
  refine pure_ (i := 8) (N := some 10) (v := ?_) (a' := ?_) #[true, true, true, true, true, true, true, true, true, false] rfl rfl (any_of HT_.out (by kernel_rfl)) (fun _ _ _ h => h) (Or.inl ⟨by rfl, ?_⟩) ?_ ?_
  rotate_left
  · intro w'
    go_simp
    with_reducible rfl
  rotate_left
  · simp only [Act.put, List.setIfInBounds_toArray, List.set_cons_zero, List.set_cons_succ, i64_w, i32_w]
    rfl
  refine last_ (i := 9) (N := none) #[true, true, true, true, true, true, true, true, true, true] rfl rfl (one_of HT_.out (by kernel_rfl)) (by decide) (fun K hK => ?_)
  have hs9 : w7.cell? ⟨gb263, 2, none⟩ = some (.int .i64 a0_2) := (blk_cell BK263.out 2).trans rfl
  have hfs9 := blk_frozen BK263.out 2
  have hns9_1 := NB264_263.out
  have hms9_1 := NB263_264.out
  have hs10 : w7.cell? ⟨gb263, 3, none⟩ = some (.int .i64 a0_3) := (blk_cell BK263.out 3).trans rfl
  have hfs10 := blk_frozen BK263.out 3
  have hns10_1 := NB264_263.out
  have hms10_1 := NB263_264.out
  have hs11 : w7.cell? ⟨gb263, 4, none⟩ = some (.string a0_4) := (blk_cell BK263.out 4).trans rfl
  have hfs11 := blk_frozen BK263.out 4
  have hns11_1 := NB264_263.out
  have hms11_1 := NB263_264.out
  refine skip_ (w1 := ?_) (by rfl) rfl ?_ ?_
  rotate_left
  · go_simp
    rfl
  refine hK.out _ _ ?_
  clear hK K
  refine done_ (done_of HT_.out (by kernel_rfl)) ?_
  have hnb12 := NB263_264.out
  have hnc12 := NB264_263.out
  have hcz13_0 : w7.cell? ⟨gb263, 0, none⟩ = some (.string a0_0) := (blk_cell BK263.out 0).trans rfl
  have hcz13_1 : w7.cell? ⟨gb263, 1, none⟩ = some (.bool a0_1) := (blk_cell BK263.out 1).trans rfl
  have hcz13_2 : w7.cell? ⟨gb263, 2, none⟩ = some (.int .i64 a0_2) := (blk_cell BK263.out 2).trans rfl
  have hcz13_3 : w7.cell? ⟨gb263, 3, none⟩ = some (.int .i64 a0_3) := (blk_cell BK263.out 3).trans rfl
  have hcz13_4 : w7.cell? ⟨gb263, 4, none⟩ = some (.string a0_4) := (blk_cell BK263.out 4).trans rfl
  have hfz13_0 := blk_frozen BK263.out 0
  have hfz13_1 := blk_frozen BK263.out 1
  have hfz13_2 := blk_frozen BK263.out 2
  have hfz13_3 := blk_frozen BK263.out 3
  have hfz13_4 := blk_frozen BK263.out 4
  have hcz14_0 : w7.cell? ⟨gb264, 0, none⟩ = some (.string (⟨#[]⟩ : ByteArray)) := (blk_cell BK264.out 0).trans rfl
  have hcz14_1 : w7.cell? ⟨gb264, 1, none⟩ = some (.bool false) := (blk_cell BK264.out 1).trans rfl
  have hcz14_2 : w7.cell? ⟨gb264, 2, none⟩ = some (.int .i64 0) := (blk_cell BK264.out 2).trans rfl
  have hcz14_3 : w7.cell? ⟨gb264, 3, none⟩ = some (.int .i64 0) := (blk_cell BK264.out 3).trans rfl
  have hcz14_4 : w7.cell? ⟨gb264, 4, none⟩ = some (.string (⟨#[]⟩ : ByteArray)) := (blk_cell BK264.out 4).trans rfl
  have hfz14_0 := blk_frozen BK264.out 0
  have hfz14_1 := blk_frozen BK264.out 1
  have hfz14_2 := blk_frozen BK264.out 2
  have hfz14_3 := blk_frozen BK264.out 3
  have hfz14_4 := blk_frozen BK264.out 4
  try go_wp2
  refine bodyPost_ret (results_cell_row rfl _ _ gb264 38 #[.string t265, .bool a0_1, .int .i64 t266, .int .i64 t267, .string t268] (0, 0) _ rfl (by (with_reducible repeat (first | refine blk_drewN ?_ _ | refine blk_drew ?_ | refine blk_alloc ?_ _)); refine blk_put (cs := #[.string t265, .bool a0_1, .int .i64 t266, .int .i64 t267, .string (⟨#[]⟩ : ByteArray)]) ?_ 4 _ rfl; (with_reducible repeat (first | refine blk_drewN ?_ _ | refine blk_drew ?_ | refine blk_alloc ?_ _)); refine blk_put (cs := #[.string t265, .bool a0_1, .int .i64 t266, .int .i64 0, .string (⟨#[]⟩ : ByteArray)]) ?_ 3 _ rfl; (with_reducible repeat (first | refine blk_drewN ?_ _ | refine blk_drew ?_ | refine blk_alloc ?_ _)); refine blk_put (cs := #[.string t265, .bool a0_1, .int .i64 0, .int .i64 0, .string (⟨#[]⟩ : ByteArray)]) ?_ 2 _ rfl; (with_reducible repeat (first | refine blk_drewN ?_ _ | refine blk_drew ?_ | refine blk_alloc ?_ _)); refine blk_put (cs := #[.string t265, .bool false, .int .i64 0, .int .i64 0, .string (⟨#[]⟩ : ByteArray)]) ?_ 1 _ rfl; (with_reducible repeat (first | refine blk_drewN ?_ _ | refine blk_drew ?_ | refine blk_alloc ?_ _)); refine blk_put (cs := #[.string (⟨#[]⟩ : ByteArray), .bool false, .int .i64 0, .int .i64 0, .string (⟨#[]⟩ : ByteArray)]) ?_ 0 _ rfl; (with_reducible repeat (first | refine blk_drewN ?_ _ | refine blk_drew ?_ | refine blk_alloc ?_ _)); refine blk_far ?_ NB264_263.out _; (with_reducible repeat (first | refine blk_drewN ?_ _ | refine blk_drew ?_ | refine blk_alloc ?_ _)); refine blk_far ?_ NB264_263.out _; (with_reducible repeat (first | refine blk_drewN ?_ _ | refine blk_drew ?_ | refine blk_alloc ?_ _)); refine blk_far ?_ NB264_263.out _; (with_reducible repeat (first | refine blk_drewN ?_ _ | refine blk_drew ?_ | refine blk_alloc ?_ _)); refine blk_far ?_ NB264_263.out _; (with_reducible repeat (first | refine blk_drewN ?_ _ | refine blk_drew ?_ | refine blk_alloc ?_ _)); exact BK264.out) Try.underlying38 rfl (by kernel_rfl)) rfl ?_
  exact ⟨by first | rfl | (simp [errW_none, errW_some] <;> rfl) | (simp [*, errW_none, errW_some] <;> rfl), by repeat (first | (with_reducible first | exact HB.out | apply below_alloc | apply pw_below_drewN | apply below_drew1 | refine below_set ?_ GE263.out | refine below_set ?_ GE264.out) | exact HB.out)⟩

end Go.Proofs.Ytbogcnfmdakdmaa.XBat

-- Written by wip/xprint.py, this session's wrapper round the kit's print program. Not trusted: Lean checks it.
namespace Go.Proofs.Ytbogcnfmdakdmaa.XBat
open Go.RowKit Go.Proofs.Ytbogcnfmdakdmaa.G Go.Proofs.YtbogcnfmdakdmaaW.PrintWords Go.Proofs.YtbogcnfmdakdmaaW.PrintLast Go.Proofs.YtbogcnfmdakdmaaW.PrintMore
attribute [local go_sem] max2_int min2_int max_two min_two max_three min_three max_four min_four   -- for this text's walks alone
set_option linter.unusedVariables false
set_option linter.unusedSimpArgs false

/-! ### loesslaw10_Recs: function 8 -/
def loesslaw10_Recs.l0 : Nat → List (S38) → Int → List (S38) → Int → Option ((List (S38)))
  | 0, _, _, _, _ => none
  | k + 1, x0, x1, x5, x6 => if x6 < (x0.length : Int) then (if x6 < x1 then (if 0 ≤ x6 then ((loesslaw10_Cut.f ((rd_T38 x0 x6).f0) ((rd_T38 x0 x6).f1) ((rd_T38 x0 x6).f2.f0) ((rd_T38 x0 x6).f2.f1) ((rd_T38 x0 x6).f2.f2)).bind fun bt270 => (if x5.length < 2513169434916 then (loesslaw10_Recs.l0 k x0 x1 (x5 ++ [(⟨bt270.1, bt270.2.1, (⟨bt270.2.2.1, bt270.2.2.2.1, bt270.2.2.2.2⟩ : S36)⟩ : S38)]) (wrap64 (x6 + 1))) else (none))) else (none)) else (some x5)) else (some x5)
def loesslaw10_Recs.f (k : Nat) (l0 : List (S38)) (a1 : Int) : Option ((List (S38))) := loesslaw10_Recs.l0 k l0 a1 ([] : List (S38)) 0
theorem loesslaw10_Recs.mono_l : ∀ k, (∀ y0 y1 y2 y3, LeO (loesslaw10_Recs.l0 k y0 y1 y2 y3) (loesslaw10_Recs.l0 (k + 1) y0 y1 y2 y3))
  | 0 => fun _ _ _ _ r h => by simp [loesslaw10_Recs.l0] at h
  | k + 1 => by
    have ih0 := loesslaw10_Recs.mono_l k
    · intro y0 y1 y2 y3
      unfold loesslaw10_Recs.l0
      repeat' first
      | (with_reducible exact ih0 _ _ _ _)
      | (with_reducible exact LeO.refl _)
      | (with_reducible exact LeO.none _)
      | (with_reducible refine LeO.ite ?_ ?_)
      | (with_reducible refine LeO.bind ?_ (fun _ => ?_))
      | exact ih0 _ _ _ _
      | exact LeO.none _
      | refine LeO.ite ?_ ?_
      | refine LeO.bind ?_ (fun _ => ?_)
theorem loesslaw10_Recs.mono : ∀ a0 a1 k, LeO (loesslaw10_Recs.f k a0 a1) (loesslaw10_Recs.f (k + 1) a0 a1) := by
  intro a0 a1 k
  have ih0 := loesslaw10_Recs.mono_l k
  unfold loesslaw10_Recs.f
  repeat' first
      | (with_reducible exact ih0 _ _ _ _)
      | (with_reducible exact LeO.refl _)
      | (with_reducible exact LeO.none _)
      | (with_reducible refine LeO.ite ?_ ?_)
      | (with_reducible refine LeO.bind ?_ (fun _ => ?_))
      | exact ih0 _ _ _ _
      | exact LeO.none _
      | refine LeO.ite ?_ ?_
      | refine LeO.bind ?_ (fun _ => ?_)
set_option maxHeartbeats 8000000 in
set_option maxRecDepth 100000 in
theorem loesslaw10_Recs.calls (k : Nat) (A0 : Option Addr) (c0 : Nat) (l0 : List (S38)) (a1 : Int) (r : List (S38)) (w : World) (hr0 : Kd.C k38 w A0 l0.length l0) (hc0 : l0.length ≤ c0) (h : loesslaw10_Recs.f k l0 a1 = some r) :
    Calls Try.prog 8 #[.slice A0 l0.length c0, .int .i64 a1] w fun e w' => ∃ v0_ : Value, e = .returned (v0_) ∧ Kd.R k38 38 w' w.heap.size (fun _ => True) v0_ r ∧ Below w.heap.size w w' := by
  have hu38 := Try.underlying38
  have HR0 := Aside0.mk hr0
  have HC0 := Aside0.mk hc0
  clear hr0 hc0
  have HB := Aside0.mk (Below.refl w.heap.size w)
  have H : (loesslaw10_Recs.l0 k l0 a1 ([] : List (S38)) 0) = some r := h
  clear h
  have H' := Aside0.mk H
  clear H
  go_enter Try.func8, Try.ntmps8
  go_wp2
  go_loopg [5, 6] k (fun kq v5 v6 w' => ∃ (x5_1 : List (S38)) (x6_1 : Int), v6 = .int .i64 x6_1 ∧ Aside0 (loesslaw10_Recs.l0 kq l0 a1 x5_1 x6_1 = some r) ∧ Aside0 (kq ≤ k) ∧ Aside0 (Kd.R k38 38 w' w.heap.size (fun _ => True) v5 x5_1) ∧ Aside0 (Below w.heap.size w w'))
  case atStart => exact ⟨(([] : List (S38))), (0), (by first | rfl | (simp; done) | (simp [*]; done)), H', ⟨Nat.le_refl _⟩, ⟨by first | exact Kd.R_nil _ _ _ _ _ | exact Kd.N_nil _ _ _ _ _ | exact Kd.V_nil _ _ _ _ _ | exact Kd.Q_nil _ _ _ _ _ | exact Kd.S_nil _ _ _ _ _⟩, ⟨by repeat (first | (with_reducible first | exact HB.out | apply below_alloc | apply pw_below_drewN | apply below_drew1) | exact HB.out)⟩⟩
  case round =>
    clear H'
    try clear p2
    obtain ⟨x5_1, x6_1, rfl, HA, HK1, HO_5, HB⟩ := hrel
    cases gk with
    | zero => exact absurd HA.out (by simp [loesslaw10_Recs.l0])
    | succ k1 =>
      have H := HA.out
      clear HA
      simp only [loesslaw10_Recs.l0] at H
      by_cases c3 : x6_1 < (l0.length : Int)
      · rw [if_pos c3] at H
        have c3b0 : decide (x6_1 < (l0.length : Int)) = true := decide_eq_true c3
        clear c3
        by_cases c4 : x6_1 < a1
        · rw [if_pos c4] at H
          have c4b0 : decide (x6_1 < a1) = true := decide_eq_true c4
          clear c4
          by_cases c5 : 0 ≤ x6_1
          · rw [if_pos c5] at H
            have c5b0 : decide (0 ≤ x6_1) = true := decide_eq_true c5
            clear c5
            replace H := Option.bind_eq_some_iff.mp H
            obtain ⟨⟨t270, t271, t272, t273, t274⟩, A60, H⟩ := H
            replace H : (if x5_1.length < 2513169434916 then (loesslaw10_Recs.l0 k1 l0 a1 (x5_1 ++ [(⟨t270, t271, (⟨t272, t273, t274⟩ : S36)⟩ : S38)]) (wrap64 (x6_1 + 1))) else (none)) = some r := H
            have A6 := Aside0.mk A60
            clear A60
            by_cases c7 : x5_1.length < 2513169434916
            · rw [if_pos c7] at H
              have LMc7 := Aside0.mk c7
              clear c7
              obtain ⟨y275, hy275⟩ : ∃ y_ : List (S38), y_ = (x5_1 ++ [(⟨t270, t271, (⟨t272, t273, t274⟩ : S36)⟩ : S38)]) := ⟨_, rfl⟩
              replace H : (loesslaw10_Recs.l0 k1 l0 a1 y275 (wrap64 (x6_1 + 1))) = some r := by first | (rw [hy275]; with_reducible exact H) | (have H2_ := (Option.bind_some _ _).symm.trans H; rw [hy275]; with_reducible exact H2_) | (have H2_ := (Option.bind_some _ _).symm.trans H; with_reducible exact H2_) | with_reducible exact H | (rw [hy275]; exact H) | exact H
              have Ny275 := Aside0.mk hy275
              clear hy275
              have H' := Aside0.mk H
              clear H
              have p269 : 0 ≤ (x6_1 : Int) := of_decide_eq_true (by first | (with_reducible assumption) | assumption)
              have q269 : x6_1 < (l0.length : Int) := of_decide_eq_true (by first | (with_reducible assumption) | assumption)
              obtain ⟨ad269, e269, hx269_0, hx269_1, hx269_2, hx269_3, hx269_4⟩ := at_T38 HR0.out x6_1 p269 q269
              cases e269
              replace hx269_0 := (HB.out.cell (World.block_lt_of_cell? w _ hx269_0)).trans hx269_0
              replace hx269_1 := (HB.out.cell (World.block_lt_of_cell? w _ hx269_1)).trans hx269_1
              replace hx269_2 := (HB.out.cell (World.block_lt_of_cell? w _ hx269_2)).trans hx269_2
              replace hx269_3 := (HB.out.cell (World.block_lt_of_cell? w _ hx269_3)).trans hx269_3
              replace hx269_4 := (HB.out.cell (World.block_lt_of_cell? w _ hx269_4)).trans hx269_4
              replace p269 := eq_true p269
              replace q269 := eq_true q269
              go_wp2_with (first | ((with_reducible refine gate_callee (f := 18) rfl ?_); refine goesL_ (some 23) rfl rfl Try.func18 (by kernel_rfl) rfl #[.agg #[.string ((rd_T38 l0 x6_1).f0), .bool ((rd_T38 l0 x6_1).f1), .int .i64 ((rd_T38 l0 x6_1).f2.f0), .int .i64 ((rd_T38 l0 x6_1).f2.f1), .string ((rd_T38 l0 x6_1).f2.f2)]] rfl (by (try simp only [List.map_toArray, List.map_cons, List.map_nil]); first | done | rfl | (simp only [List.length_drop, List.length_take]; rfl)) ?_; (with_reducible refine (loesslaw10_Cut.calls ((rd_T38 l0 x6_1).f0) ((rd_T38 l0 x6_1).f1) ((rd_T38 l0 x6_1).f2.f0) ((rd_T38 l0 x6_1).f2.f1) ((rd_T38 l0 x6_1).f2.f2) t270 t271 t272 t273 t274 _ A6.out).mono ?_); rintro e w8 ⟨rfl, hb⟩; refine ⟨_, rfl, ?_⟩; have n0_ := Aside0.mk (Kd.R_below (by (with_reducible repeat (first | apply Kd.R_alloc | apply Kd.R_drewN | apply Kd.R_drew)); exact HO_5.out) hb); have n1_ := Aside0.mk (below_step (by repeat (first | (with_reducible first | exact HB.out | apply below_alloc | apply pw_below_drewN | apply below_drew1) | exact HB.out)) hb); clear HO_5; clear HB; have HO_5 := n0_; have HB := n1_; clear n0_ n1_; (try clear hb); (try clear hb2); (try clear hk); (try clear hi)) | ((with_reducible refine gate_builtin (b := .append) (xs := #[.tmp 18, .tmp 24]) rfl ?_); at_builtin; refine Kd.R_append k38 (w0 := w) w.heap.size rfl (.tmp 18) (.tmp 24) 22 38 (.agg #[(.string ⟨#[]⟩), (.bool false), (.int .i64 0), (.int .i64 0), (.string ⟨#[]⟩)]) 56 rfl Try.underlying22 info38 rfl (by decide) (by omega) u5 x5_1 (⟨t270, t271, (⟨t272, t273, t274⟩ : S36)⟩ : S38) [.string t270, .bool t271, .int .i64 t272, .int .i64 t273, .string t274] (fun _ => True) (fun _ => False) rfl rfl ?aP (fun _ hk => hk.elim) ?aF ?aO ?aB ?aS ?aL ?_; (case aP => exact k38_mkM _ _ _ (⟨t270, t271, (⟨t272, t273, t274⟩ : S36)⟩ : S38)); (case aB => exact (by repeat (first | (with_reducible first | exact HB.out | apply below_alloc | apply pw_below_drewN | apply below_drew1) | exact HB.out))); (case aF => exact (fun _ _ => trivial)); (case aO => exact (by (with_reducible repeat (first | apply Kd.R_alloc | apply Kd.R_drewN | apply Kd.R_drew)); exact HO_5.out)); (case aS => exact (below_size (by repeat (first | (with_reducible first | exact HB.out | apply below_alloc | apply pw_below_drewN | apply below_drew1) | exact HB.out)))); (case aL => have := LMc7.out; omega); intro v276 w9 ho hb hg hat; rw [← Ny275.out] at ho; have n0_ := Aside0.mk (hb); have n1_ := Aside0.mk (ho); clear HB; clear HO_5; have HB := n0_; have HO277 := n1_; clear n0_ n1_; clear ho hb hg hat))
              go_roundg k1
              case measure => have := HK1.out; omega
              case rel => exact ⟨(y275), (wrap64 (x6_1 + 1)), (by first | rfl | (simp; done) | (simp [*]; done)), H', ⟨by have := HK1.out; omega⟩, ⟨by (with_reducible repeat (first | apply Kd.R_alloc | apply Kd.R_drewN | apply Kd.R_drew)); exact HO277.out⟩, ⟨by repeat (first | (with_reducible first | exact HB.out | apply below_alloc | apply pw_below_drewN | apply below_drew1) | exact HB.out)⟩⟩
            · rw [if_neg c7] at H
              exact absurd H (by simp)
          · rw [if_neg c5] at H
            exact absurd H (by simp)
        · rw [if_neg c4] at H
          have c4b0 : decide (x6_1 < a1) = false := decide_eq_false c4
          clear c4
          obtain rfl := Option.some.inj H
          go_wp2
          go_ret
          exact ⟨_, by first | rfl | (simp [errW_none, errW_some] <;> rfl) | (simp [*, errW_none, errW_some] <;> rfl), by (with_reducible repeat (first | apply Kd.R_alloc | apply Kd.R_drewN | apply Kd.R_drew)); exact HO_5.out, by repeat (first | (with_reducible first | exact HB.out | apply below_alloc | apply pw_below_drewN | apply below_drew1) | exact HB.out)⟩
      · rw [if_neg c3] at H
        have c3b0 : decide (x6_1 < (l0.length : Int)) = false := decide_eq_false c3
        clear c3
        obtain rfl := Option.some.inj H
        go_wp2
        go_ret
        exact ⟨_, by first | rfl | (simp [errW_none, errW_some] <;> rfl) | (simp [*, errW_none, errW_some] <;> rfl), by (with_reducible repeat (first | apply Kd.R_alloc | apply Kd.R_drewN | apply Kd.R_drew)); exact HO_5.out, by repeat (first | (with_reducible first | exact HB.out | apply below_alloc | apply pw_below_drewN | apply below_drew1) | exact HB.out)⟩

end Go.Proofs.Ytbogcnfmdakdmaa.XBat

-- Written by wip/xprint.py, this session's wrapper round the kit's print program. Not trusted: Lean checks it.
namespace Go.Proofs.Ytbogcnfmdakdmaa.XBat
open Go.RowKit Go.Proofs.Ytbogcnfmdakdmaa.G Go.Proofs.YtbogcnfmdakdmaaW.PrintWords Go.Proofs.YtbogcnfmdakdmaaW.PrintLast Go.Proofs.YtbogcnfmdakdmaaW.PrintMore
attribute [local go_sem] max2_int min2_int max_two min_two max_three min_three max_four min_four   -- for this text's walks alone
set_option linter.unusedVariables false
set_option linter.unusedSimpArgs false

/-! ### loesslaw16_tells: function 17 -/
def loesslaw16_tells.f (k : Nat) (l0 : List Int) : Option (Bool) := (batch_Decode.f k l0).bind fun bt384 => (if bt384.2 = 0 then ((loessref10_Row.f k bt384.1).bind fun t388 => (some ((strOfNums t388).toList == (strOfNums l0).toList))) else (if bt384.2 = 8 then (some ((bt384.1.length : Int) == 0)) else (none)))
theorem loesslaw16_tells.mono : ∀ a0 k, LeO (loesslaw16_tells.f k a0) (loesslaw16_tells.f (k + 1) a0) := by
  intro a0 k
  unfold loesslaw16_tells.f
  repeat' first
      | (with_reducible exact batch_Decode.mono _ _)
      | (with_reducible exact loessref10_Row.mono _ _)
      | (with_reducible exact LeO.refl _)
      | (with_reducible exact LeO.none _)
      | (with_reducible refine LeO.ite ?_ ?_)
      | (with_reducible refine LeO.bind ?_ (fun _ => ?_))
      | exact batch_Decode.mono _ _
      | exact loessref10_Row.mono _ _
      | exact LeO.none _
      | refine LeO.ite ?_ ?_
      | refine LeO.bind ?_ (fun _ => ?_)
set_option maxHeartbeats 8000000 in
set_option maxRecDepth 100000 in
theorem loesslaw16_tells.calls (k : Nat) (A0 : Option Addr) (c0 : Nat) (l0 : List Int) (r : Bool) (w : World) (hr0 : Kd.C (Kd.int .u8) w A0 l0.length l0) (hc0 : l0.length ≤ c0) (h : loesslaw16_tells.f k l0 = some r) :
    Calls Try.prog 17 #[.slice A0 l0.length c0] w fun e w' => e = .returned (.bool r) ∧ Below w.heap.size w w' := by
  have HR0 := Aside0.mk hr0
  have HC0 := Aside0.mk hc0
  clear hr0 hc0
  have HB := Aside0.mk (Below.refl w.heap.size w)
  have H : ((batch_Decode.f k l0).bind fun bt384 => (if bt384.2 = 0 then ((loessref10_Row.f k bt384.1).bind fun t388 => (some ((strOfNums t388).toList == (strOfNums l0).toList))) else (if bt384.2 = 8 then (some ((bt384.1.length : Int) == 0)) else (none)))) = some r := h
  clear h
  replace H := Option.bind_eq_some_iff.mp H
  obtain ⟨⟨t384, t385⟩, A20, H⟩ := H
  replace H : (if t385 = 0 then ((loessref10_Row.f k t384).bind fun t388 => (some ((strOfNums t388).toList == (strOfNums l0).toList))) else (if t385 = 8 then (some ((t384.length : Int) == 0)) else (none))) = some r := H
  have A2 := Aside0.mk A20
  clear A20
  by_cases c3 : t385 = 0
  · rw [if_pos c3] at H
    have c3b0 : (t385 == 0) = true := beq_iff_eq.mpr c3
    have c3b1 : (t385 != 0) = false := bne_eq_false_iff_eq.mpr c3
    clear c3
    replace H := Option.bind_eq_some_iff.mp H
    obtain ⟨t388, A40, H⟩ := H
    replace H : (some ((strOfNums t388).toList == (strOfNums l0).toList)) = some r := H
    have A4 := Aside0.mk A40
    clear A40
    obtain rfl := Option.some.inj H
    go_enter Try.func17, Try.ntmps17
    try go_wp2_with (first | ((with_reducible refine gate_callee (f := 15) rfl ?_); refine goesL_ (some 7) rfl rfl Try.func15 (by kernel_rfl) rfl #[.slice A0 l0.length c0] rfl (by (try simp only [List.map_toArray, List.map_cons, List.map_nil]); first | done | rfl | (simp only [List.length_drop, List.length_take]; rfl)) ?_; (with_reducible refine (batch_Decode.calls k _ _ l0 t384 t385 _ ?side1 ?side2 A2.out).mono ?_); (case side1 => repeat (first | exact HR0.out | (with_reducible refine Kd.C_alloc ?_ _) | (with_reducible refine Kd.C_drewN ?_ _) | (with_reducible refine Kd.C_drew ?_))); (case side2 => exact HC0.out); rintro e w5 ⟨v386, rfl, ho0, hb⟩; refine ⟨_, rfl, ?_⟩; have n0_ := Aside0.mk (Kd.R_lower ho0 (below_size (by repeat (first | (with_reducible first | exact HB.out | apply below_alloc | apply pw_below_drewN | apply below_drew1) | exact HB.out)))); have n1_ := Aside0.mk (below_step (by repeat (first | (with_reducible first | exact HB.out | apply below_alloc | apply pw_below_drewN | apply below_drew1) | exact HB.out)) hb); clear HB; have HO387 := n0_; have HB := n1_; clear n0_ n1_; (try clear hb); (try clear hb2); (try clear hk); (try clear hi); (try clear ho0)))
    have n0_ := Aside0.mk (Kd.R_drew HO387.out)
    have n1_ := Aside0.mk (below_drew1 HB.out)
    clear HO387
    clear HB
    have HO387 := n0_
    have HB := n1_
    clear n0_ n1_
    obtain ⟨Ao7, co7, eo7⟩ := Kd.R_slice HO387.out
    (first | subst eo7 | (injection eo7 with f1_ f2_ f3_; have f4_ := f1_.symm; have f5_ := f3_.symm; clear f1_ f2_ f3_; subst f4_; subst f5_))
    refine start_ (n := 7) (S := fun w' => (Kd.int .u8).C w' A0 l0.length l0) (ds := []) #[false, false, false, false, false, false, false] (by kernel_rfl) rfl rfl ((Kd.C_below HR0.out HB.out)) (fun hHeld => ?_)
    generalize w5.drew = w6 at HO387 HB hHeld ⊢
    refine pure_ (i := 0) (N := some 19) (v := ?_) (a' := ?_) #[true, false, false, false, false, false, false] rfl rfl (by kernel_rfl) (fun _ _ _ h => h) (Or.inl ⟨by rfl, ?_⟩) ?_ ?_
    rotate_left
    · intro w'
      go_simp
      with_reducible rfl
    rotate_left
    · simp only [Act.put, List.setIfInBounds_toArray, List.set_cons_zero, List.set_cons_succ, i64_w, i32_w]
      rfl
    refine pure_ (i := 3) (N := some 22) (v := ?_) (a' := ?_) #[true, false, false, true, false, false, false] rfl rfl (by kernel_rfl) (fun _ _ _ h => h) (Or.inl ⟨by rfl, ?_⟩) ?_ ?_
    rotate_left
    · intro w'
      go_simp
      with_reducible rfl
    rotate_left
    · simp only [Act.put, List.setIfInBounds_toArray, List.set_cons_zero, List.set_cons_succ, i64_w, i32_w]
      rfl
    refine take_ (i := 4) (N := some 23) (v := ?_) (a' := ?_) #[true, false, false, true, true, false, false] rfl rfl (by kernel_rfl) (fun _ _ _ h => h) (Or.inl ⟨by rfl, ?_⟩) hHeld ?_ ?_
    rotate_left
    · intro w' s0
      have hc_ := Kd.C_string (P := Try.prog) (A := A0) (c := c0) Try.underlying25 Try.underlying5 Try.underlying9 s0
      go_simp
      with_reducible rfl
    rotate_left
    · simp only [Act.put, List.setIfInBounds_toArray, List.set_cons_zero, List.set_cons_succ, i64_w, i32_w]
      rfl
    refine one_ (i := 1) (N := some 20) #[true, true, false, true, true, false, false] rfl rfl (by kernel_rfl) (by decide) (fun K hK => ?_)
    refine goes_ Try.func12 (by kernel_rfl) rfl #[.slice Ao7 t384.length co7] (by rfl) rfl rfl (by (try simp only [List.map_toArray, List.map_cons, List.map_nil]); first | done | rfl | (simp only [List.length_drop, List.length_take]; rfl)) ?_
    with_reducible refine (loessref10_Row.calls k _ _ t384 t388 _ ?side1 ?side2 A4.out).mono ?_
    (case side1 => repeat (first | exact (Kd.R_reads' HO387.out).2.2 | (with_reducible refine Kd.C_alloc ?_ _) | (with_reducible refine Kd.C_drewN ?_ _) | (with_reducible refine Kd.C_drew ?_)))
    (case side2 => exact (Kd.R_reads' HO387.out).2.1)
    rintro e w8 ⟨v389, rfl, ho0, hb⟩
    refine ⟨_, rfl, ?_⟩
    have n0_ := Aside0.mk (Kd.R_below (by (with_reducible repeat (first | apply Kd.R_alloc | apply Kd.R_drewN | apply Kd.R_drew)); exact HO387.out) hb)
    have n1_ := Aside0.mk (Kd.R_lower ho0 (below_size (by repeat (first | (with_reducible first | exact HB.out | apply below_alloc | apply pw_below_drewN | apply below_drew1) | exact HB.out))))
    have n2_ := Aside0.mk (below_step (by repeat (first | (with_reducible first | exact HB.out | apply below_alloc | apply pw_below_drewN | apply below_drew1) | exact HB.out)) hb)
    clear HO387
    clear HB
    have HO387 := n0_
    have HO390 := n1_
    have HB := n2_
    clear n0_ n1_ n2_
    (try clear hb)
    (try clear hb2)
    (try clear hk)
    (try clear hi)
    (try clear ho0)
    refine hK.out _ _ ((Kd.C_below HR0.out HB.out)) (fun hHeld => ?_)
    clear hK K
    refine norm_ (a' := ?_) ?_ ?_
    rotate_left
    · show Act.put _ (some 20) _ = _
      simp only [Act.put, List.setIfInBounds_toArray, List.set_cons_zero, List.set_cons_succ, i64_w, i32_w]
      rfl
    refine one_ (i := 2) (N := some 21) #[true, true, true, true, true, false, false] rfl rfl (by kernel_rfl) (by decide) (fun K hK => ?_)
    have hcv9 := own_string (P := Try.prog) Try.underlying25 Try.underlying5 Try.underlying9 (Kd.own_of_R HO390.out)
    refine value_ (w1 := ?_) (v := ?_) (by rfl) rfl ?_ ?_
    rotate_left 2
    · go_simp
      constructor
      · rfl
      · rfl
    clear hcv9
    refine hK.out _ _ ((Kd.C_below HR0.out HB.out)) (fun hHeld => ?_)
    clear hK K
    refine norm_ (a' := ?_) ?_ ?_
    rotate_left
    · show Act.put _ (some 21) _ = _
      simp only [Act.put, List.setIfInBounds_toArray, List.set_cons_zero, List.set_cons_succ, i64_w, i32_w]
      rfl
    refine pure_ (i := 5) (N := some 24) (v := ?_) (a' := ?_) #[true, true, true, true, true, true, false] rfl rfl (by kernel_rfl) (fun _ _ _ h => h) (Or.inl ⟨by rfl, ?_⟩) ?_ ?_
    rotate_left
    · intro w'
      go_simp
      with_reducible rfl
    rotate_left
    · simp only [Act.put, List.setIfInBounds_toArray, List.set_cons_zero, List.set_cons_succ, i64_w, i32_w]
      rfl
    refine pure_ (i := 6) (N := some 2) (v := ?_) (a' := ?_) #[true, true, true, true, true, true, true] rfl rfl (by kernel_rfl) (fun _ _ _ h => h) (Or.inl ⟨by rfl, ?_⟩) ?_ ?_
    rotate_left
    · intro w'
      go_simp
      with_reducible rfl
    rotate_left
    · simp only [Act.put, List.setIfInBounds_toArray, List.set_cons_zero, List.set_cons_succ, i64_w, i32_w]
      rfl
    refine done_ (by kernel_rfl) ?_
    try go_wp2
    go_ret
    exact ⟨by first | rfl | (simp [errW_none, errW_some] <;> rfl) | (simp [*, errW_none, errW_some] <;> rfl), by repeat (first | (with_reducible first | exact HB.out | apply below_alloc | apply pw_below_drewN | apply below_drew1) | exact HB.out)⟩
  · rw [if_neg c3] at H
    have c3b0 : (t385 == 0) = false := beq_eq_false_iff_ne.mpr c3
    have c3b1 : (t385 != 0) = true := bne_iff_ne.mpr c3
    by_cases c10 : t385 = 8
    · rw [if_pos c10] at H
      have c10b0 : (t385 == 8) = true := beq_iff_eq.mpr c10
      have c10b1 : (t385 != 8) = false := bne_eq_false_iff_eq.mpr c10
      clear c10
      obtain rfl := Option.some.inj H
      go_enter Try.func17, Try.ntmps17
      go_wp2_with (first | ((with_reducible refine gate_callee (f := 15) rfl ?_); refine goesL_ (some 7) rfl rfl Try.func15 (by kernel_rfl) rfl #[.slice A0 l0.length c0] rfl (by (try simp only [List.map_toArray, List.map_cons, List.map_nil]); first | done | rfl | (simp only [List.length_drop, List.length_take]; rfl)) ?_; (with_reducible refine (batch_Decode.calls k _ _ l0 t384 t385 _ ?side1 ?side2 A2.out).mono ?_); (case side1 => repeat (first | exact HR0.out | (with_reducible refine Kd.C_alloc ?_ _) | (with_reducible refine Kd.C_drewN ?_ _) | (with_reducible refine Kd.C_drew ?_))); (case side2 => exact HC0.out); rintro e w11 ⟨v386, rfl, ho0, hb⟩; refine ⟨_, rfl, ?_⟩; have n0_ := Aside0.mk (Kd.R_lower ho0 (below_size (by repeat (first | (with_reducible first | exact HB.out | apply below_alloc | apply pw_below_drewN | apply below_drew1) | exact HB.out)))); have n1_ := Aside0.mk (below_step (by repeat (first | (with_reducible first | exact HB.out | apply below_alloc | apply pw_below_drewN | apply below_drew1) | exact HB.out)) hb); clear HB; have HO387 := n0_; have HB := n1_; clear n0_ n1_; (try clear hb); (try clear hb2); (try clear hk); (try clear hi); (try clear ho0); obtain ⟨Ao12, co12, eo12⟩ := Kd.R_slice HO387.out; subst eo12))
      go_ret
      exact ⟨by first | rfl | (simp [errW_none, errW_some] <;> rfl) | (simp [*, errW_none, errW_some] <;> rfl), by repeat (first | (with_reducible first | exact HB.out | apply below_alloc | apply pw_below_drewN | apply below_drew1) | exact HB.out)⟩
    · rw [if_neg c10] at H
      exact absurd H (by simp)

end Go.Proofs.Ytbogcnfmdakdmaa.XBat

/- package batch and its reference in plain Lean. -/
set_option linter.unusedVariables false
set_option linter.unusedSimpArgs false
namespace Go.Proofs.Ytbogcnfmdakdmaa.Q
open Go.RowKit Go.Proofs.YtbogcnfmdakdmaaW.PrintWords Go.Proofs.YtbogcnfmdakdmaaW.PrintMore Go.Proofs.Ytbogcnfmdakdmaa.G Go.Proofs.Ytbogcnfmdakdmaa.XBat Go.Proofs.Ytbogcnfmdakdmaa.GL
abbrev rr (l : List Rc) (i : Nat) : Rc := rd_T38 l (i : Int)
theorem rr_get {l : List Rc} {i : Nat} (h : i < l.length) : rr l i = l[i] := by simp [rd_T38, h]
theorem rr_mem {l : List Rc} {i : Nat} (h : i < l.length) : rr l i ∈ l := by rw [rr_get h]; exact List.getElem_mem h
theorem rr_drop {l : List Rc} {i : Nat} (h : i < l.length) : l.drop i = rr l i :: l.drop (i + 1) := by rw [List.drop_eq_getElem_cons h, rr_get h]
/-- A record as bytes can bear it. -/
def WkR (x : Rc) : Prop := x.f2.f2.size < 17592186044416 ∧ I64 x.f2.f0 ∧ I64 x.f2.f1
theorem SmR.wk {x : Rc} (h : SmR x) : WkR x := ⟨by have := h.2.1; omega, h.2.2.1, h.2.2.2⟩
theorem may_sm {x : Rc} (h : mayR x = true) (hw : WkR x) : SmR x := mayR_sm h hw.2.2
theorem mayB_iff (l : List Rc) : mayB l = true ↔ l.length ≤ 1000 ∧ ∀ x ∈ l, mayR x = true := by
  unfold mayB
  rw [Bool.and_eq_true, decide_eq_true_eq, List.all_eq_true]
def encF (l : List Rc) : List Int := putN l.length ++ l.flatMap putR
def encB (l : List Rc) : List Int := if mayB l = true then encF l else []
theorem encF_byt (l : List Rc) : Byt (encF l) := by
  unfold encF
  refine (putN_byt _).append ?_
  induction l with
  | nil => exact Byt.nil
  | cons x r ih => exact (putR_byt x).append ih
theorem encB_byt (l : List Rc) : Byt (encB l) := by
  unfold encB
  split
  · exact encF_byt l
  · exact Byt.nil
theorem flatR_len {l : List Rc} (h : ∀ x ∈ l, SmR x) : (l.flatMap putR).length ≤ 80 * l.length := by
  induction l with
  | nil => simp
  | cons x r ih =>
    have := putR_len (h x List.mem_cons_self)
    have := ih (fun y hy => h y (List.mem_cons_of_mem _ hy))
    simp only [List.flatMap_cons, List.length_append, List.length_cons]
    omega
theorem encF_len {l : List Rc} (hl : l.length ≤ 1000) (h : ∀ x ∈ l, SmR x) (i : Nat) : (putN (l.length : Int) ++ (l.take i).flatMap putR).length ≤ 80010 := by
  have h2 := flatR_len (l := l.take i) (fun x hx => h x (List.mem_of_mem_take hx))
  have h3 := putN_len (n := (l.length : Int)) (by unfold I64; omega)
  have h4 : (l.take i).length ≤ l.length := by rw [List.length_take]; omega
  rw [List.length_append]
  omega
theorem encF_step {l : List Rc} {i : Nat} (h : i < l.length) : putN (l.length : Int) ++ (l.take (i + 1)).flatMap putR = putN (l.length : Int) ++ (l.take i).flatMap putR ++ putR (rr l i) := by
  rw [List.take_succ_eq_append_getElem h, List.flatMap_append, rr_get h]
  simp [List.append_assoc]
theorem encode_l (l : List Rc) (hl : l.length ≤ 1000) (h : ∀ x ∈ l, SmR x) : ∀ (d i : Nat), i + d = l.length → Ev (fun k => batch_Encode.l0 k (putN (l.length : Int) ++ (l.take i).flatMap putR) l (l.length : Int) (i : Int)) (encF l) := by
  intro d
  induction d with
  | zero =>
    intro i hi
    refine Ev.step (fun k => by unfold batch_Encode.l0; rfl) (Ev.congr (fun k => if_neg (by omega)) (evEq (Ev.now _) ?_))
    rw [List.take_of_length_le (by omega)]
    rfl
  | succ d ih =>
    intro i hi
    have hrec := ih (i + 1) (by omega)
    rw [encF_step (show i < l.length by omega)] at hrec
    have hx := h _ (rr_mem (show i < l.length by omega))
    have hlen := encF_len hl h i
    refine Ev.step (fun k => by unfold batch_Encode.l0; rfl) (Ev.congr (fun k => if_pos (by omega)) (Ev.congr (fun k => if_pos (by omega)) (Ev.congr (fun k => if_pos (by omega)) ?_)))
    rw [w64 (x := (i : Int) + 1) (by omega) (by omega)]
    exact Ev.bind (record_Put_ev hx _ (by omega)) hrec
theorem batch_May_eq {l : List Rc} (h : ∀ x ∈ l, WkR x) : batch_May.f l = some (mayB l) := by
  unfold batch_May.f
  rw [if_pos (fun x hx => (h x hx).1)]
theorem encode_ev {l : List Rc} (h : ∀ x ∈ l, WkR x) : Ev (fun k => batch_Encode.f k l) (encB l) := by
  unfold batch_Encode.f encB
  refine Ev.bind (evC (batch_May_eq h)) ?_
  by_cases hm : mayB l = true
  · obtain ⟨h1, h2⟩ := (mayB_iff l).1 hm
    refine Ev.congr (fun k => if_pos hm) ?_
    rw [if_pos hm]
    refine Ev.bind (num_Put_ev (n := (l.length : Int)) (by unfold I64; omega) [] (by simp)) ?_
    have := encode_l l h1 (fun x hx => may_sm (h2 x hx) (h x hx)) l.length 0 (by omega)
    simpa using this
  · refine Ev.congr (fun k => if_neg hm) ?_
    rw [if_neg hm]
    exact Ev.now _
def readB (l : List Int) : Nat → Int → List Rc → Option (List Rc)
  | 0, _, acc => some acc
  | d + 1, p, acc => if (getR (l.drop p.toNat)).2.2 = 0 then readB l d (p + (getR (l.drop p.toNat)).2.1) (acc ++ [(getR (l.drop p.toNat)).1]) else none
theorem readB_succ (l : List Int) (d : Nat) (p : Int) (acc : List Rc) : readB l (d + 1) p acc = if (getR (l.drop p.toNat)).2.2 = 0 then readB l d (p + (getR (l.drop p.toNat)).2.1) (acc ++ [(getR (l.drop p.toNat)).1]) else none := rfl
def finB (l : List Int) : Option (List Rc) → List Rc × Int
  | none => ([], 8)
  | some r => if encB r = l then (r, 0) else ([], 8)
def decB (l : List Int) : List Rc × Int := if (getN l).2.2 = 0 ∧ 0 ≤ (getN l).1 ∧ (getN l).1 ≤ 1000 then finB l (readB l (getN l).1.toNat (getN l).2.1 []) else ([], 8)
theorem getV_ok {l : List Int} (hb : Byt l) : (getV l).2.2.1.size < 17592186044416 ∧ I64 (getV l).1 ∧ I64 (getV l).2.1 := by
  have b1 := getN_i64 (hb.drop (getN l).2.1.toNat)
  have b2 := getT_size _ (hb.drop (getN l).2.1.toNat)
  have z : I64 0 := by unfold I64; omega
  have z1 : I64 1 := by unfold I64; omega
  have z2 : I64 2 := by unfold I64; omega
  have e0 : (⟨#[]⟩ : ByteArray).size < 17592186044416 := by decide
  unfold getV
  split
  · split
    · split
      · exact ⟨e0, z1, b1⟩
      · exact ⟨e0, z, z⟩
    · split
      · split
        · split
          · exact ⟨by simp only; omega, z2, z⟩
          · exact ⟨e0, z, z⟩
        · exact ⟨e0, z, z⟩
      · exact ⟨e0, z, z⟩
  · exact ⟨e0, z, z⟩
theorem getR_ok {l : List Int} (hb : Byt l) : WkR (getR l).1 := by
  have b := getV_ok (hb.drop (getT l).2.1.toNat)
  have z : I64 0 := by unfold I64; omega
  have e0 : (⟨#[]⟩ : ByteArray).size < 17592186044416 := by decide
  unfold getR
  split
  · split
    · unfold tailR
      split
      · split
        · exact ⟨e0, z, z⟩
        · split
          · exact b
          · exact ⟨e0, z, z⟩
      · exact ⟨e0, z, z⟩
    · exact ⟨e0, z, z⟩
  · exact ⟨e0, z, z⟩
theorem decode_l (l : List Int) (hb : Byt l) (hl : l.length < 4611686018427387904) (N : Nat) (hN : N ≤ 1000) : ∀ (d i : Nat) (p : Int) (acc : List Rc), i + d = N → 0 ≤ p → p ≤ (l.length : Int) → acc.length = i → (∀ x ∈ acc, WkR x) → Ev (fun k => batch_Decode.l0 k l p acc (N : Int) (i : Int)) (finB l (readB l d p acc)) := by
  intro d
  induction d with
  | zero =>
    intro i p acc hi hp0 hp1 ha hw
    refine Ev.step (fun k => by unfold batch_Decode.l0; rfl) (Ev.congr (fun k => if_neg (by omega)) ?_)
    refine Ev.bind (encode_ev hw) ?_
    show Ev _ (if encB acc = l then (acc, 0) else ([], 8))
    have he : bytes_Equal.f (encB acc) l = some (decide (encB acc = l)) := by
      unfold bytes_Equal.f
      congr 1
      by_cases h : encB acc = l
      · rw [h, decide_eq_true rfl]; simp
      · rw [decide_eq_false h]
        exact beq_eq_false_iff_ne.mpr (fun e => h (str_inj (encB_byt acc) hb (toList_inj e)))
    refine Ev.bind (evC he) ?_
    by_cases h : encB acc = l
    · rw [if_pos h]
      exact Ev.congr (fun k => if_pos (decide_eq_true h)) (Ev.now _)
    · rw [if_neg h]
      exact Ev.congr (fun k => if_neg (by simpa using h)) (Ev.now _)
  | succ d ih =>
    intro i p acc hi hp0 hp1 ha hw
    have hbd := hb.drop p.toNat
    have hld : (l.drop p.toNat).length = l.length - p.toNat := List.length_drop
    have gb := getR_bound (l.drop p.toNat)
    have gk := getR_ok hbd
    rw [readB_succ]
    refine Ev.step (fun k => by unfold batch_Decode.l0; rfl) (Ev.congr (fun k => if_pos (by omega)) (Ev.congr (fun k => if_pos hp0) (Ev.congr (fun k => if_pos hp1) ?_)))
    refine Ev.bind (record_Get_ev hbd (by omega)) ?_
    by_cases c : (getR (l.drop p.toNat)).2.2 = 0
    · rw [if_pos c]
      refine Ev.congr (fun k => if_pos c) (Ev.congr (fun k => if_pos (by omega)) ?_)
      show Ev (fun k => batch_Decode.l0 k l (wrap64 (p + (getR (l.drop p.toNat)).2.1)) (acc ++ [(getR (l.drop p.toNat)).1]) (N : Int) (wrap64 ((i : Int) + 1))) _
      rw [w64 (x := (i : Int) + 1) (by omega) (by omega), w64 (x := p + (getR (l.drop p.toNat)).2.1) (by omega) (by omega)]
      have := ih (i + 1) (p + (getR (l.drop p.toNat)).2.1) (acc ++ [(getR (l.drop p.toNat)).1]) (by omega) (by omega) (by omega) (by rw [List.length_append, ha]; rfl) (fun x hx => by
        rcases List.mem_append.1 hx with hx | hx
        · exact hw x hx
        · rw [List.mem_singleton.1 hx]; exact gk)
      exact this
    · rw [if_neg c]
      exact Ev.congr (fun k => if_neg c) (Ev.now _)
theorem decode_ev {l : List Int} (hb : Byt l) (hl : l.length < 4611686018427387904) : Ev (fun k => batch_Decode.f k l) (decB l) := by
  have b := getN_bound l
  have hbad : ∀ n p : Int, Ev (fun k => batch_Decode.j0 k l n p true) (([] : List Rc), (8 : Int)) := fun n p => Ev.step (fun k => by unfold batch_Decode.j0; rfl) (Ev.congr (fun k => if_pos rfl) (Ev.now _))
  unfold batch_Decode.f decB
  refine Ev.bind (num_Get_ev hb (by omega)) ?_
  by_cases c : (getN l).2.2 = 0
  · refine Ev.congr (fun k => if_pos c) ?_
    by_cases c1 : (getN l).1 < 0
    · rw [if_neg (fun h => by omega)]
      exact Ev.congr (fun k => if_pos c1) (hbad _ _)
    refine Ev.congr (fun k => if_neg c1) ?_
    by_cases c2 : (getN l).1 > 1000
    · rw [if_neg (fun h => by omega), decide_eq_true c2]
      exact hbad _ _
    rw [if_pos ⟨c, by omega, by omega⟩, decide_eq_false c2]
    refine Ev.step (fun k => by unfold batch_Decode.j0; rfl) (Ev.congr (fun k => if_neg (by decide)) ?_)
    obtain ⟨N, hN⟩ := Int.eq_ofNat_of_zero_le (show 0 ≤ (getN l).1 by omega)
    rw [hN, Int.toNat_natCast]
    exact decode_l l hb hl N (by omega) N 0 (getN l).2.1 [] (by omega) b.1 b.2.1 rfl (by simp)
  · rw [if_neg (fun h => c h.1)]
    exact Ev.congr (fun k => if_neg c) (hbad _ _)
theorem putR_pos (x : Rc) : 0 < (putR x).length := by
  have := putN_pos (x.f0.size : Int)
  unfold putR putT
  simp only [List.length_append]
  omega
theorem readB_put : ∀ (r : List Rc) (pre : List Int) (acc : List Rc), (∀ x ∈ r, mayR x = true ∧ I64 x.f2.f1) → readB (pre ++ r.flatMap putR) r.length (pre.length : Int) acc = some (acc ++ r) := by
  intro r
  induction r with
  | nil => intro pre acc _; simp [readB]
  | cons x r ih =>
    intro pre acc h
    have hx := h x List.mem_cons_self
    rw [List.length_cons, readB_succ, List.flatMap_cons, Int.toNat_natCast, List.drop_left, getR_put hx.1 hx.2]
    simp only [if_true]
    have := ih (pre ++ putR x) (acc ++ [x]) (fun y hy => h y (List.mem_cons_of_mem _ hy))
    rw [List.append_assoc, List.append_assoc, List.length_append, Int.natCast_add] at this
    exact this
theorem encB_of {l : List Rc} (h : mayB l = true) : encB l = encF l := by unfold encB; rw [if_pos h]
theorem decB_enc {l : List Rc} (h : mayB l = true) (hw : ∀ x ∈ l, WkR x) : decB (encB l) = (l, 0) := by
  obtain ⟨h1, h2⟩ := (mayB_iff l).1 h
  have hg : getN (encB l) = ((l.length : Int), ((putN (l.length : Int)).length : Int), 0) := by rw [encB_of h]; exact getN_put (by unfold I64; omega) _
  unfold decB
  rw [hg]
  simp only
  rw [if_pos ⟨by first | trivial | rfl, by omega, by omega⟩, Int.toNat_natCast]
  have := readB_put l (putN (l.length : Int)) [] (fun x hx => ⟨h2 x hx, (hw x hx).2.2⟩)
  rw [List.nil_append] at this
  rw [encB_of h, show encF l = putN (l.length : Int) ++ l.flatMap putR from rfl, this]
  exact if_pos (encB_of h)
theorem encB_len {l : List Rc} (hw : ∀ x ∈ l, WkR x) : (encB l).length ≤ 80010 := by
  unfold encB
  split
  · rename_i h
    obtain ⟨h1, h2⟩ := (mayB_iff l).1 h
    have := encF_len h1 (fun x hx => may_sm (h2 x hx) (hw x hx)) l.length
    rw [List.take_length] at this
    exact this
  · simp
theorem decB_cases (b : List Int) : ((decB b).2 = 0 ∧ encB (decB b).1 = b) ∨ decB b = ([], 8) := by
  unfold decB
  split
  · cases readB b (getN b).1.toNat (getN b).2.1 [] with
    | none => exact .inr rfl
    | some r =>
      by_cases h : encB r = b
      · rw [show finB b (some r) = (r, 0) from if_pos h]
        exact .inl ⟨rfl, h⟩
      · exact .inr (if_neg h)
  · exact .inr rfl
theorem readB_wk {l : List Int} (hb : Byt l) : ∀ (d : Nat) (p : Int) (acc r : List Rc), (∀ x ∈ acc, WkR x) → readB l d p acc = some r → ∀ x ∈ r, WkR x := by
  intro d
  induction d with
  | zero =>
    intro p acc r h e
    rw [← Option.some.inj e]
    exact h
  | succ d ih =>
    intro p acc r h e
    rw [readB_succ] at e
    split at e
    · refine ih _ _ r (fun x hx => ?_) e
      rcases List.mem_append.1 hx with hx | hx
      · exact h x hx
      · rw [List.mem_singleton.1 hx]; exact getR_ok (hb.drop _)
    · cases e
theorem decB_wk {b : List Int} (hb : Byt b) : ∀ x ∈ (decB b).1, WkR x := by
  unfold decB
  split
  · cases h : readB b (getN b).1.toNat (getN b).2.1 [] with
    | none => intro x hx; cases hx
    | some r =>
      by_cases c : encB r = b
      · rw [show finB b (some r) = (r, 0) from if_pos c]
        exact readB_wk hb _ _ [] r (by simp) h
      · rw [show finB b (some r) = ([], 8) from if_neg c]
        intro x hx; cases hx
  · intro x hx; cases hx
theorem mayAll_l (l : List Rc) (hl : l.length ≤ 9223372036854775807) (h : ∀ x ∈ l, WkR x) : ∀ (d i : Nat), i + d = l.length → Ev (fun k => loessref10_MayAll.l0 k l (i : Int)) ((l.drop i).all mayR && decide (l.length ≤ 1000)) := by
  intro d
  induction d with
  | zero =>
    intro i hi
    refine Ev.step (fun k => by unfold loessref10_MayAll.l0; rfl) (Ev.congr (fun k => if_neg (by omega)) (evEq (Ev.now _) ?_))
    rw [List.drop_of_length_le (by omega), List.all_nil, Bool.true_and]
    exact decide_eq_decide.2 (by omega)
  | succ d ih =>
    intro i hi
    have hrec := ih (i + 1) (by omega)
    have hlt : i < l.length := by omega
    rw [rr_drop hlt, List.all_cons]
    refine Ev.step (fun k => by unfold loessref10_MayAll.l0; rfl) (Ev.congr (fun k => if_pos (by omega)) (Ev.congr (fun k => if_pos (by omega)) ?_))
    rw [w64 (x := (i : Int) + 1) (by omega) (by omega)]
    refine Ev.bind (ref_May_ev (rr l i) (h _ (rr_mem hlt)).1) ?_
    cases hm : mayR (rr l i) with
    | true =>
      refine Ev.congr (fun k => if_pos rfl) ?_
      rw [Bool.true_and]
      exact hrec
    | false => exact Ev.congr (fun k => if_neg (by decide)) (Ev.now _)
theorem mayAll_ev {l : List Rc} (hl : l.length ≤ 9223372036854775807) (h : ∀ x ∈ l, WkR x) : Ev (fun k => loessref10_MayAll.f k l) (mayB l) := by
  have := mayAll_l l hl h l.length 0 (by omega)
  rw [List.drop_zero, Bool.and_comm] at this
  exact this
theorem putVal_ev {a b : Int} {s : ByteArray} (ha : I64 a) (hb : I64 b) (h : s.size ≤ 30) : Ev (fun k => loessref1_PutVal.f k a b s) (putV a b s) := by
  have h1 := putN_len ha
  have h2 := putN_len hb
  have h3 := putT_len h (by decide)
  unfold loessref1_PutVal.f putV
  refine Ev.bind (ref_Put_ev ha) ?_
  by_cases e : a = 1
  · refine Ev.congr (fun k => if_pos e) ?_
    rw [if_pos e]
    exact Ev.bind (ref_Put_ev hb) (Ev.congr (fun k => if_pos (by omega)) (Ev.now _))
  · refine Ev.congr (fun k => if_neg e) ?_
    rw [if_neg e]
    exact Ev.bind (ref_PutText_ev (s := s) (by omega)) (Ev.congr (fun k => if_pos (by omega)) (Ev.now _))
theorem recBytes_ev {x : Rc} (h : SmR x) : Ev (fun k => loessref10_Bytes.f k x.f0 x.f1 x.f2.f0 x.f2.f1 x.f2.f2) (putR x) := by
  obtain ⟨h1, h2, h3, h4⟩ := h
  have a1 := putT_len h1 (by decide)
  have a2 := putV_len h3 h4 h2 (by decide)
  have a3 := putN_len (n := 0) (by unfold I64; omega)
  unfold loessref10_Bytes.f putR
  refine Ev.bind (ref_PutText_ev (s := x.f0) (by omega)) ?_
  by_cases g : x.f1 = true
  · refine Ev.congr (fun k => if_pos g) ?_
    rw [if_pos g]
    exact Ev.bind (ref_Put_ev (n := 0) (by unfold I64; omega)) (Ev.congr (fun k => if_pos (by omega)) (Ev.now _))
  · refine Ev.congr (fun k => if_neg g) ?_
    rw [if_neg g]
    exact Ev.bind (putVal_ev h3 h4 h2) (Ev.congr (fun k => if_pos (by omega)) (Ev.now _))
theorem row_l (l : List Rc) (hl : l.length ≤ 1000) (h : ∀ x ∈ l, SmR x) : ∀ (d i : Nat), i + d = l.length → Ev (fun k => loessref10_Row.l0 k l (putN (l.length : Int) ++ (l.take i).flatMap putR) (i : Int)) (encF l) := by
  intro d
  induction d with
  | zero =>
    intro i hi
    refine Ev.step (fun k => by unfold loessref10_Row.l0; rfl) (Ev.congr (fun k => if_neg (by omega)) (evEq (Ev.now _) ?_))
    rw [List.take_of_length_le (by omega)]
    rfl
  | succ d ih =>
    intro i hi
    have hrec := ih (i + 1) (by omega)
    rw [encF_step (show i < l.length by omega)] at hrec
    have hx := h _ (rr_mem (show i < l.length by omega))
    have hlen := encF_len hl h i
    have hpl : (putR (rd_T38 l (i : Int))).length ≤ 80 := putR_len hx
    refine Ev.step (fun k => by unfold loessref10_Row.l0; rfl) (Ev.congr (fun k => if_pos (by omega)) (Ev.congr (fun k => if_pos (by omega)) ?_))
    rw [w64 (x := (i : Int) + 1) (by omega) (by omega)]
    exact Ev.bind (recBytes_ev hx) (Ev.congr (fun k => if_pos (by omega)) hrec)
theorem row_ev {l : List Rc} (hl : l.length ≤ 9223372036854775807) (h : ∀ x ∈ l, WkR x) : Ev (fun k => loessref10_Row.f k l) (encB l) := by
  unfold loessref10_Row.f encB
  refine Ev.bind (mayAll_ev hl h) ?_
  by_cases hm : mayB l = true
  · obtain ⟨h1, h2⟩ := (mayB_iff l).1 hm
    refine Ev.congr (fun k => if_pos hm) ?_
    rw [if_pos hm]
    refine Ev.bind (ref_Put_ev (n := (l.length : Int)) (by unfold I64; omega)) ?_
    have := row_l l h1 (fun x hx => may_sm (h2 x hx) (h x hx)) l.length 0 (by omega)
    simpa using this
  · refine Ev.congr (fun k => if_neg hm) ?_
    rw [if_neg hm]
    exact Ev.now _
theorem eqRecs_l (a b : List Rc) (hl : a.length = b.length) (hb : a.length ≤ 9223372036854775807) : ∀ (d i : Nat), i + d = a.length → Ev (fun k => loessref10_EqRecs.l0 k a b (i : Int)) (decide (a.drop i = b.drop i)) := by
  intro d
  induction d with
  | zero =>
    intro i h
    refine Ev.step (fun k => by unfold loessref10_EqRecs.l0; rfl) (Ev.congr (fun k => if_neg (by omega)) (evEq (Ev.now _) ?_))
    rw [List.drop_of_length_le (by omega), List.drop_of_length_le (by omega)]
    simp
  | succ d ih =>
    intro i h
    have hrec := ih (i + 1) (by omega)
    rw [rr_drop (l := a) (by omega), rr_drop (l := b) (by omega)]
    refine Ev.step (fun k => by unfold loessref10_EqRecs.l0; rfl) (Ev.congr (fun k => if_pos (by omega)) (Ev.congr (fun k => if_pos (by omega)) (Ev.congr (fun k => if_pos (by omega)) ?_)))
    rw [w64 (x := (i : Int) + 1) (by omega) (by omega)]
    refine Ev.bind (evC (ref_Eq_eq (rr a i) (rr b i))) ?_
    by_cases hx : rr a i = rr b i
    · refine Ev.congr (fun k => if_pos (decide_eq_true hx)) ?_
      rw [hx]
      exact evEq hrec (decide_eq_decide.2 (by simp))
    · rw [decide_eq_false (fun h => hx (List.cons.inj h).1)]
      exact Ev.congr (fun k => if_neg (by simpa using hx)) (Ev.now _)
theorem eqRecs_ev (a b : List Rc) (hb : a.length ≤ 9223372036854775807) : Ev (fun k => loessref10_EqRecs.f k a b) (decide (a = b)) := by
  unfold loessref10_EqRecs.f
  by_cases h : a.length = b.length
  · refine Ev.congr (fun k => if_pos (by omega)) ?_
    exact eqRecs_l a b h hb a.length 0 (by omega)
  · refine Ev.congr (fun k => if_neg (by omega)) (evEq (Ev.now _) ?_)
    rw [decide_eq_false (fun e => h (by rw [e]))]
/-- Records that are cut. -/
def cutS (n : Nat) (s : ByteArray) : ByteArray := if (s.size : Int) > n then s.extract 0 n else s
def cutR (x : Rc) : Rc := ⟨cutS 20 x.f0, x.f1, ⟨x.f2.f0, x.f2.f1, cutS 30 x.f2.f2⟩⟩
theorem cutS_eq (n : Nat) (s : ByteArray) : loesslaw3_Cut.f s (n : Int) = some (cutS n s) := by
  unfold loesslaw3_Cut.f cutS
  split
  · rw [if_pos (by omega), if_pos (by omega), Int.toNat_natCast]
  · rfl
theorem cutS_size (n : Nat) (s : ByteArray) : (cutS n s).size ≤ n := by
  unfold cutS
  split
  · rw [ByteArray.size_extract]; omega
  · omega
theorem cutR_eq (x : Rc) : loesslaw10_Cut.f x.f0 x.f1 x.f2.f0 x.f2.f1 x.f2.f2 = some ((cutR x).f0, (cutR x).f1, (cutR x).f2.f0, (cutR x).f2.f1, (cutR x).f2.f2) := by
  unfold loesslaw10_Cut.f
  rw [show ((20 : Int)) = ((20 : Nat) : Int) from rfl, cutS_eq, Option.bind_some]
  unfold loesslaw4_Cut.f
  rw [show ((30 : Int)) = ((30 : Nat) : Int) from rfl, cutS_eq]
  rfl
def recsL (l : List Rc) (n : Nat) : List Rc := (l.take n).map cutR
theorem recs_l (l : List Rc) (n : Nat) (hn : n ≤ 100) : ∀ (d i : Nat), i + d = n → i ≤ l.length → Ev (fun k => loesslaw10_Recs.l0 k l (n : Int) ((l.take i).map cutR) (i : Int)) (recsL l n) := by
  intro d
  induction d with
  | zero =>
    intro i h hi
    obtain rfl : i = n := by omega
    refine Ev.step (fun k => by unfold loesslaw10_Recs.l0; rfl) ?_
    by_cases c : (i : Int) < (l.length : Int)
    · exact Ev.congr (fun k => if_pos c) (Ev.congr (fun k => if_neg (by omega)) (Ev.now _))
    · exact Ev.congr (fun k => if_neg c) (Ev.now _)
  | succ d ih =>
    intro i h hi
    refine Ev.step (fun k => by unfold loesslaw10_Recs.l0; rfl) ?_
    by_cases c : i < l.length
    · have hrec := ih (i + 1) (by omega) (by omega)
      rw [List.take_succ_eq_append_getElem c, List.map_append, ← rr_get c] at hrec
      have hlen : ((l.take i).map cutR).length = i := by rw [List.length_map, List.length_take]; omega
      refine Ev.congr (fun k => if_pos (by omega)) (Ev.congr (fun k => if_pos (by omega)) (Ev.congr (fun k => if_pos (by omega)) ?_))
      refine Ev.bind (evC (cutR_eq (rr l i))) (Ev.congr (fun k => if_pos (by omega)) ?_)
      rw [w64 (x := (i : Int) + 1) (by omega) (by omega)]
      exact hrec
    · refine Ev.congr (fun k => if_neg (by omega)) (evEq (Ev.now _) ?_)
      unfold recsL
      rw [List.take_of_length_le (by omega), List.take_of_length_le (by omega)]
theorem recs_ev (l : List Rc) (n : Nat) (hn : n ≤ 100) : Ev (fun k => loesslaw10_Recs.f k l (n : Int)) (recsL l n) := by
  have := recs_l l n hn n 0 (by omega) (Nat.zero_le _)
  exact this
theorem recsL_len (l : List Rc) (n : Nat) : (recsL l n).length ≤ n := by unfold recsL; rw [List.length_map, List.length_take]; omega
theorem recsL_sm {l : List Rc} (h : ∀ x ∈ l, I64 x.f2.f0 ∧ I64 x.f2.f1) (n : Nat) : ∀ x ∈ recsL l n, SmR x := by
  intro x hx
  obtain ⟨y, hy, rfl⟩ := List.mem_map.1 hx
  have := h y (List.mem_of_mem_take hy)
  exact ⟨cutS_size 20 _, cutS_size 30 _, this.1, this.2⟩
theorem vld_x : vld (⟨#[120]⟩ : ByteArray) = true := by
  unfold vld D
  have h : dec [120] = (120, 1, true) := by rfl
  rw [show bytesOf (⟨#[120]⟩ : ByteArray) = [120] from rfl, ds_cons (by decide), h]
  show (((120, 1, true) : Rn) :: ds []).all (·.2.2) = true
  rw [ds_nil]
  rfl
def R1 : Rc := ⟨(⟨#[98]⟩ : ByteArray), true, ⟨0, 0, (⟨#[]⟩ : ByteArray)⟩⟩
def R2 : Rc := ⟨(⟨#[97]⟩ : ByteArray), false, ⟨2, 0, (⟨#[120]⟩ : ByteArray)⟩⟩
theorem may_R1 : mayR R1 = true := by rfl
theorem may_R2 : mayR R2 = true := by
  have h : mayV 2 0 (⟨#[120]⟩ : ByteArray) = true := decide_eq_true (.inr ⟨rfl, rfl, by decide, vld_x⟩)
  show (keyB (⟨#[97]⟩ : ByteArray) && (if false = true then _ else mayV 2 0 (⟨#[120]⟩ : ByteArray))) = true
  rw [if_neg (by decide), h]
  rfl
theorem decB_nil : decB [] = ([], 8) := by
  have : getN [] = (0, 0, 2) := rfl
  unfold decB
  rw [this, if_neg (fun h => by cases h.1)]
theorem bat_begun : Ev (fun k => loesslaw16_begun.f k) true := by
  have z : I64 0 := by unfold I64; omega
  have z2 : I64 2 := by unfold I64; omega
  have hw : ∀ x ∈ [R1, R2], WkR x := by
    intro x hx
    rcases List.mem_cons.1 hx with rfl | hx
    · exact ⟨by decide, z, z⟩
    · rw [List.mem_singleton.1 hx]; exact ⟨by decide, z2, z⟩
  have hm : mayB [R1, R2] = true := (mayB_iff _).2 ⟨by decide, by
    intro x hx
    rcases List.mem_cons.1 hx with rfl | hx
    · exact may_R1
    · rw [List.mem_singleton.1 hx]; exact may_R2⟩
  have hm0 : mayB [] = true := rfl
  have hw0 : ∀ x ∈ ([] : List Rc), WkR x := by intro x hx; cases hx
  unfold loesslaw16_begun.f
  simp only [Option.bind_some]
  refine Ev.bind (encode_ev hw) ?_
  refine Ev.bind (evEq (decode_ev (encB_byt [R1, R2]) (show (encB [R1, R2]).length < 4611686018427387904 by have := encB_len hw; omega)) (decB_enc hm hw)) ?_
  refine Ev.bind (evEq (decode_ev Byt.nil (by decide)) decB_nil) ?_
  refine Ev.bind (evC (batch_May_eq hw)) (Ev.congr (fun k => if_pos hm) ?_)
  refine Ev.bind (evC (batch_May_eq hw0)) (Ev.congr (fun k => if_pos hm0) ?_)
  refine Ev.congr (fun k => if_pos rfl) (Ev.bind (evC (show batch_Eq.f [R1, R2] [R1, R2] = some true by unfold batch_Eq.f; rw [decide_eq_true rfl])) (Ev.congr (fun k => if_pos rfl) ?_))
  refine Ev.bind (evC (show batch_Eq.f [R1, R2] [] = some false by unfold batch_Eq.f; rw [decide_eq_false (by simp)])) (Ev.congr (fun k => if_neg (by decide)) ?_)
  refine Ev.congr (fun k => if_pos rfl) (Ev.bind (encode_ev hw0) (evC ?_))
  have h3 : encB [] = [0] := by
    rw [encB_of hm0]
    unfold encF
    rw [show (([] : List Rc).length : Int) = 0 from rfl, putN_small (by decide) (by decide)]
    rfl
  rw [h3]
  rfl
theorem bat_then {g : Nat → Option Bool} {r : Bool} (h : Ev g r) : Ev (fun k => (loesslaw16_begun.f k).bind fun t => if t = true then g k else none) r :=
  Ev.bind bat_begun (Ev.congr (fun k => by rw [if_pos rfl]) h)
theorem tells_ev {b : List Int} (hb : Byt b) (hl : b.length < 4611686018427387904) : Ev (fun k => loesslaw16_tells.f k b) true := by
  unfold loesslaw16_tells.f
  refine Ev.bind (decode_ev hb hl) ?_
  have hw := decB_wk hb
  rcases decB_cases b with ⟨h1, h2⟩ | h
  · have hlen : (decB b).1.length ≤ 9223372036854775807 := by
      by_cases c : mayB (decB b).1 = true
      · have := ((mayB_iff _).1 c).1; omega
      · have h3 : b = [] := by rw [← h2]; exact if_neg c
        rw [h3]
        decide
    refine Ev.congr (fun k => if_pos h1) (Ev.bind (row_ev hlen hw) (evC ?_))
    rw [h2]
    simp
  · rw [h]
    exact Ev.congr (fun k => if_neg (by decide)) (Ev.congr (fun k => if_pos rfl) (Ev.now _))
end Go.Proofs.Ytbogcnfmdakdmaa.Q

/- The law BatchMany in plain Lean: a row has at most a thousand records. -/
set_option linter.unusedVariables false
set_option linter.unusedSimpArgs false
namespace Go.Proofs.Ytbogcnfmdakdmaa.Pure
open Go.RowKit Go.Proofs.YtbogcnfmdakdmaaW.PrintWords Go.Proofs.YtbogcnfmdakdmaaW.PrintMore Go.Proofs.Ytbogcnfmdakdmaa.G Go.Proofs.Ytbogcnfmdakdmaa.XBat Go.Proofs.Ytbogcnfmdakdmaa.GL Go.Proofs.Ytbogcnfmdakdmaa.Q
def RK : Rc := ⟨(⟨#[107]⟩ : ByteArray), true, ⟨0, 0, (⟨#[]⟩ : ByteArray)⟩⟩
theorem wk_RK : WkR RK := ⟨by decide, by unfold I64; decide, by unfold I64; decide⟩
theorem may_RK : mayR RK = true := by rfl
theorem may_rep (n : Nat) : mayB (List.replicate n RK) = decide (n ≤ 1000) := by
  by_cases h : n ≤ 1000
  · rw [decide_eq_true h]
    exact (mayB_iff _).2 ⟨by simpa using h, fun x hx => by rw [List.eq_of_mem_replicate hx]; exact may_RK⟩
  · rw [decide_eq_false h]
    refine Bool.eq_false_iff.2 (fun e => h ?_)
    have := ((mayB_iff _).1 e).1
    simpa using this
theorem many_end (n : Nat) (hn : n ≤ 1100) : Ev (fun k => (batch_Encode.f k (List.replicate n RK)).bind fun t251 => (if (n : Int) > 1000 then ((batch_May.f (List.replicate n RK)).bind fun t254 => (if t254 = true then (none) else (some ((t251.length : Int) == 0)))) else ((batch_Decode.f k t251).bind fun bt255 => ((batch_May.f (List.replicate n RK)).bind fun t259 => (if t259 = true then (if bt255.2 = 0 then (some ((bt255.1.length : Int) == (n : Int))) else (none)) else (none)))))) true := by
  have hw : ∀ x ∈ List.replicate n RK, WkR x := fun x hx => by rw [List.eq_of_mem_replicate hx]; exact wk_RK
  have hm := may_rep n
  refine Ev.bind (encode_ev hw) ?_
  by_cases h : n ≤ 1000
  · rw [decide_eq_true h] at hm
    refine Ev.congr (fun k => if_neg (by omega)) ?_
    refine Ev.bind (evEq (decode_ev (encB_byt _) (by have := encB_len hw; omega)) (decB_enc hm hw)) ?_
    refine Ev.bind (evC (batch_May_eq hw)) (Ev.congr (fun k => if_pos hm) (Ev.congr (fun k => if_pos rfl) (evC ?_)))
    simp
  · rw [decide_eq_false h] at hm
    refine Ev.congr (fun k => if_pos (by omega)) (Ev.bind (evC (batch_May_eq hw)) (Ev.congr (fun k => if_neg (by rw [hm]; decide)) (evC ?_)))
    have : encB (List.replicate n RK) = [] := if_neg (by rw [hm]; decide)
    rw [this]
    rfl
theorem many_l (n : Nat) (hn : n ≤ 1100) : ∀ (d i : Nat), i + d = n → Ev (fun k => loesslaw16_BatchMany.l0 k (n : Int) (List.replicate i RK ++ List.replicate d z38) (n : Int) (i : Int)) true := by
  intro d
  induction d with
  | zero =>
    intro i hi
    obtain rfl : i = n := by omega
    refine Ev.step (fun k => by unfold loesslaw16_BatchMany.l0; rfl) (Ev.congr (fun k => if_neg (by omega)) ?_)
    rw [List.replicate_zero, List.append_nil]
    exact many_end i hn
  | succ d ih =>
    intro i hi
    have hrec := ih (i + 1) (by omega)
    refine Ev.step (fun k => by unfold loesslaw16_BatchMany.l0; rfl) (Ev.congr (fun k => if_pos (by omega)) (Ev.congr (fun k => if_pos (by omega)) (Ev.congr (fun k => if_pos (by simp; omega)) ?_)))
    have hset : (List.replicate i RK ++ List.replicate (d + 1) z38).set ((i : Int)).toNat RK = List.replicate (i + 1) RK ++ List.replicate d z38 := by
      rw [Int.toNat_natCast, List.set_append_right _ _ (by simp), List.length_replicate, Nat.sub_self, List.replicate_succ (n := d), List.set_cons_zero, List.replicate_succ' (n := i), List.append_assoc]
      rfl
    rw [w64 (x := (i : Int) + 1) (by omega) (by omega)]
    have h2 : (List.replicate i RK ++ List.replicate (d + 1) z38).set ((i : Int)).toNat (⟨(⟨#[107]⟩ : ByteArray), true, (⟨0, 0, (⟨#[]⟩ : ByteArray)⟩ : S36)⟩ : S38) = List.replicate (i + 1) RK ++ List.replicate d z38 := hset
    rw [h2]
    exact hrec
theorem BatchMany : loesslaw16_BatchMany.Pure := by
  intro a ha
  have ha := wfI64 ha
  refine Ev.rounds ?_
  unfold loesslaw16_BatchMany.f
  refine bat_then ?_
  have hout : Ev (fun k => loesslaw16_BatchMany.j0 k a true) true := Ev.step (fun k => by unfold loesslaw16_BatchMany.j0; rfl) (Ev.congr (fun k => if_pos rfl) (Ev.now _))
  by_cases h1 : a < 0
  · exact Ev.congr (fun k => if_pos h1) hout
  refine Ev.congr (fun k => if_neg h1) ?_
  by_cases h2 : a > 1100
  · rw [decide_eq_true h2]; exact hout
  rw [decide_eq_false h2]
  obtain ⟨n, rfl⟩ := Int.eq_ofNat_of_zero_le (show 0 ≤ a by omega)
  refine Ev.step (fun k => by unfold loesslaw16_BatchMany.j0; rfl) (Ev.congr (fun k => if_neg (by decide)) (Ev.congr (fun k => if_pos (by omega)) (Ev.congr (fun k => if_pos (by omega)) ?_)))
  simp only [Option.bind_some, Int.toNat_natCast, List.length_replicate]
  exact many_l n (by omega) n 0 (by omega)
end Go.Proofs.Ytbogcnfmdakdmaa.Pure
