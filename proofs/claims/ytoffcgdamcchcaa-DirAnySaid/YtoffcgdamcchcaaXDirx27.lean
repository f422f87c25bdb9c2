-- Written by wip/xprint.py, this session's wrapper round the kit's print program. Not trusted: Lean checks it.
import Derived.Test.YtoffcgdamcchcaaXDirx0
import Derived.Test.YtoffcgdamcchcaaXDirx15
import Derived.Test.YtoffcgdamcchcaaXDirx19
import Derived.Test.YtoffcgdamcchcaaXDirx20
import Derived.Test.YtoffcgdamcchcaaXDirx23
import Derived.Test.YtoffcgdamcchcaaXDirx25
import Derived.Test.YtoffcgdamcchcaaXDirx26
namespace Go.Proofs.Ytoffcgdamcchcaa.XDir
open Go.RowKit Go.Proofs.YtoffcgdamcchcaaW.PrintWords Go.Proofs.YtoffcgdamcchcaaW.PrintLast Go.Proofs.YtoffcgdamcchcaaW.PrintMore
attribute [local go_sem] max2_int min2_int max_two min_two max_three min_three max_four min_four   -- for this text's walks alone
set_option linter.unusedVariables false
set_option linter.unusedSimpArgs false

/-! ### loesslaw14_DirAny: function 4 -/
def loesslaw14_DirAny.j0 : Nat → List (S32) → Int → Int → Bool → Option (Bool)
  | 0, _, _, _, _ => none
  | k + 1, x1, x2, x3, x27 => if x27 = true then (some true) else ((loesslaw14_bytes.f k x1).bind fun t316 => (if (t316.length : Int) = 0 then (none) else (if 0 ≤ (Int.tmod x2 (t316.length : Int)) then (if (Int.tmod x2 (t316.length : Int)) < (t316.length : Int) then ((some (t316.set ((Int.tmod x2 (t316.length : Int)) : Int).toNat (Go.bits .xor .u8 (rd t316 (Int.tmod x2 (t316.length : Int))) x3) : List Int)).bind fun y320 => ((loesslaw14_tells.f k y320).bind fun t321 => (if t321 = true then (if (Int.tmod x2 (t316.length : Int)) ≤ (t316.length : Int) then ((loesslaw14_tells.f k (y320.take ((Int.tmod x2 (t316.length : Int)) : Int).toNat)).bind fun t326 => (if t326 = true then (if y320.length < 140737488355328 then ((loesslaw14_tells.f k (y320 ++ [x3])).bind fun t330 => (some t330)) else (none)) else (none))) else (none)) else (none)))) else (none)) else (none))))
def loesslaw14_DirAny.f (k : Nat) (l0 : List Int) (l1 : List (S32)) (a2 : Int) (a3 : Int) : Option (Bool) := (loesslaw14_begun.f k).bind fun t307 => (if t307 = true then ((loesslaw1_Short.f l0 60).bind fun t308 => ((loesslaw14_Cut.f k l1).bind fun t311 => ((loesslaw14_tells.f k t308).bind fun t314 => (if t314 = true then ((loesslaw14_may.f k t311).bind fun t315 => (if t315 = true then (loesslaw14_DirAny.j0 k t311 a2 a3 (decide (a2 < 0))) else (loesslaw14_DirAny.j0 k t311 a2 a3 true))) else (none))))) else (none))
theorem loesslaw14_DirAny.mono_l : ∀ k, (∀ y0 y1 y2 y3, LeO (loesslaw14_DirAny.j0 k y0 y1 y2 y3) (loesslaw14_DirAny.j0 (k + 1) y0 y1 y2 y3))
  | 0 => fun _ _ _ _ r h => by simp [loesslaw14_DirAny.j0] at h
  | k + 1 => by
    have ih0 := loesslaw14_DirAny.mono_l k
    · intro y0 y1 y2 y3
      unfold loesslaw14_DirAny.j0
      repeat' first
      | (with_reducible exact ih0 _ _ _ _)
      | (with_reducible exact loesslaw14_Cut.mono _ _)
      | (with_reducible exact loesslaw14_begun.mono _)
      | (with_reducible exact loesslaw14_bytes.mono _ _)
      | (with_reducible exact loesslaw14_may.mono _ _)
      | (with_reducible exact loesslaw14_tells.mono _ _)
      | (with_reducible exact LeO.refl _)
      | (with_reducible exact LeO.none _)
      | (with_reducible refine LeO.ite ?_ ?_)
      | (with_reducible refine LeO.bind ?_ (fun _ => ?_))
      | exact ih0 _ _ _ _
      | exact loesslaw14_Cut.mono _ _
      | exact loesslaw14_begun.mono _
      | exact loesslaw14_bytes.mono _ _
      | exact loesslaw14_may.mono _ _
      | exact loesslaw14_tells.mono _ _
      | exact LeO.none _
      | refine LeO.ite ?_ ?_
      | refine LeO.bind ?_ (fun _ => ?_)
theorem loesslaw14_DirAny.mono : ∀ a0 a1 a2 a3 k, LeO (loesslaw14_DirAny.f k a0 a1 a2 a3) (loesslaw14_DirAny.f (k + 1) a0 a1 a2 a3) := by
  intro a0 a1 a2 a3 k
  have ih0 := loesslaw14_DirAny.mono_l k
  unfold loesslaw14_DirAny.f
  repeat' first
      | (with_reducible exact ih0 _ _ _ _)
      | (with_reducible exact loesslaw14_Cut.mono _ _)
      | (with_reducible exact loesslaw14_begun.mono _)
      | (with_reducible exact loesslaw14_bytes.mono _ _)
      | (with_reducible exact loesslaw14_may.mono _ _)
      | (with_reducible exact loesslaw14_tells.mono _ _)
      | (with_reducible exact LeO.refl _)
      | (with_reducible exact LeO.none _)
      | (with_reducible refine LeO.ite ?_ ?_)
      | (with_reducible refine LeO.bind ?_ (fun _ => ?_))
      | exact ih0 _ _ _ _
      | exact loesslaw14_Cut.mono _ _
      | exact loesslaw14_begun.mono _
      | exact loesslaw14_bytes.mono _ _
      | exact loesslaw14_may.mono _ _
      | exact loesslaw14_tells.mono _ _
      | exact LeO.none _
      | refine LeO.ite ?_ ?_
      | refine LeO.bind ?_ (fun _ => ?_)
set_option maxHeartbeats 8000000 in
set_option maxRecDepth 100000 in
theorem loesslaw14_DirAny.calls (k : Nat) (A0 : Option Addr) (c0 : Nat) (l0 : List Int) (A1 : Option Addr) (c1 : Nat) (l1 : List (S32)) (a2 : Int) (a3 : Int) (r : Bool) (w : World) (hr0 : Kd.C (Kd.int .u8) w A0 l0.length l0) (hc0 : l0.length ≤ c0) (hr1 : Kd.C k32 w A1 l1.length l1) (hc1 : l1.length ≤ c1) (h : loesslaw14_DirAny.f k l0 l1 a2 a3 = some r) :
    Calls Try.prog 4 #[.slice A0 l0.length c0, .slice A1 l1.length c1, .int .i64 a2, .int .u8 a3] w fun e w' => e = .returned (.bool r) ∧ Below w.heap.size w w' := by
  have HR0 := Aside0.mk hr0
  have HC0 := Aside0.mk hc0
  clear hr0 hc0
  have HR1 := Aside0.mk hr1
  have HC1 := Aside0.mk hc1
  clear hr1 hc1
  have HB := Aside0.mk (Below.refl w.heap.size w)
  have H : ((loesslaw14_begun.f k).bind fun t307 => (if t307 = true then ((loesslaw1_Short.f l0 60).bind fun t308 => ((loesslaw14_Cut.f k l1).bind fun t311 => ((loesslaw14_tells.f k t308).bind fun t314 => (if t314 = true then ((loesslaw14_may.f k t311).bind fun t315 => (if t315 = true then (loesslaw14_DirAny.j0 k t311 a2 a3 (decide (a2 < 0))) else (loesslaw14_DirAny.j0 k t311 a2 a3 true))) else (none))))) else (none))) = some r := h
  clear h
  replace H := Option.bind_eq_some_iff.mp H
  obtain ⟨t307, A50, H⟩ := H
  replace H : (if t307 = true then ((loesslaw1_Short.f l0 60).bind fun t308 => ((loesslaw14_Cut.f k l1).bind fun t311 => ((loesslaw14_tells.f k t308).bind fun t314 => (if t314 = true then ((loesslaw14_may.f k t311).bind fun t315 => (if t315 = true then (loesslaw14_DirAny.j0 k t311 a2 a3 (decide (a2 < 0))) else (loesslaw14_DirAny.j0 k t311 a2 a3 true))) else (none))))) else (none)) = some r := H
  have A5 := Aside0.mk A50
  clear A50
  by_cases c6 : t307 = true
  · subst c6
    have H1 : ((loesslaw1_Short.f l0 60).bind fun t308 => ((loesslaw14_Cut.f k l1).bind fun t311 => ((loesslaw14_tells.f k t308).bind fun t314 => (if t314 = true then ((loesslaw14_may.f k t311).bind fun t315 => (if t315 = true then (loesslaw14_DirAny.j0 k t311 a2 a3 (decide (a2 < 0))) else (loesslaw14_DirAny.j0 k t311 a2 a3 true))) else (none))))) = some r := by rw [if_pos rfl] at H; exact H
    clear H
    have H := H1
    clear H1
    replace H := Option.bind_eq_some_iff.mp H
    obtain ⟨t308, A70, H⟩ := H
    replace H : ((loesslaw14_Cut.f k l1).bind fun t311 => ((loesslaw14_tells.f k t308).bind fun t314 => (if t314 = true then ((loesslaw14_may.f k t311).bind fun t315 => (if t315 = true then (loesslaw14_DirAny.j0 k t311 a2 a3 (decide (a2 < 0))) else (loesslaw14_DirAny.j0 k t311 a2 a3 true))) else (none)))) = some r := H
    have A7 := Aside0.mk A70
    clear A70
    replace H := Option.bind_eq_some_iff.mp H
    obtain ⟨t311, A80, H⟩ := H
    replace H : ((loesslaw14_tells.f k t308).bind fun t314 => (if t314 = true then ((loesslaw14_may.f k t311).bind fun t315 => (if t315 = true then (loesslaw14_DirAny.j0 k t311 a2 a3 (decide (a2 < 0))) else (loesslaw14_DirAny.j0 k t311 a2 a3 true))) else (none))) = some r := H
    have A8 := Aside0.mk A80
    clear A80
    replace H := Option.bind_eq_some_iff.mp H
    obtain ⟨t314, A90, H⟩ := H
    replace H : (if t314 = true then ((loesslaw14_may.f k t311).bind fun t315 => (if t315 = true then (loesslaw14_DirAny.j0 k t311 a2 a3 (decide (a2 < 0))) else (loesslaw14_DirAny.j0 k t311 a2 a3 true))) else (none)) = some r := H
    have A9 := Aside0.mk A90
    clear A90
    by_cases c10 : t314 = true
    · subst c10
      have H1 : ((loesslaw14_may.f k t311).bind fun t315 => (if t315 = true then (loesslaw14_DirAny.j0 k t311 a2 a3 (decide (a2 < 0))) else (loesslaw14_DirAny.j0 k t311 a2 a3 true))) = some r := by rw [if_pos rfl] at H; exact H
      clear H
      have H := H1
      clear H1
      have HC11 := Aside0.mk H
      clear H
      go_enter Try.func4, Try.ntmps4
      go_upto_region 7 with (first | ((with_reducible refine gate_callee (f := 7) rfl ?_); refine goesL_ (some 11) rfl rfl Try.func7 (by kernel_rfl) rfl #[] rfl (by (try simp only [List.map_toArray, List.map_cons, List.map_nil]); first | done | rfl | (simp only [List.length_drop, List.length_take]; rfl)) ?_; (with_reducible refine (loesslaw14_begun.calls k  true _ A5.out).mono ?_); rintro e w12 ⟨rfl, hb⟩; refine ⟨_, rfl, ?_⟩; have n0_ := Aside0.mk (below_step (by repeat (first | (with_reducible first | exact HB.out | apply below_alloc | apply pw_below_drewN | apply below_drew1) | exact HB.out)) hb); clear HB; have HB := n0_; clear n0_; (try clear hb); (try clear hb2); (try clear hk); (try clear hi)) | ((with_reducible refine gate_callee (f := 17) rfl ?_); refine goesL_ (some 15) rfl rfl Try.func17 (by kernel_rfl) rfl #[.slice A0 l0.length c0, .int .i64 60] rfl (by (try simp only [List.map_toArray, List.map_cons, List.map_nil]); first | done | rfl | (simp only [List.length_drop, List.length_take]; rfl)) ?_; (with_reducible refine (loesslaw1_Short.calls (fun k_ => k_ < w.heap.size) _ _ l0 60 t308 _ ?side1 A7.out).mono ?_); (case side1 => exact Kd.V_mk HC0.out (Kd.F_below (Kd.C_F (Kd.heap_int .u8) HR0.out) (by repeat (first | (with_reducible first | exact HB.out | apply below_alloc | apply pw_below_drewN | apply below_drew1) | exact HB.out)))); rintro e w13 ⟨v309, rfl, ho0, hb⟩; refine ⟨_, rfl, ?_⟩; have n0_ := Aside0.mk (Kd.V_lower (Kd.V_mono (ok' := fun k_ => True) ho0 (fun k_ hk_ => trivial)) (below_size (by repeat (first | (with_reducible first | exact HB.out | apply below_alloc | apply pw_below_drewN | apply below_drew1) | exact HB.out)))); have n1_ := Aside0.mk (below_step (by repeat (first | (with_reducible first | exact HB.out | apply below_alloc | apply pw_below_drewN | apply below_drew1) | exact HB.out)) hb); clear HB; have HO310 := n0_; have HB := n1_; clear n0_ n1_; (try clear hb); (try clear hb2); (try clear hk); (try clear hi); (try clear ho0)) | ((with_reducible refine gate_callee (f := 8) rfl ?_); refine goesL_ (some 17) rfl rfl Try.func8 (by kernel_rfl) rfl #[.slice A1 l1.length c1] rfl (by (try simp only [List.map_toArray, List.map_cons, List.map_nil]); first | done | rfl | (simp only [List.length_drop, List.length_take]; rfl)) ?_; (with_reducible refine (loesslaw14_Cut.calls k _ _ l1 t311 _ ?side1 ?side2 A8.out).mono ?_); (case side1 => repeat (first | exact (Kd.C_below HR1.out HB.out) | (with_reducible refine Kd.C_alloc ?_ _) | (with_reducible refine Kd.C_drewN ?_ _) | (with_reducible refine Kd.C_drew ?_))); (case side2 => exact HC1.out); rintro e w14 ⟨v312, rfl, ho0, hb⟩; refine ⟨_, rfl, ?_⟩; have n0_ := Aside0.mk (Kd.V_elder' (by (with_reducible repeat (first | apply Kd.V_alloc | apply Kd.V_drewN | apply Kd.V_drew)); exact HO310.out) (Kd.R_base ho0) hb); have n1_ := Aside0.mk (Kd.R_lower ho0 (below_size (by repeat (first | (with_reducible first | exact HB.out | apply below_alloc | apply pw_below_drewN | apply below_drew1) | exact HB.out)))); have n2_ := Aside0.mk (below_step (by repeat (first | (with_reducible first | exact HB.out | apply below_alloc | apply pw_below_drewN | apply below_drew1) | exact HB.out)) hb); clear HO310; clear HB; have HO310 := n0_; have HO313 := n1_; have HB := n2_; clear n0_ n1_ n2_; (try clear hb); (try clear hb2); (try clear hk); (try clear hi); (try clear ho0); obtain ⟨Ao15, co15, eo15⟩ := Kd.V_slice HO310.out; subst eo15) | ((with_reducible refine gate_callee (f := 18) rfl ?_); refine goesL_ (some 19) rfl rfl Try.func18 (by kernel_rfl) rfl #[.slice Ao15 t308.length co15] rfl (by (try simp only [List.map_toArray, List.map_cons, List.map_nil]); first | done | rfl | (simp only [List.length_drop, List.length_take]; rfl)) ?_; (with_reducible refine (loesslaw14_tells.calls k _ _ t308 true _ ?side1 ?side2 A9.out).mono ?_); (case side1 => repeat (first | exact (Kd.V_reads' HO310.out).2.2 | (with_reducible refine Kd.C_alloc ?_ _) | (with_reducible refine Kd.C_drewN ?_ _) | (with_reducible refine Kd.C_drew ?_))); (case side2 => exact (Kd.V_reads' HO310.out).2.1); rintro e w16 ⟨rfl, hb⟩; refine ⟨_, rfl, ?_⟩; have n0_ := Aside0.mk (Kd.V_below (by (with_reducible repeat (first | apply Kd.V_alloc | apply Kd.V_drewN | apply Kd.V_drew)); exact HO310.out) hb); have n1_ := Aside0.mk (Kd.R_below (by (with_reducible repeat (first | apply Kd.R_alloc | apply Kd.R_drewN | apply Kd.R_drew)); exact HO313.out) hb); have n2_ := Aside0.mk (below_step (by repeat (first | (with_reducible first | exact HB.out | apply below_alloc | apply pw_below_drewN | apply below_drew1) | exact HB.out)) hb); clear HO310; clear HO313; clear HB; have HO310 := n0_; have HO313 := n1_; have HB := n2_; clear n0_ n1_ n2_; (try clear hb); (try clear hb2); (try clear hk); (try clear hi)))
      (try simp only [Act.put, List.setIfInBounds_toArray, List.set_cons_zero, List.set_cons_succ])
      go_cut [27] (fun v27 wc => ∃ (kq : Nat) (x27_10 : Bool), v27 = .bool x27_10 ∧ Aside0 (loesslaw14_DirAny.j0 kq t311 a2 a3 x27_10 = some r) ∧ Aside0 (kq ≤ k) ∧ Aside0 (Kd.R k32 32 wc w.heap.size (fun _ => True) v312 t311) ∧ Aside0 (Below w.heap.size w wc))
      case first =>
        have H := HC11.out
        clear HC11
        replace H := Option.bind_eq_some_iff.mp H
        obtain ⟨t315, A170, H⟩ := H
        replace H : (if t315 = true then (loesslaw14_DirAny.j0 k t311 a2 a3 (decide (a2 < 0))) else (loesslaw14_DirAny.j0 k t311 a2 a3 true)) = some r := H
        have A17 := Aside0.mk A170
        clear A170
        by_cases c18 : t315 = true
        · subst c18
          have H1 : (loesslaw14_DirAny.j0 k t311 a2 a3 (decide (a2 < 0))) = some r := by rw [if_pos rfl] at H; exact H
          clear H
          have H := H1
          clear H1
          have H' := Aside0.mk H
          clear H
          obtain ⟨Ao19, co19, eo19⟩ := Kd.R_slice HO313.out
          subst eo19
          go_wp2_with (first | ((with_reducible refine gate_callee (f := 12) rfl ?_); refine goesL_ (some 22) rfl rfl Try.func12 (by kernel_rfl) rfl #[.slice Ao19 t311.length co19] rfl (by (try simp only [List.map_toArray, List.map_cons, List.map_nil]); first | done | rfl | (simp only [List.length_drop, List.length_take]; rfl)) ?_; (with_reducible refine (loesslaw14_may.calls k _ _ t311 true _ ?side1 ?side2 A17.out).mono ?_); (case side1 => repeat (first | exact (Kd.R_reads' HO313.out).2.2 | (with_reducible refine Kd.C_alloc ?_ _) | (with_reducible refine Kd.C_drewN ?_ _) | (with_reducible refine Kd.C_drew ?_))); (case side2 => exact (Kd.R_reads' HO313.out).2.1); rintro e w20 ⟨rfl, hb⟩; refine ⟨_, rfl, ?_⟩; have n0_ := Aside0.mk (Kd.V_below (by (with_reducible repeat (first | apply Kd.V_alloc | apply Kd.V_drewN | apply Kd.V_drew)); exact HO310.out) hb); have n1_ := Aside0.mk (Kd.R_below (by (with_reducible repeat (first | apply Kd.R_alloc | apply Kd.R_drewN | apply Kd.R_drew)); exact HO313.out) hb); have n2_ := Aside0.mk (below_step (by repeat (first | (with_reducible first | exact HB.out | apply below_alloc | apply pw_below_drewN | apply below_drew1) | exact HB.out)) hb); clear HO310; clear HO313; clear HB; have HO310 := n0_; have HO313 := n1_; have HB := n2_; clear n0_ n1_ n2_; (try clear hb); (try clear hb2); (try clear hk); (try clear hi)))
          go_meet
          case rel => exact ⟨_, (decide (a2 < 0)), (by first | rfl | (simp; done) | (simp [*]; done)), H', ⟨by first | omega | exact Nat.le_refl _⟩, ⟨by (with_reducible repeat (first | apply Kd.R_alloc | apply Kd.R_drewN | apply Kd.R_drew)); exact HO313.out⟩, ⟨by repeat (first | (with_reducible first | exact HB.out | apply below_alloc | apply pw_below_drewN | apply below_drew1) | exact HB.out)⟩⟩
        · replace c18 := Bool.eq_false_iff.mpr c18
          subst c18
          have H1 : (loesslaw14_DirAny.j0 k t311 a2 a3 true) = some r := by rw [if_neg (show ¬ (false = true) by decide)] at H; exact H
          clear H
          have H := H1
          clear H1
          have H' := Aside0.mk H
          clear H
          obtain ⟨Ao21, co21, eo21⟩ := Kd.R_slice HO313.out
          subst eo21
          go_wp2_with (first | ((with_reducible refine gate_callee (f := 12) rfl ?_); refine goesL_ (some 22) rfl rfl Try.func12 (by kernel_rfl) rfl #[.slice Ao21 t311.length co21] rfl (by (try simp only [List.map_toArray, List.map_cons, List.map_nil]); first | done | rfl | (simp only [List.length_drop, List.length_take]; rfl)) ?_; (with_reducible refine (loesslaw14_may.calls k _ _ t311 false _ ?side1 ?side2 A17.out).mono ?_); (case side1 => repeat (first | exact (Kd.R_reads' HO313.out).2.2 | (with_reducible refine Kd.C_alloc ?_ _) | (with_reducible refine Kd.C_drewN ?_ _) | (with_reducible refine Kd.C_drew ?_))); (case side2 => exact (Kd.R_reads' HO313.out).2.1); rintro e w22 ⟨rfl, hb⟩; refine ⟨_, rfl, ?_⟩; have n0_ := Aside0.mk (Kd.V_below (by (with_reducible repeat (first | apply Kd.V_alloc | apply Kd.V_drewN | apply Kd.V_drew)); exact HO310.out) hb); have n1_ := Aside0.mk (Kd.R_below (by (with_reducible repeat (first | apply Kd.R_alloc | apply Kd.R_drewN | apply Kd.R_drew)); exact HO313.out) hb); have n2_ := Aside0.mk (below_step (by repeat (first | (with_reducible first | exact HB.out | apply below_alloc | apply pw_below_drewN | apply below_drew1) | exact HB.out)) hb); clear HO310; clear HO313; clear HB; have HO310 := n0_; have HO313 := n1_; have HB := n2_; clear n0_ n1_ n2_; (try clear hb); (try clear hb2); (try clear hk); (try clear hi)))
          go_meet
          case rel => exact ⟨_, (true), (by first | rfl | (simp; done) | (simp [*]; done)), H', ⟨by first | omega | exact Nat.le_refl _⟩, ⟨by (with_reducible repeat (first | apply Kd.R_alloc | apply Kd.R_drewN | apply Kd.R_drew)); exact HO313.out⟩, ⟨by repeat (first | (with_reducible first | exact HB.out | apply below_alloc | apply pw_below_drewN | apply below_drew1) | exact HB.out)⟩⟩
      case rest =>
        clear HC11
        try clear c1
        try clear p2
        try clear c4
        try clear c6
        try clear c7
        try clear c8
        try clear c10
        try clear c12
        try clear c17
        try clear c18
        obtain ⟨kq, x27_10, rfl, HA, HJ10, HO_1, HB⟩ := hcut
        cases kq with
        | zero => exact absurd HA.out (by simp [loesslaw14_DirAny.j0])
        | succ kj10 =>
          have H := HA.out
          clear HA
          simp only [loesslaw14_DirAny.j0] at H
          by_cases c23 : x27_10 = true
          · subst c23
            have H1 : (some true) = some r := by rw [if_pos rfl] at H; exact H
            clear H
            have H := H1
            clear H1
            obtain rfl := Option.some.inj H
            go_wp2
            go_ret
            exact ⟨by first | rfl | (simp [errW_none, errW_some] <;> rfl) | (simp [*, errW_none, errW_some] <;> rfl), by repeat (first | (with_reducible first | exact HB.out | apply below_alloc | apply pw_below_drewN | apply below_drew1) | exact HB.out)⟩
          · replace c23 := Bool.eq_false_iff.mpr c23
            subst c23
            have H1 : ((loesslaw14_bytes.f kj10 t311).bind fun t316 => (if (t316.length : Int) = 0 then (none) else (if 0 ≤ (Int.tmod a2 (t316.length : Int)) then (if (Int.tmod a2 (t316.length : Int)) < (t316.length : Int) then ((some (t316.set ((Int.tmod a2 (t316.length : Int)) : Int).toNat (Go.bits .xor .u8 (rd t316 (Int.tmod a2 (t316.length : Int))) a3) : List Int)).bind fun y320 => ((loesslaw14_tells.f kj10 y320).bind fun t321 => (if t321 = true then (if (Int.tmod a2 (t316.length : Int)) ≤ (t316.length : Int) then ((loesslaw14_tells.f kj10 (y320.take ((Int.tmod a2 (t316.length : Int)) : Int).toNat)).bind fun t326 => (if t326 = true then (if y320.length < 140737488355328 then ((loesslaw14_tells.f kj10 (y320 ++ [a3])).bind fun t330 => (some t330)) else (none)) else (none))) else (none)) else (none)))) else (none)) else (none)))) = some r := by rw [if_neg (show ¬ (false = true) by decide)] at H; exact H
            clear H
            have H := H1
            clear H1
            replace H := Option.bind_eq_some_iff.mp H
            obtain ⟨t316, A240, H⟩ := H
            replace H : (if (t316.length : Int) = 0 then (none) else (if 0 ≤ (Int.tmod a2 (t316.length : Int)) then (if (Int.tmod a2 (t316.length : Int)) < (t316.length : Int) then ((some (t316.set ((Int.tmod a2 (t316.length : Int)) : Int).toNat (Go.bits .xor .u8 (rd t316 (Int.tmod a2 (t316.length : Int))) a3) : List Int)).bind fun y320 => ((loesslaw14_tells.f kj10 y320).bind fun t321 => (if t321 = true then (if (Int.tmod a2 (t316.length : Int)) ≤ (t316.length : Int) then ((loesslaw14_tells.f kj10 (y320.take ((Int.tmod a2 (t316.length : Int)) : Int).toNat)).bind fun t326 => (if t326 = true then (if y320.length < 140737488355328 then ((loesslaw14_tells.f kj10 (y320 ++ [a3])).bind fun t330 => (some t330)) else (none)) else (none))) else (none)) else (none)))) else (none)) else (none))) = some r := H
            have A24 := Aside0.mk A240
            clear A240
            by_cases c25 : (t316.length : Int) = 0
            · rw [if_pos c25] at H
              exact absurd H (by simp)
            · rw [if_neg c25] at H
              have c25b0 : ((t316.length : Int) == 0) = false := beq_eq_false_iff_ne.mpr c25
              have c25b1 : ((t316.length : Int) != 0) = true := bne_iff_ne.mpr c25
              have c25b2 : ¬ (t316 = []) := fun h_ => c25 (by rw [h_]; rfl)
              obtain ⟨ji26, hji26⟩ : ∃ j_ : Int, (Int.tmod a2 (t316.length : Int)) = j_ := ⟨_, rfl⟩
              replace H : (if 0 ≤ (ji26) then (if (ji26) < (t316.length : Int) then ((some (t316.set ((ji26) : Int).toNat (Go.bits .xor .u8 (rd t316 (ji26)) a3) : List Int)).bind fun y320 => ((loesslaw14_tells.f kj10 y320).bind fun t321 => (if t321 = true then (if (ji26) ≤ (t316.length : Int) then ((loesslaw14_tells.f kj10 (y320.take ((ji26) : Int).toNat)).bind fun t326 => (if t326 = true then (if y320.length < 140737488355328 then ((loesslaw14_tells.f kj10 (y320 ++ [a3])).bind fun t330 => (some t330)) else (none)) else (none))) else (none)) else (none)))) else (none)) else (none)) = some r := by first | (rw [hji26] at H; exact H) | (simp only [hji26] at H ⊢; exact H)
              (try rw [hji26] at A24)
              by_cases c27 : 0 ≤ (ji26)
              · rw [if_pos c27] at H
                have c27b0 : decide (0 ≤ (ji26)) = true := decide_eq_true c27
                clear c27
                by_cases c28 : (ji26) < (t316.length : Int)
                · rw [if_pos c28] at H
                  have c28b0 : decide ((ji26) < (t316.length : Int)) = true := decide_eq_true c28
                  clear c28
                  obtain ⟨y320, hy320⟩ : ∃ y_ : List Int, y_ = (t316.set ((ji26) : Int).toNat (Go.bits .xor .u8 (rd t316 (ji26)) a3)) := ⟨_, rfl⟩
                  replace H : ((loesslaw14_tells.f kj10 y320).bind fun t321 => (if t321 = true then (if (ji26) ≤ (t316.length : Int) then ((loesslaw14_tells.f kj10 (y320.take ((ji26) : Int).toNat)).bind fun t326 => (if t326 = true then (if y320.length < 140737488355328 then ((loesslaw14_tells.f kj10 (y320 ++ [a3])).bind fun t330 => (some t330)) else (none)) else (none))) else (none)) else (none))) = some r := by first | (rw [hy320]; with_reducible exact H) | (have H2_ := (Option.bind_some _ _).symm.trans H; rw [hy320]; with_reducible exact H2_) | (have H2_ := (Option.bind_some _ _).symm.trans H; with_reducible exact H2_) | with_reducible exact H | (rw [hy320]; exact H) | exact H
                  have Ny320 := Aside0.mk hy320
                  clear hy320
                  replace H := Option.bind_eq_some_iff.mp H
                  obtain ⟨t321, A300, H⟩ := H
                  replace H : (if t321 = true then (if (ji26) ≤ (t316.length : Int) then ((loesslaw14_tells.f kj10 (y320.take ((ji26) : Int).toNat)).bind fun t326 => (if t326 = true then (if y320.length < 140737488355328 then ((loesslaw14_tells.f kj10 (y320 ++ [a3])).bind fun t330 => (some t330)) else (none)) else (none))) else (none)) else (none)) = some r := H
                  have A30 := Aside0.mk A300
                  clear A300
                  by_cases c31 : t321 = true
                  · subst c31
                    have H1 : (if (ji26) ≤ (t316.length : Int) then ((loesslaw14_tells.f kj10 (y320.take ((ji26) : Int).toNat)).bind fun t326 => (if t326 = true then (if y320.length < 140737488355328 then ((loesslaw14_tells.f kj10 (y320 ++ [a3])).bind fun t330 => (some t330)) else (none)) else (none))) else (none)) = some r := by rw [if_pos rfl] at H; exact H
                    clear H
                    have H := H1
                    clear H1
                    have c32b0 := eq_true (of_decide_eq_true (by first | (with_reducible assumption) | assumption) : 0 ≤ (ji26))
                    by_cases c33 : (ji26) ≤ (t316.length : Int)
                    · rw [if_pos c33] at H
                      have c33b0 := eq_true c33
                      have c33b1 : decide ((ji26) ≤ (t316.length : Int)) = true := decide_eq_true c33
                      clear c33
                      obtain ⟨y322, hy322⟩ : ∃ y_ : List Int, y_ = (y320.take ((ji26) : Int).toNat) := ⟨_, rfl⟩
                      replace H : ((loesslaw14_tells.f kj10 y322).bind fun t326 => (if t326 = true then (if y320.length < 140737488355328 then ((loesslaw14_tells.f kj10 (y320 ++ [a3])).bind fun t330 => (some t330)) else (none)) else (none))) = some r := by first | (rw [hy322]; with_reducible exact H) | (have H2_ := (Option.bind_some _ _).symm.trans H; rw [hy322]; with_reducible exact H2_) | (have H2_ := (Option.bind_some _ _).symm.trans H; with_reducible exact H2_) | with_reducible exact H | (rw [hy322]; exact H) | exact H
                      have Ny322 := Aside0.mk hy322
                      clear hy322
                      replace H := Option.bind_eq_some_iff.mp H
                      obtain ⟨t326, A340, H⟩ := H
                      replace H : (if t326 = true then (if y320.length < 140737488355328 then ((loesslaw14_tells.f kj10 (y320 ++ [a3])).bind fun t330 => (some t330)) else (none)) else (none)) = some r := H
                      have A34 := Aside0.mk A340
                      clear A340
                      by_cases c35 : t326 = true
                      · subst c35
                        have H1 : (if y320.length < 140737488355328 then ((loesslaw14_tells.f kj10 (y320 ++ [a3])).bind fun t330 => (some t330)) else (none)) = some r := by rw [if_pos rfl] at H; exact H
                        clear H
                        have H := H1
                        clear H1
                        by_cases c36 : y320.length < 140737488355328
                        · rw [if_pos c36] at H
                          have LMc36 := Aside0.mk c36
                          clear c36
                          obtain ⟨y327, hy327⟩ : ∃ y_ : List Int, y_ = (y320 ++ [a3]) := ⟨_, rfl⟩
                          replace H : ((loesslaw14_tells.f kj10 y327).bind fun t330 => (some t330)) = some r := by first | (rw [hy327]; with_reducible exact H) | (have H2_ := (Option.bind_some _ _).symm.trans H; rw [hy327]; with_reducible exact H2_) | (have H2_ := (Option.bind_some _ _).symm.trans H; with_reducible exact H2_) | with_reducible exact H | (rw [hy327]; exact H) | exact H
                          have Ny327 := Aside0.mk hy327
                          clear hy327
                          replace H := Option.bind_eq_some_iff.mp H
                          obtain ⟨t330, A370, H⟩ := H
                          replace H : (some t330) = some r := H
                          have A37 := Aside0.mk A370
                          clear A370
                          obtain rfl := Option.some.inj H
                          obtain ⟨Ao38, co38, eo38⟩ := Kd.R_slice HO_1.out
                          subst eo38
                          go_wp2_with (first | ((with_reducible refine gate_callee (f := 14) rfl ?_); refine goesL_ (some 29) rfl rfl Try.func14 (by kernel_rfl) rfl #[.slice Ao38 t311.length co38] rfl (by (try simp only [List.map_toArray, List.map_cons, List.map_nil]); first | done | rfl | (simp only [List.length_drop, List.length_take]; rfl)) ?_; (with_reducible refine (loesslaw14_bytes.calls kj10 _ _ t311 t316 _ ?side1 ?side2 A24.out).mono ?_); (case side1 => repeat (first | exact (Kd.R_reads' HO_1.out).2.2 | (with_reducible refine Kd.C_alloc ?_ _) | (with_reducible refine Kd.C_drewN ?_ _) | (with_reducible refine Kd.C_drew ?_))); (case side2 => exact (Kd.R_reads' HO_1.out).2.1); rintro e w39 ⟨v317, rfl, ho0, hb⟩; refine ⟨_, rfl, ?_⟩; have n0_ := Aside0.mk (Kd.R_below (by (with_reducible repeat (first | apply Kd.R_alloc | apply Kd.R_drewN | apply Kd.R_drew)); exact HO_1.out) hb); have n1_ := Aside0.mk (Kd.R_lower ho0 (below_size (by repeat (first | (with_reducible first | exact HB.out | apply below_alloc | apply pw_below_drewN | apply below_drew1) | exact HB.out)))); have n2_ := Aside0.mk (below_step (by repeat (first | (with_reducible first | exact HB.out | apply below_alloc | apply pw_below_drewN | apply below_drew1) | exact HB.out)) hb); clear HO_1; clear HB; have HO_1 := n0_; have HO318 := n1_; have HB := n2_; clear n0_ n1_ n2_; (try clear hb); (try clear hb2); (try clear hk); (try clear hi); (try clear ho0); obtain ⟨Ao40, co40, eo40⟩ := Kd.R_slice HO318.out; subst eo40; have p319 : 0 ≤ ((ji26) : Int) := of_decide_eq_true (by first | (with_reducible assumption) | assumption); have q319 : (ji26) < (t316.length : Int) := of_decide_eq_true (by first | (with_reducible assumption) | assumption); obtain ⟨ad319, e319, hx319_0⟩ := Kd.at_int (Kd.R_reads' HO318.out).2.2 (ji26) p319 q319; cases e319; replace p319 := eq_true p319; replace q319 := eq_true q319; have p29 : 0 ≤ ((ji26) : Int) := of_decide_eq_true (by first | (with_reducible assumption) | assumption); have q29 : ((ji26) : Int) < ((t316.length : Int) : Int) := of_decide_eq_true (by first | (with_reducible assumption) | assumption); obtain ⟨go29, co29, eo29, gb29, gl29, cl29, HG29⟩ := Kd.R_form HO318.out (by omega); (first | cases eo29 | (injection eo29 with ea_ en_ ec_; (first | subst ea_ | (injection ea_ with ea_; subst ea_)); subst ec_; clear en_)); have GB29 := Aside0.mk gb29; have GG29 := Aside0.mk HG29; clear gb29 gl29 HG29; (first | simp only [add_plain] at hx319_0 | skip); obtain ⟨hx29_0, hf29_0⟩ := Kd.R_celln 0 HO318.out ((ji26) : Int) p29 q29; replace p29 := eq_true p29; replace q29 := eq_true q29; obtain ⟨hy41_, hz41_⟩ := Kd.R_celln 0 HO318.out ((ji26) : Int) (of_decide_eq_true (by first | (with_reducible assumption) | assumption)) (of_decide_eq_true (by first | (with_reducible assumption) | assumption)); have HP41 := Kd.R_putg HO318.out ((ji26) : Int) (Go.bits .xor .u8 (rd t316 (ji26)) a3)) | ((with_reducible refine gate_store (t := 5) (p := 39) rfl ?_); refine store_event (t := 5) (p := 39) (v := ?vo_w42) (w1 := (w39.setCell ⟨go29, ((ji26) : Int).toNat, none⟩ (.int .u8 (Go.bits .xor .u8 (rd t316 (ji26)) a3)))) ?hg ?ho ?hn ?hr ?_; (case ho => rfl); (case hg => rfl); (case hn => rfl); (case hr => first | (go_simp; done) | (go_simp; rfl)); intro w42 hw; have hg : w39.grownBy w42 (some go29) := (by rw [hw]; exact HP41.2); have hp_ : Kd.R (Kd.int .u8) 5 w42 w.heap.size (fun _ => True) (.slice (some ⟨go29, 0, none⟩) t316.length co40) y320 := (by rw [hw, Ny320.out]; exact HP41.1); clear HP41; have n0_ := Aside0.mk (Kd.R_over' (v := (.slice (some ⟨go29, 0, none⟩) t316.length co40)) (by (with_reducible repeat (first | apply Kd.R_alloc | apply Kd.R_drewN | apply Kd.R_drew)); exact HO_1.out) (Kd.R_typed HO318.out) (by decide) hg); have n1_ := Aside0.mk (hp_); have n2_ := Aside0.mk ((by rw [hw]; exact below_set (HB.out) GB29.out : Below w.heap.size w w42)); clear HO_1; clear HO318; clear HB; have HO_1 := n0_; have HO318 := n1_; have HB := n2_; clear n0_ n1_ n2_; clear hg hw hp_) | ((with_reducible refine gate_callee (f := 18) rfl ?_); refine goesL_ (some 41) rfl rfl Try.func18 (by kernel_rfl) rfl #[.slice (some ⟨go29, 0, none⟩) y320.length co40] rfl (by (try simp only [List.map_toArray, List.map_cons, List.map_nil]); first | done | (rw [show y320.length = t316.length from (Kd.R_reads' HO318.out).1.symm] <;> rfl) | rfl | (simp only [List.length_drop, List.length_take]; rfl)) ?_; (with_reducible refine (loesslaw14_tells.calls kj10 _ _ y320 true _ ?side1 ?side2 A30.out).mono ?_); (case side1 => repeat (first | exact (Kd.R_reads' HO318.out).2.2 | (with_reducible refine Kd.C_alloc ?_ _) | (with_reducible refine Kd.C_drewN ?_ _) | (with_reducible refine Kd.C_drew ?_))); (case side2 => rw [show y320.length = t316.length from (Kd.R_reads' HO318.out).1.symm]; exact (Kd.R_reads' HO318.out).2.1); rintro e w43 ⟨rfl, hb⟩; refine ⟨_, rfl, ?_⟩; have n0_ := Aside0.mk (Kd.R_below (by (with_reducible repeat (first | apply Kd.R_alloc | apply Kd.R_drewN | apply Kd.R_drew)); exact HO_1.out) hb); have n1_ := Aside0.mk (Kd.R_below (by (with_reducible repeat (first | apply Kd.R_alloc | apply Kd.R_drewN | apply Kd.R_drew)); exact HO318.out) hb); have n2_ := Aside0.mk (below_step (by repeat (first | (with_reducible first | exact HB.out | apply below_alloc | apply pw_below_drewN | apply below_drew1) | exact HB.out)) hb); clear HO_1; clear HO318; clear HB; have HO_1 := n0_; have HO318 := n1_; have HB := n2_; clear n0_ n1_ n2_; (try clear hb); (try clear hb2); (try clear hk); (try clear hi); have hlx44 := (Kd.R_reads' HO318.out).1; have q44 : ((ji26) : Int) ≤ ((t316.length : Int) : Int) := of_decide_eq_true (by first | (with_reducible assumption) | assumption); obtain ⟨i044, hi044, _, hsz44, _⟩ := info_parts info5; have hroom44 : t316.length ≤ co40 := (Kd.R_reads' HO318.out).2.1; have hroomc44 : y320.length ≤ co40 := (by rw [← hlx44]; exact hroom44); have hC44 : Kd.C (Kd.int .u8) _ (some ⟨go29, 0, none⟩) y320.length y320 := (Kd.R_reads' HO318.out).2.2; have hcut44 := cut_to (P := Try.prog) 26 5 .i64 Try.underlying26 hi044 (some ⟨go29, 0, none⟩) t316.length co40 (ji26) (of_decide_eq_true (by first | (with_reducible assumption) | assumption)) q44 hroom44; have hr44 := Kd.C_take (m := ((ji26) : Int).toNat) hC44 (by omega); have hy44 : y322.length = ((ji26) : Int).toNat := (by rw [Ny322.out, List.length_take]; omega); rw [← Ny322.out] at hr44; rw [← hy44] at hcut44; have HR325 := Aside0.mk hr44; have HC325 := Aside0.mk (show y322.length ≤ co40 from by omega); clear hr44 hC44 hroom44 hi044 hsz44 hroomc44; have KY44 := Aside0.mk hy44; clear hy44; have KE44 := Aside0.mk hlx44; have KL44 := Aside0.mk (show ((ji26) : Int).toNat ≤ y320.length from by omega); clear hlx44; replace q44 := eq_true q44) | (go_at_call 18; (with_reducible refine (loesslaw14_tells.calls kj10 _ _ y322 true _ ?side1 ?side2 A34.out).mono ?_); (case side1 => repeat (first | exact (by repeat (first | (with_reducible exact HR325.out) | (with_reducible refine Kd.C_alloc ?_ _) | (with_reducible refine Kd.C_drewN ?_ _) | (with_reducible refine Kd.C_drew ?_) | exact HR325.out)) | (with_reducible refine Kd.C_alloc ?_ _) | (with_reducible refine Kd.C_drewN ?_ _) | (with_reducible refine Kd.C_drew ?_))); (case side2 => exact HC325.out); rintro e w45 ⟨rfl, hb⟩; have n0_ := Aside0.mk (Kd.R_below (by (with_reducible repeat (first | apply Kd.R_alloc | apply Kd.R_drewN | apply Kd.R_drew)); exact HO_1.out) hb); have n1_ := Aside0.mk (Kd.R_below (by (with_reducible repeat (first | apply Kd.R_alloc | apply Kd.R_drewN | apply Kd.R_drew)); exact HO318.out) hb); have n2_ := Aside0.mk (Kd.C_below (by repeat (first | (with_reducible exact HR325.out) | (with_reducible refine Kd.C_alloc ?_ _) | (with_reducible refine Kd.C_drewN ?_ _) | (with_reducible refine Kd.C_drew ?_) | exact HR325.out)) hb); have n3_ := Aside0.mk (below_step (by repeat (first | (with_reducible first | exact HB.out | apply below_alloc | apply pw_below_drewN | apply below_drew1) | exact HB.out)) hb); clear HO_1; clear HO318; clear HR325; clear HB; have HO_1 := n0_; have HO318 := n1_; have HR325 := n2_; have HB := n3_; clear n0_ n1_ n2_ n3_; (try clear hb); (try clear hb2); (try clear hk); (try clear hi)) | ((with_reducible refine gate_builtin (b := .append) (xs := #[.tmp 52, .tmp 54]) rfl ?_); (try (refine gate_guard (by rfl) ?_; dsimp only)); at_builtin; refine Kd.R_append (Kd.int .u8) (w0 := w) w.heap.size rfl (.tmp 52) (.tmp 54) 26 5 (.int .u8 0) 1 rfl Try.underlying26 info5 rfl (by decide) (by omega) (.slice (some ⟨go29, 0, none⟩) t316.length co40) y320 a3 [.int .u8 a3] (fun _ => True) (fun _ => False) rfl rfl ?aP (fun _ hk => hk.elim) ?aF ?aO ?aB ?aS ?aL ?_; (case aP => exact rfl); (case aB => exact (by repeat (first | (with_reducible first | exact HB.out | apply below_alloc | apply pw_below_drewN | apply below_drew1) | exact HB.out))); (case aF => exact (fun _ _ => trivial)); (case aO => exact (by (with_reducible repeat (first | apply Kd.R_alloc | apply Kd.R_drewN | apply Kd.R_drew)); exact HO318.out)); (case aS => exact (below_size (by repeat (first | (with_reducible first | exact HB.out | apply below_alloc | apply pw_below_drewN | apply below_drew1) | exact HB.out)))); (case aL => have := LMc36.out; omega); intro v328 w46 ho hb hg hat; rw [← Ny327.out] at ho; have n0_ := Aside0.mk (Kd.R_over' (by (with_reducible repeat (first | apply Kd.R_alloc | apply Kd.R_drewN | apply Kd.R_drew)); exact HO_1.out) (Kd.R_typed (by (with_reducible repeat (first | apply Kd.R_alloc | apply Kd.R_drewN | apply Kd.R_drew)); exact HO318.out)) (by decide) hg); have n1_ := Aside0.mk (hb); have n2_ := Aside0.mk (ho); clear HO_1; clear HB; clear HO318; have HO_1 := n0_; have HB := n1_; have HO329 := n2_; clear n0_ n1_ n2_; clear ho hb hg hat; obtain ⟨Ao47, co47, eo47⟩ := Kd.R_slice HO329.out; subst eo47) | (go_at_call 18; (with_reducible refine (loesslaw14_tells.calls kj10 _ _ y327 t330 _ ?side1 ?side2 A37.out).mono ?_); (case side1 => repeat (first | exact (Kd.R_reads' HO329.out).2.2 | (with_reducible refine Kd.C_alloc ?_ _) | (with_reducible refine Kd.C_drewN ?_ _) | (with_reducible refine Kd.C_drew ?_))); (case side2 => exact (Kd.R_reads' HO329.out).2.1); rintro e w48 ⟨rfl, hb⟩; have n0_ := Aside0.mk (Kd.R_below (by (with_reducible repeat (first | apply Kd.R_alloc | apply Kd.R_drewN | apply Kd.R_drew)); exact HO_1.out) hb); have n1_ := Aside0.mk (Kd.R_below (by (with_reducible repeat (first | apply Kd.R_alloc | apply Kd.R_drewN | apply Kd.R_drew)); exact HO329.out) hb); have n2_ := Aside0.mk (below_step (by repeat (first | (with_reducible first | exact HB.out | apply below_alloc | apply pw_below_drewN | apply below_drew1) | exact HB.out)) hb); clear HO_1; clear HO329; clear HB; have HO_1 := n0_; have HO329 := n1_; have HB := n2_; clear n0_ n1_ n2_; (try clear hb); (try clear hb2); (try clear hk); (try clear hi)))
                          go_ret
                          exact ⟨by first | rfl | (simp [errW_none, errW_some] <;> rfl) | (simp only [← hji26]; first | rfl | (simp [errW_none, errW_some] <;> rfl)) | (simp [*, errW_none, errW_some] <;> rfl), by repeat (first | (with_reducible first | exact HB.out | apply below_alloc | apply pw_below_drewN | apply below_drew1) | exact HB.out)⟩
                        · rw [if_neg c36] at H
                          exact absurd H (by simp)
                      · replace c35 := Bool.eq_false_iff.mpr c35
                        subst c35
                        have H1 : (none) = some r := by rw [if_neg (show ¬ (false = true) by decide)] at H; exact H
                        clear H
                        have H := H1
                        clear H1
                        exact absurd H (by simp)
                    · rw [if_neg c33] at H
                      exact absurd H (by simp)
                  · replace c31 := Bool.eq_false_iff.mpr c31
                    subst c31
                    have H1 : (none) = some r := by rw [if_neg (show ¬ (false = true) by decide)] at H; exact H
                    clear H
                    have H := H1
                    clear H1
                    exact absurd H (by simp)
                · rw [if_neg c28] at H
                  exact absurd H (by simp)
              · rw [if_neg c27] at H
                exact absurd H (by simp)
    · replace c10 := Bool.eq_false_iff.mpr c10
      subst c10
      have H1 : (none) = some r := by rw [if_neg (show ¬ (false = true) by decide)] at H; exact H
      clear H
      have H := H1
      clear H1
      exact absurd H (by simp)
  · replace c6 := Bool.eq_false_iff.mpr c6
    subst c6
    have H1 : (none) = some r := by rw [if_neg (show ¬ (false = true) by decide)] at H; exact H
    clear H
    have H := H1
    clear H1
    exact absurd H (by simp)

end Go.Proofs.Ytoffcgdamcchcaa.XDir
