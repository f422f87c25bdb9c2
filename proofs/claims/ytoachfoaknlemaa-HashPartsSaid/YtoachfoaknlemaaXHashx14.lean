-- Written by wip/xprint.py, this session's wrapper round the kit's print program. Not trusted: Lean checks it.
import Derived.Test.YtoachfoaknlemaaXHashx0
import Derived.Test.YtoachfoaknlemaaXHashx5
import Derived.Test.YtoachfoaknlemaaXHashx6
import Derived.Test.YtoachfoaknlemaaXHashx7
import Derived.Test.YtoachfoaknlemaaXHashx8
import Derived.Test.YtoachfoaknlemaaXHashx10
import Derived.Test.YtoachfoaknlemaaXHashx11
import Derived.Test.YtoachfoaknlemaaXHashx12
namespace Go.Proofs.Ytoachfoaknlemaa.XHash
open Go.RowKit Go.Proofs.Ytoachfoaknlemaa.G Go.Proofs.YtoachfoaknlemaaW.PrintWords Go.Proofs.YtoachfoaknlemaaW.PrintLast Go.Proofs.YtoachfoaknlemaaW.PrintMore
attribute [local go_sem] max2_int min2_int max_two min_two max_three min_three max_four min_four   -- for this text's walks alone
set_option linter.unusedVariables false
set_option linter.unusedSimpArgs false

/-! ### loesslaw9_HashParts: function 4 -/
def loesslaw9_HashParts.j0 : Nat → Int → Int → Bool → Option (Bool)
  | 0, _, _, _ => none
  | k + 1, x1, x2, x57 => if x57 = true then (some false) else ((hash_Other.f x1 x2).bind fun t148 => ((loessref6_Other.f x1 x2).bind fun t149 => (some (t148 == t149))))
def loesslaw9_HashParts.f (k : Nat) (a0 : Int) (a1 : Int) (a2 : Int) : Option (Bool) := (loesslaw9_begun.f k).bind fun t140 => (if t140 = true then ((hash_First.f a0).bind fun t141 => ((hash_Tag.f a0).bind fun t142 => ((hash_Other.f t141 t142).bind fun t143 => ((loessref6_First.f a0).bind fun t144 => (if t141 = t144 then ((loessref6_Tag.f a0).bind fun t145 => (if t142 = t145 then ((loessref6_Other.f t141 t142).bind fun t146 => (if t143 = t146 then (if t143 < 0 then (loesslaw9_HashParts.j0 k a1 a2 true) else (if t143 > 7 then (loesslaw9_HashParts.j0 k a1 a2 true) else (if t143 = t141 then (loesslaw9_HashParts.j0 k a1 a2 true) else ((hash_Other.f t143 t142).bind fun t147 => (loesslaw9_HashParts.j0 k a1 a2 (t147 != t141)))))) else (loesslaw9_HashParts.j0 k a1 a2 true))) else (loesslaw9_HashParts.j0 k a1 a2 true))) else (loesslaw9_HashParts.j0 k a1 a2 true)))))) else (some false))
theorem loesslaw9_HashParts.mono_l : ∀ k, (∀ y0 y1 y2, LeO (loesslaw9_HashParts.j0 k y0 y1 y2) (loesslaw9_HashParts.j0 (k + 1) y0 y1 y2))
  | 0 => fun _ _ _ r h => by simp [loesslaw9_HashParts.j0] at h
  | k + 1 => by
    have ih0 := loesslaw9_HashParts.mono_l k
    · intro y0 y1 y2
      unfold loesslaw9_HashParts.j0
      repeat' first
      | (with_reducible exact ih0 _ _ _)
      | (with_reducible exact loesslaw9_begun.mono _)
      | (with_reducible exact LeO.refl _)
      | (with_reducible exact LeO.none _)
      | (with_reducible refine LeO.ite ?_ ?_)
      | (with_reducible refine LeO.bind ?_ (fun _ => ?_))
      | exact ih0 _ _ _
      | exact loesslaw9_begun.mono _
      | exact LeO.none _
      | refine LeO.ite ?_ ?_
      | refine LeO.bind ?_ (fun _ => ?_)
theorem loesslaw9_HashParts.mono : ∀ a0 a1 a2 k, LeO (loesslaw9_HashParts.f k a0 a1 a2) (loesslaw9_HashParts.f (k + 1) a0 a1 a2) := by
  intro a0 a1 a2 k
  have ih0 := loesslaw9_HashParts.mono_l k
  unfold loesslaw9_HashParts.f
  repeat' first
      | (with_reducible exact ih0 _ _ _)
      | (with_reducible exact loesslaw9_begun.mono _)
      | (with_reducible exact LeO.refl _)
      | (with_reducible exact LeO.none _)
      | (with_reducible refine LeO.ite ?_ ?_)
      | (with_reducible refine LeO.bind ?_ (fun _ => ?_))
      | exact ih0 _ _ _
      | exact loesslaw9_begun.mono _
      | exact LeO.none _
      | refine LeO.ite ?_ ?_
      | refine LeO.bind ?_ (fun _ => ?_)
set_option maxHeartbeats 8000000 in
set_option maxRecDepth 100000 in
theorem loesslaw9_HashParts.calls (k : Nat) (a0 : Int) (a1 : Int) (a2 : Int) (r : Bool) (w : World) (h : loesslaw9_HashParts.f k a0 a1 a2 = some r) :
    Calls Try.prog 4 #[.int .u64 a0, .int .i64 a1, .int .i64 a2] w fun e w' => e = .returned (.bool r) ∧ Below w.heap.size w w' := by
  have HB := Aside0.mk (Below.refl w.heap.size w)
  have H : ((loesslaw9_begun.f k).bind fun t140 => (if t140 = true then ((hash_First.f a0).bind fun t141 => ((hash_Tag.f a0).bind fun t142 => ((hash_Other.f t141 t142).bind fun t143 => ((loessref6_First.f a0).bind fun t144 => (if t141 = t144 then ((loessref6_Tag.f a0).bind fun t145 => (if t142 = t145 then ((loessref6_Other.f t141 t142).bind fun t146 => (if t143 = t146 then (if t143 < 0 then (loesslaw9_HashParts.j0 k a1 a2 true) else (if t143 > 7 then (loesslaw9_HashParts.j0 k a1 a2 true) else (if t143 = t141 then (loesslaw9_HashParts.j0 k a1 a2 true) else ((hash_Other.f t143 t142).bind fun t147 => (loesslaw9_HashParts.j0 k a1 a2 (t147 != t141)))))) else (loesslaw9_HashParts.j0 k a1 a2 true))) else (loesslaw9_HashParts.j0 k a1 a2 true))) else (loesslaw9_HashParts.j0 k a1 a2 true)))))) else (some false))) = some r := h
  clear h
  replace H := Option.bind_eq_some_iff.mp H
  obtain ⟨t140, A40, H⟩ := H
  replace H : (if t140 = true then ((hash_First.f a0).bind fun t141 => ((hash_Tag.f a0).bind fun t142 => ((hash_Other.f t141 t142).bind fun t143 => ((loessref6_First.f a0).bind fun t144 => (if t141 = t144 then ((loessref6_Tag.f a0).bind fun t145 => (if t142 = t145 then ((loessref6_Other.f t141 t142).bind fun t146 => (if t143 = t146 then (if t143 < 0 then (loesslaw9_HashParts.j0 k a1 a2 true) else (if t143 > 7 then (loesslaw9_HashParts.j0 k a1 a2 true) else (if t143 = t141 then (loesslaw9_HashParts.j0 k a1 a2 true) else ((hash_Other.f t143 t142).bind fun t147 => (loesslaw9_HashParts.j0 k a1 a2 (t147 != t141)))))) else (loesslaw9_HashParts.j0 k a1 a2 true))) else (loesslaw9_HashParts.j0 k a1 a2 true))) else (loesslaw9_HashParts.j0 k a1 a2 true)))))) else (some false)) = some r := H
  have A4 := Aside0.mk A40
  clear A40
  by_cases c5 : t140 = true
  · subst c5
    have H1 : ((hash_First.f a0).bind fun t141 => ((hash_Tag.f a0).bind fun t142 => ((hash_Other.f t141 t142).bind fun t143 => ((loessref6_First.f a0).bind fun t144 => (if t141 = t144 then ((loessref6_Tag.f a0).bind fun t145 => (if t142 = t145 then ((loessref6_Other.f t141 t142).bind fun t146 => (if t143 = t146 then (if t143 < 0 then (loesslaw9_HashParts.j0 k a1 a2 true) else (if t143 > 7 then (loesslaw9_HashParts.j0 k a1 a2 true) else (if t143 = t141 then (loesslaw9_HashParts.j0 k a1 a2 true) else ((hash_Other.f t143 t142).bind fun t147 => (loesslaw9_HashParts.j0 k a1 a2 (t147 != t141)))))) else (loesslaw9_HashParts.j0 k a1 a2 true))) else (loesslaw9_HashParts.j0 k a1 a2 true))) else (loesslaw9_HashParts.j0 k a1 a2 true)))))) = some r := by rw [if_pos rfl] at H; exact H
    clear H
    have H := H1
    clear H1
    replace H := Option.bind_eq_some_iff.mp H
    obtain ⟨t141, A60, H⟩ := H
    replace H : ((hash_Tag.f a0).bind fun t142 => ((hash_Other.f t141 t142).bind fun t143 => ((loessref6_First.f a0).bind fun t144 => (if t141 = t144 then ((loessref6_Tag.f a0).bind fun t145 => (if t142 = t145 then ((loessref6_Other.f t141 t142).bind fun t146 => (if t143 = t146 then (if t143 < 0 then (loesslaw9_HashParts.j0 k a1 a2 true) else (if t143 > 7 then (loesslaw9_HashParts.j0 k a1 a2 true) else (if t143 = t141 then (loesslaw9_HashParts.j0 k a1 a2 true) else ((hash_Other.f t143 t142).bind fun t147 => (loesslaw9_HashParts.j0 k a1 a2 (t147 != t141)))))) else (loesslaw9_HashParts.j0 k a1 a2 true))) else (loesslaw9_HashParts.j0 k a1 a2 true))) else (loesslaw9_HashParts.j0 k a1 a2 true))))) = some r := H
    have A6 := Aside0.mk A60
    clear A60
    replace H := Option.bind_eq_some_iff.mp H
    obtain ⟨t142, A70, H⟩ := H
    replace H : ((hash_Other.f t141 t142).bind fun t143 => ((loessref6_First.f a0).bind fun t144 => (if t141 = t144 then ((loessref6_Tag.f a0).bind fun t145 => (if t142 = t145 then ((loessref6_Other.f t141 t142).bind fun t146 => (if t143 = t146 then (if t143 < 0 then (loesslaw9_HashParts.j0 k a1 a2 true) else (if t143 > 7 then (loesslaw9_HashParts.j0 k a1 a2 true) else (if t143 = t141 then (loesslaw9_HashParts.j0 k a1 a2 true) else ((hash_Other.f t143 t142).bind fun t147 => (loesslaw9_HashParts.j0 k a1 a2 (t147 != t141)))))) else (loesslaw9_HashParts.j0 k a1 a2 true))) else (loesslaw9_HashParts.j0 k a1 a2 true))) else (loesslaw9_HashParts.j0 k a1 a2 true)))) = some r := H
    have A7 := Aside0.mk A70
    clear A70
    replace H := Option.bind_eq_some_iff.mp H
    obtain ⟨t143, A80, H⟩ := H
    replace H : ((loessref6_First.f a0).bind fun t144 => (if t141 = t144 then ((loessref6_Tag.f a0).bind fun t145 => (if t142 = t145 then ((loessref6_Other.f t141 t142).bind fun t146 => (if t143 = t146 then (if t143 < 0 then (loesslaw9_HashParts.j0 k a1 a2 true) else (if t143 > 7 then (loesslaw9_HashParts.j0 k a1 a2 true) else (if t143 = t141 then (loesslaw9_HashParts.j0 k a1 a2 true) else ((hash_Other.f t143 t142).bind fun t147 => (loesslaw9_HashParts.j0 k a1 a2 (t147 != t141)))))) else (loesslaw9_HashParts.j0 k a1 a2 true))) else (loesslaw9_HashParts.j0 k a1 a2 true))) else (loesslaw9_HashParts.j0 k a1 a2 true))) = some r := H
    have A8 := Aside0.mk A80
    clear A80
    have HC9 := Aside0.mk H
    clear H
    go_enter Try.func4, Try.ntmps4
    go_upto_region 6 with (first | ((with_reducible refine gate_callee (f := 9) rfl ?_); refine goesL_ (some 11) rfl rfl Try.func9 (by kernel_rfl) rfl #[] rfl (by (try simp only [List.map_toArray, List.map_cons, List.map_nil]); first | done | rfl | (simp only [List.length_drop, List.length_take]; rfl)) ?_; (with_reducible refine (loesslaw9_begun.calls k  true _ A4.out).mono ?_); rintro e w10 ⟨rfl, hb⟩; refine ⟨_, rfl, ?_⟩; have n0_ := Aside0.mk (below_step (by repeat (first | (with_reducible first | exact HB.out | apply below_alloc | apply pw_below_drewN | apply below_drew1) | exact HB.out)) hb); clear HB; have HB := n0_; clear n0_; (try clear hb); (try clear hb2); (try clear hk); (try clear hi)) | ((with_reducible refine gate_callee (f := 13) rfl ?_); refine goesL_ (some 15) rfl rfl Try.func13 (by kernel_rfl) rfl #[.int .u64 a0] rfl (by (try simp only [List.map_toArray, List.map_cons, List.map_nil]); first | done | rfl | (simp only [List.length_drop, List.length_take]; rfl)) ?_; (with_reducible refine (hash_First.calls a0 t141 _ A6.out).mono ?_); rintro e w' ⟨rfl, ⟨nd, rfl⟩⟩; refine ⟨_, rfl, ?_⟩) | ((with_reducible refine gate_callee (f := 15) rfl ?_); refine goesL_ (some 17) rfl rfl Try.func15 (by kernel_rfl) rfl #[.int .u64 a0] rfl (by (try simp only [List.map_toArray, List.map_cons, List.map_nil]); first | done | rfl | (simp only [List.length_drop, List.length_take]; rfl)) ?_; (with_reducible refine (hash_Tag.calls a0 t142 _ A7.out).mono ?_); rintro e w' ⟨rfl, ⟨nd, rfl⟩⟩; refine ⟨_, rfl, ?_⟩) | ((with_reducible refine gate_callee (f := 17) rfl ?_); refine goesL_ (some 20) rfl rfl Try.func17 (by kernel_rfl) rfl #[.int .i64 t141, .int .i64 t142] rfl (by (try simp only [List.map_toArray, List.map_cons, List.map_nil]); first | done | rfl | (simp only [List.length_drop, List.length_take]; rfl)) ?_; (with_reducible refine (hash_Other.calls t141 t142 t143 _ A8.out).mono ?_); rintro e w' ⟨rfl, ⟨nd, rfl⟩⟩; refine ⟨_, rfl, ?_⟩))
    (try simp only [Act.put, List.setIfInBounds_toArray, List.set_cons_zero, List.set_cons_succ])
    go_cut [57] (fun v57 wc => ∃ (kq : Nat) (x57_8 : Bool), v57 = .bool x57_8 ∧ Aside0 (loesslaw9_HashParts.j0 kq a1 a2 x57_8 = some r) ∧ Aside0 (kq ≤ k) ∧ Aside0 (Below w.heap.size w wc))
    case first =>
      have H := HC9.out
      clear HC9
      replace H := Option.bind_eq_some_iff.mp H
      obtain ⟨t144, A110, H⟩ := H
      replace H : (if t141 = t144 then ((loessref6_Tag.f a0).bind fun t145 => (if t142 = t145 then ((loessref6_Other.f t141 t142).bind fun t146 => (if t143 = t146 then (if t143 < 0 then (loesslaw9_HashParts.j0 k a1 a2 true) else (if t143 > 7 then (loesslaw9_HashParts.j0 k a1 a2 true) else (if t143 = t141 then (loesslaw9_HashParts.j0 k a1 a2 true) else ((hash_Other.f t143 t142).bind fun t147 => (loesslaw9_HashParts.j0 k a1 a2 (t147 != t141)))))) else (loesslaw9_HashParts.j0 k a1 a2 true))) else (loesslaw9_HashParts.j0 k a1 a2 true))) else (loesslaw9_HashParts.j0 k a1 a2 true)) = some r := H
      have A11 := Aside0.mk A110
      clear A110
      by_cases c12 : t141 = t144
      · rw [if_pos c12] at H
        have c12b0 : (t141 == t144) = true := beq_iff_eq.mpr c12
        have c12b1 : (t141 != t144) = false := bne_eq_false_iff_eq.mpr c12
        clear c12
        (first | rw [c12b0] | (simp only [i64_w, i32_w]; rw [c12b0]) | skip)
        replace H := Option.bind_eq_some_iff.mp H
        obtain ⟨t145, A130, H⟩ := H
        replace H : (if t142 = t145 then ((loessref6_Other.f t141 t142).bind fun t146 => (if t143 = t146 then (if t143 < 0 then (loesslaw9_HashParts.j0 k a1 a2 true) else (if t143 > 7 then (loesslaw9_HashParts.j0 k a1 a2 true) else (if t143 = t141 then (loesslaw9_HashParts.j0 k a1 a2 true) else ((hash_Other.f t143 t142).bind fun t147 => (loesslaw9_HashParts.j0 k a1 a2 (t147 != t141)))))) else (loesslaw9_HashParts.j0 k a1 a2 true))) else (loesslaw9_HashParts.j0 k a1 a2 true)) = some r := H
        have A13 := Aside0.mk A130
        clear A130
        by_cases c14 : t142 = t145
        · rw [if_pos c14] at H
          have c14b0 : (t142 == t145) = true := beq_iff_eq.mpr c14
          have c14b1 : (t142 != t145) = false := bne_eq_false_iff_eq.mpr c14
          clear c14
          replace H := Option.bind_eq_some_iff.mp H
          obtain ⟨t146, A150, H⟩ := H
          replace H : (if t143 = t146 then (if t143 < 0 then (loesslaw9_HashParts.j0 k a1 a2 true) else (if t143 > 7 then (loesslaw9_HashParts.j0 k a1 a2 true) else (if t143 = t141 then (loesslaw9_HashParts.j0 k a1 a2 true) else ((hash_Other.f t143 t142).bind fun t147 => (loesslaw9_HashParts.j0 k a1 a2 (t147 != t141)))))) else (loesslaw9_HashParts.j0 k a1 a2 true)) = some r := H
          have A15 := Aside0.mk A150
          clear A150
          by_cases c16 : t143 = t146
          · rw [if_pos c16] at H
            have c16b0 : (t143 == t146) = true := beq_iff_eq.mpr c16
            have c16b1 : (t143 != t146) = false := bne_eq_false_iff_eq.mpr c16
            clear c16
            by_cases c17 : t143 < 0
            · rw [if_pos c17] at H
              have c17b0 : decide (t143 < 0) = true := decide_eq_true c17
              clear c17
              have H' := Aside0.mk H
              clear H
              go_wp2_with (first | ((with_reducible refine gate_callee (f := 14) rfl ?_); refine goesL_ (some 23) rfl rfl Try.func14 (by kernel_rfl) rfl #[.int .u64 a0] rfl (by (try simp only [List.map_toArray, List.map_cons, List.map_nil]); first | done | rfl | (simp only [List.length_drop, List.length_take]; rfl)) ?_; (with_reducible refine (loessref6_First.calls a0 t144 _ A11.out).mono ?_); rintro e w' ⟨rfl, ⟨nd, rfl⟩⟩; refine ⟨_, rfl, ?_⟩) | (go_at_call 16; (with_reducible refine (loessref6_Tag.calls a0 t145 _ A13.out).mono ?_); rintro e w' ⟨rfl, ⟨nd, rfl⟩⟩) | (go_at_call 18; (with_reducible refine (loessref6_Other.calls t141 t142 t146 _ A15.out).mono ?_); rintro e w' ⟨rfl, ⟨nd, rfl⟩⟩))
              go_meet
              case rel => exact ⟨_, (true), (by first | rfl | (simp; done) | (simp [*]; done)), H', ⟨by first | omega | exact Nat.le_refl _⟩, ⟨by repeat (first | (with_reducible first | exact HB.out | apply below_alloc | apply pw_below_drewN | apply below_drew1) | exact HB.out)⟩⟩
            · rw [if_neg c17] at H
              have c17b0 : decide (t143 < 0) = false := decide_eq_false c17
              clear c17
              by_cases c18 : t143 > 7
              · rw [if_pos c18] at H
                have c18b0 : decide (7 < t143) = true := decide_eq_true c18
                clear c18
                have H' := Aside0.mk H
                clear H
                go_wp2_with (first | ((with_reducible refine gate_callee (f := 14) rfl ?_); refine goesL_ (some 23) rfl rfl Try.func14 (by kernel_rfl) rfl #[.int .u64 a0] rfl (by (try simp only [List.map_toArray, List.map_cons, List.map_nil]); first | done | rfl | (simp only [List.length_drop, List.length_take]; rfl)) ?_; (with_reducible refine (loessref6_First.calls a0 t144 _ A11.out).mono ?_); rintro e w' ⟨rfl, ⟨nd, rfl⟩⟩; refine ⟨_, rfl, ?_⟩) | (go_at_call 16; (with_reducible refine (loessref6_Tag.calls a0 t145 _ A13.out).mono ?_); rintro e w' ⟨rfl, ⟨nd, rfl⟩⟩) | (go_at_call 18; (with_reducible refine (loessref6_Other.calls t141 t142 t146 _ A15.out).mono ?_); rintro e w' ⟨rfl, ⟨nd, rfl⟩⟩))
                go_meet
                case rel => exact ⟨_, (true), (by first | rfl | (simp; done) | (simp [*]; done)), H', ⟨by first | omega | exact Nat.le_refl _⟩, ⟨by repeat (first | (with_reducible first | exact HB.out | apply below_alloc | apply pw_below_drewN | apply below_drew1) | exact HB.out)⟩⟩
              · rw [if_neg c18] at H
                have c18b0 : decide (7 < t143) = false := decide_eq_false c18
                clear c18
                by_cases c19 : t143 = t141
                · rw [if_pos c19] at H
                  have c19b0 : (t143 == t141) = true := beq_iff_eq.mpr c19
                  have c19b1 : (t143 != t141) = false := bne_eq_false_iff_eq.mpr c19
                  clear c19
                  have H' := Aside0.mk H
                  clear H
                  go_wp2_with (first | ((with_reducible refine gate_callee (f := 14) rfl ?_); refine goesL_ (some 23) rfl rfl Try.func14 (by kernel_rfl) rfl #[.int .u64 a0] rfl (by (try simp only [List.map_toArray, List.map_cons, List.map_nil]); first | done | rfl | (simp only [List.length_drop, List.length_take]; rfl)) ?_; (with_reducible refine (loessref6_First.calls a0 t144 _ A11.out).mono ?_); rintro e w' ⟨rfl, ⟨nd, rfl⟩⟩; refine ⟨_, rfl, ?_⟩) | (go_at_call 16; (with_reducible refine (loessref6_Tag.calls a0 t145 _ A13.out).mono ?_); rintro e w' ⟨rfl, ⟨nd, rfl⟩⟩) | (go_at_call 18; (with_reducible refine (loessref6_Other.calls t141 t142 t146 _ A15.out).mono ?_); rintro e w' ⟨rfl, ⟨nd, rfl⟩⟩))
                  go_meet
                  case rel => exact ⟨_, (true), (by first | rfl | (simp; done) | (simp [*]; done)), H', ⟨by first | omega | exact Nat.le_refl _⟩, ⟨by repeat (first | (with_reducible first | exact HB.out | apply below_alloc | apply pw_below_drewN | apply below_drew1) | exact HB.out)⟩⟩
                · rw [if_neg c19] at H
                  have c19b0 : (t143 == t141) = false := beq_eq_false_iff_ne.mpr c19
                  have c19b1 : (t143 != t141) = true := bne_iff_ne.mpr c19
                  replace H := Option.bind_eq_some_iff.mp H
                  obtain ⟨t147, A200, H⟩ := H
                  replace H : (loesslaw9_HashParts.j0 k a1 a2 (t147 != t141)) = some r := H
                  have A20 := Aside0.mk A200
                  clear A200
                  have H' := Aside0.mk H
                  clear H
                  go_wp2_with (first | ((with_reducible refine gate_callee (f := 14) rfl ?_); refine goesL_ (some 23) rfl rfl Try.func14 (by kernel_rfl) rfl #[.int .u64 a0] rfl (by (try simp only [List.map_toArray, List.map_cons, List.map_nil]); first | done | rfl | (simp only [List.length_drop, List.length_take]; rfl)) ?_; (with_reducible refine (loessref6_First.calls a0 t144 _ A11.out).mono ?_); rintro e w' ⟨rfl, ⟨nd, rfl⟩⟩; refine ⟨_, rfl, ?_⟩) | (go_at_call 16; (with_reducible refine (loessref6_Tag.calls a0 t145 _ A13.out).mono ?_); rintro e w' ⟨rfl, ⟨nd, rfl⟩⟩) | (go_at_call 18; (with_reducible refine (loessref6_Other.calls t141 t142 t146 _ A15.out).mono ?_); rintro e w' ⟨rfl, ⟨nd, rfl⟩⟩) | (go_at_call 17; (with_reducible refine (hash_Other.calls t143 t142 t147 _ A20.out).mono ?_); rintro e w' ⟨rfl, ⟨nd, rfl⟩⟩))
                  go_meet
                  case rel => exact ⟨_, ((t147 != t141)), (by first | rfl | (simp; done) | (simp [*]; done)), H', ⟨by first | omega | exact Nat.le_refl _⟩, ⟨by repeat (first | (with_reducible first | exact HB.out | apply below_alloc | apply pw_below_drewN | apply below_drew1) | exact HB.out)⟩⟩
          · rw [if_neg c16] at H
            have c16b0 : (t143 == t146) = false := beq_eq_false_iff_ne.mpr c16
            have c16b1 : (t143 != t146) = true := bne_iff_ne.mpr c16
            have H' := Aside0.mk H
            clear H
            go_wp2_with (first | ((with_reducible refine gate_callee (f := 14) rfl ?_); refine goesL_ (some 23) rfl rfl Try.func14 (by kernel_rfl) rfl #[.int .u64 a0] rfl (by (try simp only [List.map_toArray, List.map_cons, List.map_nil]); first | done | rfl | (simp only [List.length_drop, List.length_take]; rfl)) ?_; (with_reducible refine (loessref6_First.calls a0 t144 _ A11.out).mono ?_); rintro e w' ⟨rfl, ⟨nd, rfl⟩⟩; refine ⟨_, rfl, ?_⟩) | (go_at_call 16; (with_reducible refine (loessref6_Tag.calls a0 t145 _ A13.out).mono ?_); rintro e w' ⟨rfl, ⟨nd, rfl⟩⟩) | (go_at_call 18; (with_reducible refine (loessref6_Other.calls t141 t142 t146 _ A15.out).mono ?_); rintro e w' ⟨rfl, ⟨nd, rfl⟩⟩))
            go_meet
            case rel => exact ⟨_, (true), (by first | rfl | (simp; done) | (simp [*]; done)), H', ⟨by first | omega | exact Nat.le_refl _⟩, ⟨by repeat (first | (with_reducible first | exact HB.out | apply below_alloc | apply pw_below_drewN | apply below_drew1) | exact HB.out)⟩⟩
        · rw [if_neg c14] at H
          have c14b0 : (t142 == t145) = false := beq_eq_false_iff_ne.mpr c14
          have c14b1 : (t142 != t145) = true := bne_iff_ne.mpr c14
          have H' := Aside0.mk H
          clear H
          go_wp2_with (first | ((with_reducible refine gate_callee (f := 14) rfl ?_); refine goesL_ (some 23) rfl rfl Try.func14 (by kernel_rfl) rfl #[.int .u64 a0] rfl (by (try simp only [List.map_toArray, List.map_cons, List.map_nil]); first | done | rfl | (simp only [List.length_drop, List.length_take]; rfl)) ?_; (with_reducible refine (loessref6_First.calls a0 t144 _ A11.out).mono ?_); rintro e w' ⟨rfl, ⟨nd, rfl⟩⟩; refine ⟨_, rfl, ?_⟩) | (go_at_call 16; (with_reducible refine (loessref6_Tag.calls a0 t145 _ A13.out).mono ?_); rintro e w' ⟨rfl, ⟨nd, rfl⟩⟩))
          go_meet
          case rel => exact ⟨_, (true), (by first | rfl | (simp; done) | (simp [*]; done)), H', ⟨by first | omega | exact Nat.le_refl _⟩, ⟨by repeat (first | (with_reducible first | exact HB.out | apply below_alloc | apply pw_below_drewN | apply below_drew1) | exact HB.out)⟩⟩
      · rw [if_neg c12] at H
        have c12b0 : (t141 == t144) = false := beq_eq_false_iff_ne.mpr c12
        have c12b1 : (t141 != t144) = true := bne_iff_ne.mpr c12
        (first | rw [c12b0] | (simp only [i64_w, i32_w]; rw [c12b0]) | skip)
        have H' := Aside0.mk H
        clear H
        go_wp2_with (first | ((with_reducible refine gate_callee (f := 14) rfl ?_); refine goesL_ (some 23) rfl rfl Try.func14 (by kernel_rfl) rfl #[.int .u64 a0] rfl (by (try simp only [List.map_toArray, List.map_cons, List.map_nil]); first | done | rfl | (simp only [List.length_drop, List.length_take]; rfl)) ?_; (with_reducible refine (loessref6_First.calls a0 t144 _ A11.out).mono ?_); rintro e w' ⟨rfl, ⟨nd, rfl⟩⟩; refine ⟨_, rfl, ?_⟩))
        go_meet
        case rel => exact ⟨_, (true), (by first | rfl | (simp; done) | (simp [*]; done)), H', ⟨by first | omega | exact Nat.le_refl _⟩, ⟨by repeat (first | (with_reducible first | exact HB.out | apply below_alloc | apply pw_below_drewN | apply below_drew1) | exact HB.out)⟩⟩
    case rest =>
      clear HC9
      try clear c1
      try clear p2
      try clear c4
      try clear c5
      try clear c9
      try clear c12
      try clear c12b0
      try clear c12b1
      try clear c13
      try clear c14
      try clear c14b0
      try clear c14b1
      try clear c15
      try clear c16
      try clear c16b0
      try clear c16b1
      try clear c17
      try clear c17b0
      try clear c18
      try clear c18b0
      try clear c19
      try clear c19b0
      try clear c19b1
      obtain ⟨kq, x57_8, rfl, HA, HJ8, HB⟩ := hcut
      cases kq with
      | zero => exact absurd HA.out (by simp [loesslaw9_HashParts.j0])
      | succ kj8 =>
        have H := HA.out
        clear HA
        simp only [loesslaw9_HashParts.j0] at H
        by_cases c21 : x57_8 = true
        · subst c21
          have H1 : (some false) = some r := by rw [if_pos rfl] at H; exact H
          clear H
          have H := H1
          clear H1
          obtain rfl := Option.some.inj H
          go_wp2
          go_ret
          exact ⟨by first | rfl | (simp [errW_none, errW_some] <;> rfl) | (simp [*, errW_none, errW_some] <;> rfl), by repeat (first | (with_reducible first | exact HB.out | apply below_alloc | apply pw_below_drewN | apply below_drew1) | exact HB.out)⟩
        · replace c21 := Bool.eq_false_iff.mpr c21
          subst c21
          have H1 : ((hash_Other.f a1 a2).bind fun t148 => ((loessref6_Other.f a1 a2).bind fun t149 => (some (t148 == t149)))) = some r := by rw [if_neg (show ¬ (false = true) by decide)] at H; exact H
          clear H
          have H := H1
          clear H1
          replace H := Option.bind_eq_some_iff.mp H
          obtain ⟨t148, A220, H⟩ := H
          replace H : ((loessref6_Other.f a1 a2).bind fun t149 => (some (t148 == t149))) = some r := H
          have A22 := Aside0.mk A220
          clear A220
          replace H := Option.bind_eq_some_iff.mp H
          obtain ⟨t149, A230, H⟩ := H
          replace H : (some (t148 == t149)) = some r := H
          have A23 := Aside0.mk A230
          clear A230
          obtain rfl := Option.some.inj H
          go_wp2_with (first | ((with_reducible refine gate_callee (f := 17) rfl ?_); refine goesL_ (some 60) rfl rfl Try.func17 (by kernel_rfl) rfl #[.int .i64 a1, .int .i64 a2] rfl (by (try simp only [List.map_toArray, List.map_cons, List.map_nil]); first | done | rfl | (simp only [List.length_drop, List.length_take]; rfl)) ?_; (with_reducible refine (hash_Other.calls a1 a2 t148 _ A22.out).mono ?_); rintro e w' ⟨rfl, ⟨nd, rfl⟩⟩; refine ⟨_, rfl, ?_⟩) | ((with_reducible refine gate_callee (f := 18) rfl ?_); refine goesL_ (some 63) rfl rfl Try.func18 (by kernel_rfl) rfl #[.int .i64 a1, .int .i64 a2] rfl (by (try simp only [List.map_toArray, List.map_cons, List.map_nil]); first | done | rfl | (simp only [List.length_drop, List.length_take]; rfl)) ?_; (with_reducible refine (loessref6_Other.calls a1 a2 t149 _ A23.out).mono ?_); rintro e w' ⟨rfl, ⟨nd, rfl⟩⟩; refine ⟨_, rfl, ?_⟩))
          go_ret
          exact ⟨by first | rfl | (simp [errW_none, errW_some] <;> rfl) | (simp [*, errW_none, errW_some] <;> rfl), by repeat (first | (with_reducible first | exact HB.out | apply below_alloc | apply pw_below_drewN | apply below_drew1) | exact HB.out)⟩
  · replace c5 := Bool.eq_false_iff.mpr c5
    subst c5
    have H1 : (some false) = some r := by rw [if_neg (show ¬ (false = true) by decide)] at H; exact H
    clear H
    have H := H1
    clear H1
    obtain rfl := Option.some.inj H
    go_enter Try.func4, Try.ntmps4
    go_wp2_with (first | ((with_reducible refine gate_callee (f := 9) rfl ?_); refine goesL_ (some 11) rfl rfl Try.func9 (by kernel_rfl) rfl #[] rfl (by (try simp only [List.map_toArray, List.map_cons, List.map_nil]); first | done | rfl | (simp only [List.length_drop, List.length_take]; rfl)) ?_; (with_reducible refine (loesslaw9_begun.calls k  false _ A4.out).mono ?_); rintro e w24 ⟨rfl, hb⟩; refine ⟨_, rfl, ?_⟩; have n0_ := Aside0.mk (below_step (by repeat (first | (with_reducible first | exact HB.out | apply below_alloc | apply pw_below_drewN | apply below_drew1) | exact HB.out)) hb); clear HB; have HB := n0_; clear n0_; (try clear hb); (try clear hb2); (try clear hk); (try clear hi)))
    go_ret
    exact ⟨by first | rfl | (simp [errW_none, errW_some] <;> rfl) | (simp [*, errW_none, errW_some] <;> rfl), by repeat (first | (with_reducible first | exact HB.out | apply below_alloc | apply pw_below_drewN | apply below_drew1) | exact HB.out)⟩

/-- THE ONE PURE STATEMENT of loesslaw9_HashParts: yours. -/
def loesslaw9_HashParts.Pure : Prop := ∀ (a0 : Int) (a1 : Int) (a2 : Int), (Lit.int .u64 a0).wf = true → (Lit.int .i64 a1).wf = true → (Lit.int .i64 a2).wf = true → ∃ k, loesslaw9_HashParts.f k a0 a1 a2 = some true
theorem loesslaw9_HashParts.walk (P : loesslaw9_HashParts.Pure) (a0 : Int) (a1 : Int) (a2 : Int) (w : World) (w0 : (Lit.int .u64 a0).wf = true) (w1 : (Lit.int .i64 a1).wf = true) (w2 : (Lit.int .i64 a2).wf = true) :
    Calls Try.prog 4 #[.int .u64 a0, .int .i64 a1, .int .i64 a2] w fun e w' => e = .returned (.bool true) ∧ Below w.heap.size w w' := by
  obtain ⟨k, h⟩ := P a0 a1 a2 w0 w1 w2
  refine (loesslaw9_HashParts.calls k a0 a1 a2 true w h).mono ?_
  rintro e w' ⟨rfl, hd⟩
  exact ⟨rfl, hd⟩

end Go.Proofs.Ytoachfoaknlemaa.XHash
