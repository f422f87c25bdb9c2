-- Written by wip/xprint.py, this session's wrapper round the kit's print program. Not trusted: Lean checks it.
import Derived.Test.YtbjkednhoanloaaXKeyx0
import Derived.Test.YtbjkednhoanloaaXKeyx6
import Derived.Test.YtbjkednhoanloaaXKeyx7
import Derived.Test.YtbjkednhoanloaaXKeyx8
namespace Go.Proofs.Ytbjkednhoanloaa.XKey
open Go.RowKit Go.Proofs.Ytbjkednhoanloaa.G Go.Proofs.YtbjkednhoanloaaW.PrintWords Go.Proofs.YtbjkednhoanloaaW.PrintLast Go.Proofs.YtbjkednhoanloaaW.PrintMore
attribute [local go_sem] max2_int min2_int max_two min_two max_three min_three max_four min_four   -- for this text's walks alone
set_option linter.unusedVariables false
set_option linter.unusedSimpArgs false

/-! ### loesslaw5_KeyThree: function 5 -/
def loesslaw5_KeyThree.j0 : Nat → ByteArray → ByteArray → ByteArray → Bool → Option (Bool)
  | 0, _, _, _, _ => none
  | k + 1, x0, x1, x2, x30 => if x30 = true then (some false) else ((key_Runes.f k x0 x1).bind fun t175 => (if t175 > 0 then (some true) else ((key_Runes.f k x1 x2).bind fun t176 => (if t176 > 0 then (some true) else ((key_Runes.f k x0 x2).bind fun t177 => (if t177 ≤ 0 then ((key_Runes.f k x0 x2).bind fun t177 => ((key_Runes.f k x0 x1).bind fun t175 => (if t175 < 0 then (some ((decide (t177 < 0)) == true)) else ((key_Runes.f k x1 x2).bind fun t176 => (some ((decide (t177 < 0)) == (decide (t176 < 0)))))))) else (some false)))))))
def loesslaw5_KeyThree.f (k : Nat) (a0 : ByteArray) (a1 : ByteArray) (a2 : ByteArray) : Option (Bool) := (loesslaw5_begun.f k).bind fun t168 => (if t168 = true then ((loesslaw3_Cut.f a0 12).bind fun t169 => ((loesslaw3_Cut.f a1 12).bind fun t170 => ((loesslaw3_Cut.f a2 12).bind fun t171 => ((key_Runes.f k t169 t169).bind fun t172 => (if t172 = 0 then ((key_Runes.f k t169 t170).bind fun t173 => ((key_Runes.f k t170 t169).bind fun t174 => (loesslaw5_KeyThree.j0 k t169 t170 t171 (t173 != (wrap64 (-t174)))))) else (loesslaw5_KeyThree.j0 k t169 t170 t171 true)))))) else (some false))
theorem loesslaw5_KeyThree.mono_l : ∀ k, (∀ y0 y1 y2 y3, LeO (loesslaw5_KeyThree.j0 k y0 y1 y2 y3) (loesslaw5_KeyThree.j0 (k + 1) y0 y1 y2 y3))
  | 0 => fun _ _ _ _ r h => by simp [loesslaw5_KeyThree.j0] at h
  | k + 1 => by
    have ih0 := loesslaw5_KeyThree.mono_l k
    · intro y0 y1 y2 y3
      unfold loesslaw5_KeyThree.j0
      repeat' first
      | (with_reducible exact ih0 _ _ _ _)
      | (with_reducible exact key_Runes.mono _ _ _)
      | (with_reducible exact loesslaw5_begun.mono _)
      | (with_reducible exact LeO.refl _)
      | (with_reducible exact LeO.none _)
      | (with_reducible refine LeO.ite ?_ ?_)
      | (with_reducible refine LeO.bind ?_ (fun _ => ?_))
      | exact ih0 _ _ _ _
      | exact key_Runes.mono _ _ _
      | exact loesslaw5_begun.mono _
      | exact LeO.none _
      | refine LeO.ite ?_ ?_
      | refine LeO.bind ?_ (fun _ => ?_)
theorem loesslaw5_KeyThree.mono : ∀ a0 a1 a2 k, LeO (loesslaw5_KeyThree.f k a0 a1 a2) (loesslaw5_KeyThree.f (k + 1) a0 a1 a2) := by
  intro a0 a1 a2 k
  have ih0 := loesslaw5_KeyThree.mono_l k
  unfold loesslaw5_KeyThree.f
  repeat' first
      | (with_reducible exact ih0 _ _ _ _)
      | (with_reducible exact key_Runes.mono _ _ _)
      | (with_reducible exact loesslaw5_begun.mono _)
      | (with_reducible exact LeO.refl _)
      | (with_reducible exact LeO.none _)
      | (with_reducible refine LeO.ite ?_ ?_)
      | (with_reducible refine LeO.bind ?_ (fun _ => ?_))
      | exact ih0 _ _ _ _
      | exact key_Runes.mono _ _ _
      | exact loesslaw5_begun.mono _
      | exact LeO.none _
      | refine LeO.ite ?_ ?_
      | refine LeO.bind ?_ (fun _ => ?_)
set_option maxHeartbeats 8000000 in
set_option maxRecDepth 100000 in
theorem loesslaw5_KeyThree.calls (k : Nat) (a0 : ByteArray) (a1 : ByteArray) (a2 : ByteArray) (r : Bool) (w : World) (h : loesslaw5_KeyThree.f k a0 a1 a2 = some r) :
    Calls Try.prog 5 #[.string a0, .string a1, .string a2] w fun e w' => e = .returned (.bool r) ∧ Below w.heap.size w w' := by
  have HB := Aside0.mk (Below.refl w.heap.size w)
  have H : ((loesslaw5_begun.f k).bind fun t168 => (if t168 = true then ((loesslaw3_Cut.f a0 12).bind fun t169 => ((loesslaw3_Cut.f a1 12).bind fun t170 => ((loesslaw3_Cut.f a2 12).bind fun t171 => ((key_Runes.f k t169 t169).bind fun t172 => (if t172 = 0 then ((key_Runes.f k t169 t170).bind fun t173 => ((key_Runes.f k t170 t169).bind fun t174 => (loesslaw5_KeyThree.j0 k t169 t170 t171 (t173 != (wrap64 (-t174)))))) else (loesslaw5_KeyThree.j0 k t169 t170 t171 true)))))) else (some false))) = some r := h
  clear h
  replace H := Option.bind_eq_some_iff.mp H
  obtain ⟨t168, A40, H⟩ := H
  replace H : (if t168 = true then ((loesslaw3_Cut.f a0 12).bind fun t169 => ((loesslaw3_Cut.f a1 12).bind fun t170 => ((loesslaw3_Cut.f a2 12).bind fun t171 => ((key_Runes.f k t169 t169).bind fun t172 => (if t172 = 0 then ((key_Runes.f k t169 t170).bind fun t173 => ((key_Runes.f k t170 t169).bind fun t174 => (loesslaw5_KeyThree.j0 k t169 t170 t171 (t173 != (wrap64 (-t174)))))) else (loesslaw5_KeyThree.j0 k t169 t170 t171 true)))))) else (some false)) = some r := H
  have A4 := Aside0.mk A40
  clear A40
  by_cases c5 : t168 = true
  · subst c5
    have H1 : ((loesslaw3_Cut.f a0 12).bind fun t169 => ((loesslaw3_Cut.f a1 12).bind fun t170 => ((loesslaw3_Cut.f a2 12).bind fun t171 => ((key_Runes.f k t169 t169).bind fun t172 => (if t172 = 0 then ((key_Runes.f k t169 t170).bind fun t173 => ((key_Runes.f k t170 t169).bind fun t174 => (loesslaw5_KeyThree.j0 k t169 t170 t171 (t173 != (wrap64 (-t174)))))) else (loesslaw5_KeyThree.j0 k t169 t170 t171 true)))))) = some r := by rw [if_pos rfl] at H; exact H
    clear H
    have H := H1
    clear H1
    replace H := Option.bind_eq_some_iff.mp H
    obtain ⟨t169, A60, H⟩ := H
    replace H : ((loesslaw3_Cut.f a1 12).bind fun t170 => ((loesslaw3_Cut.f a2 12).bind fun t171 => ((key_Runes.f k t169 t169).bind fun t172 => (if t172 = 0 then ((key_Runes.f k t169 t170).bind fun t173 => ((key_Runes.f k t170 t169).bind fun t174 => (loesslaw5_KeyThree.j0 k t169 t170 t171 (t173 != (wrap64 (-t174)))))) else (loesslaw5_KeyThree.j0 k t169 t170 t171 true))))) = some r := H
    have A6 := Aside0.mk A60
    clear A60
    replace H := Option.bind_eq_some_iff.mp H
    obtain ⟨t170, A70, H⟩ := H
    replace H : ((loesslaw3_Cut.f a2 12).bind fun t171 => ((key_Runes.f k t169 t169).bind fun t172 => (if t172 = 0 then ((key_Runes.f k t169 t170).bind fun t173 => ((key_Runes.f k t170 t169).bind fun t174 => (loesslaw5_KeyThree.j0 k t169 t170 t171 (t173 != (wrap64 (-t174)))))) else (loesslaw5_KeyThree.j0 k t169 t170 t171 true)))) = some r := H
    have A7 := Aside0.mk A70
    clear A70
    replace H := Option.bind_eq_some_iff.mp H
    obtain ⟨t171, A80, H⟩ := H
    replace H : ((key_Runes.f k t169 t169).bind fun t172 => (if t172 = 0 then ((key_Runes.f k t169 t170).bind fun t173 => ((key_Runes.f k t170 t169).bind fun t174 => (loesslaw5_KeyThree.j0 k t169 t170 t171 (t173 != (wrap64 (-t174)))))) else (loesslaw5_KeyThree.j0 k t169 t170 t171 true))) = some r := H
    have A8 := Aside0.mk A80
    clear A80
    have HC9 := Aside0.mk H
    clear H
    go_enter Try.func5, Try.ntmps5
    go_upto_region 5 with (first | ((with_reducible refine gate_callee (f := 7) rfl ?_); refine goesL_ (some 8) rfl rfl Try.func7 (by kernel_rfl) rfl #[] rfl (by (try simp only [List.map_toArray, List.map_cons, List.map_nil]); first | done | rfl | (simp only [List.length_drop, List.length_take]; rfl)) ?_; (with_reducible refine (loesslaw5_begun.calls k  true _ A4.out).mono ?_); rintro e w10 ⟨rfl, hb⟩; refine ⟨_, rfl, ?_⟩; have n0_ := Aside0.mk (below_step (by repeat (first | (with_reducible first | exact HB.out | apply below_alloc | apply pw_below_drewN | apply below_drew1) | exact HB.out)) hb); clear HB; have HB := n0_; clear n0_; (try clear hb); (try clear hb2); (try clear hk); (try clear hi)) | ((with_reducible refine gate_callee (f := 8) rfl ?_); refine goesL_ (some 12) rfl rfl Try.func8 (by kernel_rfl) rfl #[.string a0, .int .i64 12] rfl (by (try simp only [List.map_toArray, List.map_cons, List.map_nil]); first | done | rfl | (simp only [List.length_drop, List.length_take]; rfl)) ?_; (with_reducible refine (loesslaw3_Cut.calls a0 12 t169 _ A6.out).mono ?_); rintro e w' ⟨rfl, ⟨nd, rfl⟩⟩; refine ⟨_, rfl, ?_⟩) | ((with_reducible refine gate_callee (f := 8) rfl ?_); refine goesL_ (some 14) rfl rfl Try.func8 (by kernel_rfl) rfl #[.string a1, .int .i64 12] rfl (by (try simp only [List.map_toArray, List.map_cons, List.map_nil]); first | done | rfl | (simp only [List.length_drop, List.length_take]; rfl)) ?_; (with_reducible refine (loesslaw3_Cut.calls a1 12 t170 _ A7.out).mono ?_); rintro e w' ⟨rfl, ⟨nd, rfl⟩⟩; refine ⟨_, rfl, ?_⟩) | ((with_reducible refine gate_callee (f := 8) rfl ?_); refine goesL_ (some 16) rfl rfl Try.func8 (by kernel_rfl) rfl #[.string a2, .int .i64 12] rfl (by (try simp only [List.map_toArray, List.map_cons, List.map_nil]); first | done | rfl | (simp only [List.length_drop, List.length_take]; rfl)) ?_; (with_reducible refine (loesslaw3_Cut.calls a2 12 t171 _ A8.out).mono ?_); rintro e w' ⟨rfl, ⟨nd, rfl⟩⟩; refine ⟨_, rfl, ?_⟩))
    (try simp only [Act.put, List.setIfInBounds_toArray, List.set_cons_zero, List.set_cons_succ])
    go_cut [30] (fun v30 wc => ∃ (kq : Nat) (x30_8 : Bool), v30 = .bool x30_8 ∧ Aside0 (loesslaw5_KeyThree.j0 kq t169 t170 t171 x30_8 = some r) ∧ Aside0 (kq ≤ k) ∧ Aside0 (Below w.heap.size w wc))
    case first =>
      have H := HC9.out
      clear HC9
      replace H := Option.bind_eq_some_iff.mp H
      obtain ⟨t172, A110, H⟩ := H
      replace H : (if t172 = 0 then ((key_Runes.f k t169 t170).bind fun t173 => ((key_Runes.f k t170 t169).bind fun t174 => (loesslaw5_KeyThree.j0 k t169 t170 t171 (t173 != (wrap64 (-t174)))))) else (loesslaw5_KeyThree.j0 k t169 t170 t171 true)) = some r := H
      have A11 := Aside0.mk A110
      clear A110
      by_cases c12 : t172 = 0
      · rw [if_pos c12] at H
        have c12b0 : (t172 == 0) = true := beq_iff_eq.mpr c12
        have c12b1 : (t172 != 0) = false := bne_eq_false_iff_eq.mpr c12
        clear c12
        (first | rw [c12b0] | (simp only [i64_w, i32_w]; rw [c12b0]) | skip)
        replace H := Option.bind_eq_some_iff.mp H
        obtain ⟨t173, A130, H⟩ := H
        replace H : ((key_Runes.f k t170 t169).bind fun t174 => (loesslaw5_KeyThree.j0 k t169 t170 t171 (t173 != (wrap64 (-t174))))) = some r := H
        have A13 := Aside0.mk A130
        clear A130
        replace H := Option.bind_eq_some_iff.mp H
        obtain ⟨t174, A140, H⟩ := H
        replace H : (loesslaw5_KeyThree.j0 k t169 t170 t171 (t173 != (wrap64 (-t174)))) = some r := H
        have A14 := Aside0.mk A140
        clear A140
        have H' := Aside0.mk H
        clear H
        go_wp2_with (first | ((with_reducible refine gate_callee (f := 12) rfl ?_); refine goesL_ (some 19) rfl rfl Try.func12 (by kernel_rfl) rfl #[.string t169, .string t169] rfl (by (try simp only [List.map_toArray, List.map_cons, List.map_nil]); first | done | rfl | (simp only [List.length_drop, List.length_take]; rfl)) ?_; (with_reducible refine (key_Runes.calls k t169 t169 t172 _ A11.out).mono ?_); rintro e w15 ⟨rfl, hb⟩; refine ⟨_, rfl, ?_⟩; have n0_ := Aside0.mk (below_step (by repeat (first | (with_reducible first | exact HB.out | apply below_alloc | apply pw_below_drewN | apply below_drew1) | exact HB.out)) hb); clear HB; have HB := n0_; clear n0_; (try clear hb); (try clear hb2); (try clear hk); (try clear hi)) | (go_at_call 12; (with_reducible refine (key_Runes.calls k t169 t170 t173 _ A13.out).mono ?_); rintro e w16 ⟨rfl, hb⟩; have n0_ := Aside0.mk (below_step (by repeat (first | (with_reducible first | exact HB.out | apply below_alloc | apply pw_below_drewN | apply below_drew1) | exact HB.out)) hb); clear HB; have HB := n0_; clear n0_; (try clear hb); (try clear hb2); (try clear hk); (try clear hi)) | (go_at_call 12; (with_reducible refine (key_Runes.calls k t170 t169 t174 _ A14.out).mono ?_); rintro e w17 ⟨rfl, hb⟩; have n0_ := Aside0.mk (below_step (by repeat (first | (with_reducible first | exact HB.out | apply below_alloc | apply pw_below_drewN | apply below_drew1) | exact HB.out)) hb); clear HB; have HB := n0_; clear n0_; (try clear hb); (try clear hb2); (try clear hk); (try clear hi)))
        go_meet
        case rel => exact ⟨_, ((t173 != (wrap64 (-t174)))), (by first | rfl | (simp; done) | (simp [*]; done)), H', ⟨by first | omega | exact Nat.le_refl _⟩, ⟨by repeat (first | (with_reducible first | exact HB.out | apply below_alloc | apply pw_below_drewN | apply below_drew1) | exact HB.out)⟩⟩
      · rw [if_neg c12] at H
        have c12b0 : (t172 == 0) = false := beq_eq_false_iff_ne.mpr c12
        have c12b1 : (t172 != 0) = true := bne_iff_ne.mpr c12
        (first | rw [c12b0] | (simp only [i64_w, i32_w]; rw [c12b0]) | skip)
        have H' := Aside0.mk H
        clear H
        go_wp2_with (first | ((with_reducible refine gate_callee (f := 12) rfl ?_); refine goesL_ (some 19) rfl rfl Try.func12 (by kernel_rfl) rfl #[.string t169, .string t169] rfl (by (try simp only [List.map_toArray, List.map_cons, List.map_nil]); first | done | rfl | (simp only [List.length_drop, List.length_take]; rfl)) ?_; (with_reducible refine (key_Runes.calls k t169 t169 t172 _ A11.out).mono ?_); rintro e w18 ⟨rfl, hb⟩; refine ⟨_, rfl, ?_⟩; have n0_ := Aside0.mk (below_step (by repeat (first | (with_reducible first | exact HB.out | apply below_alloc | apply pw_below_drewN | apply below_drew1) | exact HB.out)) hb); clear HB; have HB := n0_; clear n0_; (try clear hb); (try clear hb2); (try clear hk); (try clear hi)))
        go_meet
        case rel => exact ⟨_, (true), (by first | rfl | (simp; done) | (simp [*]; done)), H', ⟨by first | omega | exact Nat.le_refl _⟩, ⟨by repeat (first | (with_reducible first | exact HB.out | apply below_alloc | apply pw_below_drewN | apply below_drew1) | exact HB.out)⟩⟩
    case rest =>
      clear HC9
      try clear c1
      try clear p2
      try clear c5
      try clear p6
      try clear c7
      try clear c8
      try clear c12
      try clear c12b0
      try clear c12b1
      obtain ⟨kq, x30_8, rfl, HA, HJ8, HB⟩ := hcut
      cases kq with
      | zero => exact absurd HA.out (by simp [loesslaw5_KeyThree.j0])
      | succ kj8 =>
        have H := HA.out
        clear HA
        simp only [loesslaw5_KeyThree.j0] at H
        by_cases c19 : x30_8 = true
        · subst c19
          have H1 : (some false) = some r := by rw [if_pos rfl] at H; exact H
          clear H
          have H := H1
          clear H1
          obtain rfl := Option.some.inj H
          go_wp2
          go_ret
          exact ⟨by first | rfl | (simp [errW_none, errW_some] <;> rfl) | (simp [*, errW_none, errW_some] <;> rfl), by repeat (first | (with_reducible first | exact HB.out | apply below_alloc | apply pw_below_drewN | apply below_drew1) | exact HB.out)⟩
        · replace c19 := Bool.eq_false_iff.mpr c19
          subst c19
          have H1 : ((key_Runes.f kj8 t169 t170).bind fun t175 => (if t175 > 0 then (some true) else ((key_Runes.f kj8 t170 t171).bind fun t176 => (if t176 > 0 then (some true) else ((key_Runes.f kj8 t169 t171).bind fun t177 => (if t177 ≤ 0 then ((key_Runes.f kj8 t169 t171).bind fun t177 => ((key_Runes.f kj8 t169 t170).bind fun t175 => (if t175 < 0 then (some ((decide (t177 < 0)) == true)) else ((key_Runes.f kj8 t170 t171).bind fun t176 => (some ((decide (t177 < 0)) == (decide (t176 < 0)))))))) else (some false))))))) = some r := by rw [if_neg (show ¬ (false = true) by decide)] at H; exact H
          clear H
          have H := H1
          clear H1
          replace H := Option.bind_eq_some_iff.mp H
          obtain ⟨t175, A200, H⟩ := H
          replace H : (if t175 > 0 then (some true) else ((key_Runes.f kj8 t170 t171).bind fun t176 => (if t176 > 0 then (some true) else ((key_Runes.f kj8 t169 t171).bind fun t177 => (if t177 ≤ 0 then ((key_Runes.f kj8 t169 t171).bind fun t177 => ((key_Runes.f kj8 t169 t170).bind fun t175 => (if t175 < 0 then (some ((decide (t177 < 0)) == true)) else ((key_Runes.f kj8 t170 t171).bind fun t176 => (some ((decide (t177 < 0)) == (decide (t176 < 0)))))))) else (some false)))))) = some r := H
          have A20 := Aside0.mk A200
          clear A200
          by_cases c21 : t175 > 0
          · rw [if_pos c21] at H
            have c21b0 : decide (0 < t175) = true := decide_eq_true c21
            clear c21
            obtain rfl := Option.some.inj H
            go_wp2_with (first | ((with_reducible refine gate_callee (f := 12) rfl ?_); refine goesL_ (some 33) rfl rfl Try.func12 (by kernel_rfl) rfl #[.string t169, .string t170] rfl (by (try simp only [List.map_toArray, List.map_cons, List.map_nil]); first | done | rfl | (simp only [List.length_drop, List.length_take]; rfl)) ?_; (with_reducible refine (key_Runes.calls kj8 t169 t170 t175 _ A20.out).mono ?_); rintro e w22 ⟨rfl, hb⟩; refine ⟨_, rfl, ?_⟩; have n0_ := Aside0.mk (below_step (by repeat (first | (with_reducible first | exact HB.out | apply below_alloc | apply pw_below_drewN | apply below_drew1) | exact HB.out)) hb); clear HB; have HB := n0_; clear n0_; (try clear hb); (try clear hb2); (try clear hk); (try clear hi)))
            go_ret
            exact ⟨by first | rfl | (simp [errW_none, errW_some] <;> rfl) | (simp [*, errW_none, errW_some] <;> rfl), by repeat (first | (with_reducible first | exact HB.out | apply below_alloc | apply pw_below_drewN | apply below_drew1) | exact HB.out)⟩
          · rw [if_neg c21] at H
            have c21b0 : decide (0 < t175) = false := decide_eq_false c21
            clear c21
            replace H := Option.bind_eq_some_iff.mp H
            obtain ⟨t176, A230, H⟩ := H
            replace H : (if t176 > 0 then (some true) else ((key_Runes.f kj8 t169 t171).bind fun t177 => (if t177 ≤ 0 then ((key_Runes.f kj8 t169 t171).bind fun t177 => ((key_Runes.f kj8 t169 t170).bind fun t175 => (if t175 < 0 then (some ((decide (t177 < 0)) == true)) else ((key_Runes.f kj8 t170 t171).bind fun t176 => (some ((decide (t177 < 0)) == (decide (t176 < 0)))))))) else (some false)))) = some r := H
            have A23 := Aside0.mk A230
            clear A230
            by_cases c24 : t176 > 0
            · rw [if_pos c24] at H
              have c24b0 : decide (0 < t176) = true := decide_eq_true c24
              clear c24
              obtain rfl := Option.some.inj H
              go_wp2_with (first | ((with_reducible refine gate_callee (f := 12) rfl ?_); refine goesL_ (some 33) rfl rfl Try.func12 (by kernel_rfl) rfl #[.string t169, .string t170] rfl (by (try simp only [List.map_toArray, List.map_cons, List.map_nil]); first | done | rfl | (simp only [List.length_drop, List.length_take]; rfl)) ?_; (with_reducible refine (key_Runes.calls kj8 t169 t170 t175 _ A20.out).mono ?_); rintro e w25 ⟨rfl, hb⟩; refine ⟨_, rfl, ?_⟩; have n0_ := Aside0.mk (below_step (by repeat (first | (with_reducible first | exact HB.out | apply below_alloc | apply pw_below_drewN | apply below_drew1) | exact HB.out)) hb); clear HB; have HB := n0_; clear n0_; (try clear hb); (try clear hb2); (try clear hk); (try clear hi)) | (go_at_call 12; (with_reducible refine (key_Runes.calls kj8 t170 t171 t176 _ A23.out).mono ?_); rintro e w26 ⟨rfl, hb⟩; have n0_ := Aside0.mk (below_step (by repeat (first | (with_reducible first | exact HB.out | apply below_alloc | apply pw_below_drewN | apply below_drew1) | exact HB.out)) hb); clear HB; have HB := n0_; clear n0_; (try clear hb); (try clear hb2); (try clear hk); (try clear hi)))
              go_ret
              exact ⟨by first | rfl | (simp [errW_none, errW_some] <;> rfl) | (simp [*, errW_none, errW_some] <;> rfl), by repeat (first | (with_reducible first | exact HB.out | apply below_alloc | apply pw_below_drewN | apply below_drew1) | exact HB.out)⟩
            · rw [if_neg c24] at H
              have c24b0 : decide (0 < t176) = false := decide_eq_false c24
              clear c24
              replace H := Option.bind_eq_some_iff.mp H
              obtain ⟨t177, A270, H⟩ := H
              replace H : (if t177 ≤ 0 then ((key_Runes.f kj8 t169 t171).bind fun t177 => ((key_Runes.f kj8 t169 t170).bind fun t175 => (if t175 < 0 then (some ((decide (t177 < 0)) == true)) else ((key_Runes.f kj8 t170 t171).bind fun t176 => (some ((decide (t177 < 0)) == (decide (t176 < 0)))))))) else (some false)) = some r := H
              have A27 := Aside0.mk A270
              clear A270
              by_cases c28 : t177 ≤ 0
              · rw [if_pos c28] at H
                have c28b0 : decide (t177 ≤ 0) = true := decide_eq_true c28
                clear c28
                replace H := Option.bind_eq_some_iff.mp H
                obtain ⟨y_, A290, H⟩ := H
                obtain rfl : t177 = y_ := Option.some.inj (Eq.trans (Eq.symm (show key_Runes.f kj8 t169 t171 = some t177 from Aside0.out (by assumption))) A290)
                replace H : ((key_Runes.f kj8 t169 t170).bind fun t175 => (if t175 < 0 then (some ((decide (t177 < 0)) == true)) else ((key_Runes.f kj8 t170 t171).bind fun t176 => (some ((decide (t177 < 0)) == (decide (t176 < 0))))))) = some r := H
                have A29 := Aside0.mk A290
                clear A290
                replace H := Option.bind_eq_some_iff.mp H
                obtain ⟨y_, A300, H⟩ := H
                obtain rfl : t175 = y_ := Option.some.inj (Eq.trans (Eq.symm (show key_Runes.f kj8 t169 t170 = some t175 from Aside0.out (by assumption))) A300)
                replace H : (if t175 < 0 then (some ((decide (t177 < 0)) == true)) else ((key_Runes.f kj8 t170 t171).bind fun t176 => (some ((decide (t177 < 0)) == (decide (t176 < 0)))))) = some r := H
                have A30 := Aside0.mk A300
                clear A300
                by_cases c31 : t175 < 0
                · rw [if_pos c31] at H
                  have c31b0 : decide (t175 < 0) = true := decide_eq_true c31
                  clear c31
                  obtain rfl := Option.some.inj H
                  go_wp2_with (first | ((with_reducible refine gate_callee (f := 12) rfl ?_); refine goesL_ (some 33) rfl rfl Try.func12 (by kernel_rfl) rfl #[.string t169, .string t170] rfl (by (try simp only [List.map_toArray, List.map_cons, List.map_nil]); first | done | rfl | (simp only [List.length_drop, List.length_take]; rfl)) ?_; (with_reducible refine (key_Runes.calls kj8 t169 t170 t175 _ A20.out).mono ?_); rintro e w32 ⟨rfl, hb⟩; refine ⟨_, rfl, ?_⟩; have n0_ := Aside0.mk (below_step (by repeat (first | (with_reducible first | exact HB.out | apply below_alloc | apply pw_below_drewN | apply below_drew1) | exact HB.out)) hb); clear HB; have HB := n0_; clear n0_; (try clear hb); (try clear hb2); (try clear hk); (try clear hi)) | (go_at_call 12; (with_reducible refine (key_Runes.calls kj8 t170 t171 t176 _ A23.out).mono ?_); rintro e w33 ⟨rfl, hb⟩; have n0_ := Aside0.mk (below_step (by repeat (first | (with_reducible first | exact HB.out | apply below_alloc | apply pw_below_drewN | apply below_drew1) | exact HB.out)) hb); clear HB; have HB := n0_; clear n0_; (try clear hb); (try clear hb2); (try clear hk); (try clear hi)) | (go_at_call 12; (with_reducible refine (key_Runes.calls kj8 t169 t171 t177 _ A27.out).mono ?_); rintro e w34 ⟨rfl, hb⟩; have n0_ := Aside0.mk (below_step (by repeat (first | (with_reducible first | exact HB.out | apply below_alloc | apply pw_below_drewN | apply below_drew1) | exact HB.out)) hb); clear HB; have HB := n0_; clear n0_; (try clear hb); (try clear hb2); (try clear hk); (try clear hi)) | (go_at_call 12; (with_reducible refine (key_Runes.calls kj8 t169 t171 t177 _ A29.out).mono ?_); rintro e w35 ⟨rfl, hb⟩; have n0_ := Aside0.mk (below_step (by repeat (first | (with_reducible first | exact HB.out | apply below_alloc | apply pw_below_drewN | apply below_drew1) | exact HB.out)) hb); clear HB; have HB := n0_; clear n0_; (try clear hb); (try clear hb2); (try clear hk); (try clear hi)) | (go_at_call 12; (with_reducible refine (key_Runes.calls kj8 t169 t170 t175 _ A30.out).mono ?_); rintro e w36 ⟨rfl, hb⟩; have n0_ := Aside0.mk (below_step (by repeat (first | (with_reducible first | exact HB.out | apply below_alloc | apply pw_below_drewN | apply below_drew1) | exact HB.out)) hb); clear HB; have HB := n0_; clear n0_; (try clear hb); (try clear hb2); (try clear hk); (try clear hi)))
                  go_ret
                  exact ⟨by first | rfl | (simp [errW_none, errW_some] <;> rfl) | (simp [*, errW_none, errW_some] <;> rfl), by repeat (first | (with_reducible first | exact HB.out | apply below_alloc | apply pw_below_drewN | apply below_drew1) | exact HB.out)⟩
                · rw [if_neg c31] at H
                  have c31b0 : decide (t175 < 0) = false := decide_eq_false c31
                  clear c31
                  replace H := Option.bind_eq_some_iff.mp H
                  obtain ⟨y_, A370, H⟩ := H
                  obtain rfl : t176 = y_ := Option.some.inj (Eq.trans (Eq.symm (show key_Runes.f kj8 t170 t171 = some t176 from Aside0.out (by assumption))) A370)
                  replace H : (some ((decide (t177 < 0)) == (decide (t176 < 0)))) = some r := H
                  have A37 := Aside0.mk A370
                  clear A370
                  obtain rfl := Option.some.inj H
                  go_wp2_with (first | ((with_reducible refine gate_callee (f := 12) rfl ?_); refine goesL_ (some 33) rfl rfl Try.func12 (by kernel_rfl) rfl #[.string t169, .string t170] rfl (by (try simp only [List.map_toArray, List.map_cons, List.map_nil]); first | done | rfl | (simp only [List.length_drop, List.length_take]; rfl)) ?_; (with_reducible refine (key_Runes.calls kj8 t169 t170 t175 _ A20.out).mono ?_); rintro e w38 ⟨rfl, hb⟩; refine ⟨_, rfl, ?_⟩; have n0_ := Aside0.mk (below_step (by repeat (first | (with_reducible first | exact HB.out | apply below_alloc | apply pw_below_drewN | apply below_drew1) | exact HB.out)) hb); clear HB; have HB := n0_; clear n0_; (try clear hb); (try clear hb2); (try clear hk); (try clear hi)) | (go_at_call 12; (with_reducible refine (key_Runes.calls kj8 t170 t171 t176 _ A23.out).mono ?_); rintro e w39 ⟨rfl, hb⟩; have n0_ := Aside0.mk (below_step (by repeat (first | (with_reducible first | exact HB.out | apply below_alloc | apply pw_below_drewN | apply below_drew1) | exact HB.out)) hb); clear HB; have HB := n0_; clear n0_; (try clear hb); (try clear hb2); (try clear hk); (try clear hi)) | (go_at_call 12; (with_reducible refine (key_Runes.calls kj8 t169 t171 t177 _ A27.out).mono ?_); rintro e w40 ⟨rfl, hb⟩; have n0_ := Aside0.mk (below_step (by repeat (first | (with_reducible first | exact HB.out | apply below_alloc | apply pw_below_drewN | apply below_drew1) | exact HB.out)) hb); clear HB; have HB := n0_; clear n0_; (try clear hb); (try clear hb2); (try clear hk); (try clear hi)) | (go_at_call 12; (with_reducible refine (key_Runes.calls kj8 t169 t171 t177 _ A29.out).mono ?_); rintro e w41 ⟨rfl, hb⟩; have n0_ := Aside0.mk (below_step (by repeat (first | (with_reducible first | exact HB.out | apply below_alloc | apply pw_below_drewN | apply below_drew1) | exact HB.out)) hb); clear HB; have HB := n0_; clear n0_; (try clear hb); (try clear hb2); (try clear hk); (try clear hi)) | (go_at_call 12; (with_reducible refine (key_Runes.calls kj8 t169 t170 t175 _ A30.out).mono ?_); rintro e w42 ⟨rfl, hb⟩; have n0_ := Aside0.mk (below_step (by repeat (first | (with_reducible first | exact HB.out | apply below_alloc | apply pw_below_drewN | apply below_drew1) | exact HB.out)) hb); clear HB; have HB := n0_; clear n0_; (try clear hb); (try clear hb2); (try clear hk); (try clear hi)) | (go_at_call 12; (with_reducible refine (key_Runes.calls kj8 t170 t171 t176 _ A37.out).mono ?_); rintro e w43 ⟨rfl, hb⟩; have n0_ := Aside0.mk (below_step (by repeat (first | (with_reducible first | exact HB.out | apply below_alloc | apply pw_below_drewN | apply below_drew1) | exact HB.out)) hb); clear HB; have HB := n0_; clear n0_; (try clear hb); (try clear hb2); (try clear hk); (try clear hi)))
                  go_ret
                  exact ⟨by first | rfl | (simp [errW_none, errW_some] <;> rfl) | (simp [*, errW_none, errW_some] <;> rfl), by repeat (first | (with_reducible first | exact HB.out | apply below_alloc | apply pw_below_drewN | apply below_drew1) | exact HB.out)⟩
              · rw [if_neg c28] at H
                have c28b0 : decide (t177 ≤ 0) = false := decide_eq_false c28
                clear c28
                obtain rfl := Option.some.inj H
                go_wp2_with (first | ((with_reducible refine gate_callee (f := 12) rfl ?_); refine goesL_ (some 33) rfl rfl Try.func12 (by kernel_rfl) rfl #[.string t169, .string t170] rfl (by (try simp only [List.map_toArray, List.map_cons, List.map_nil]); first | done | rfl | (simp only [List.length_drop, List.length_take]; rfl)) ?_; (with_reducible refine (key_Runes.calls kj8 t169 t170 t175 _ A20.out).mono ?_); rintro e w44 ⟨rfl, hb⟩; refine ⟨_, rfl, ?_⟩; have n0_ := Aside0.mk (below_step (by repeat (first | (with_reducible first | exact HB.out | apply below_alloc | apply pw_below_drewN | apply below_drew1) | exact HB.out)) hb); clear HB; have HB := n0_; clear n0_; (try clear hb); (try clear hb2); (try clear hk); (try clear hi)) | (go_at_call 12; (with_reducible refine (key_Runes.calls kj8 t170 t171 t176 _ A23.out).mono ?_); rintro e w45 ⟨rfl, hb⟩; have n0_ := Aside0.mk (below_step (by repeat (first | (with_reducible first | exact HB.out | apply below_alloc | apply pw_below_drewN | apply below_drew1) | exact HB.out)) hb); clear HB; have HB := n0_; clear n0_; (try clear hb); (try clear hb2); (try clear hk); (try clear hi)) | (go_at_call 12; (with_reducible refine (key_Runes.calls kj8 t169 t171 t177 _ A27.out).mono ?_); rintro e w46 ⟨rfl, hb⟩; have n0_ := Aside0.mk (below_step (by repeat (first | (with_reducible first | exact HB.out | apply below_alloc | apply pw_below_drewN | apply below_drew1) | exact HB.out)) hb); clear HB; have HB := n0_; clear n0_; (try clear hb); (try clear hb2); (try clear hk); (try clear hi)))
                go_ret
                exact ⟨by first | rfl | (simp [errW_none, errW_some] <;> rfl) | (simp [*, errW_none, errW_some] <;> rfl), by repeat (first | (with_reducible first | exact HB.out | apply below_alloc | apply pw_below_drewN | apply below_drew1) | exact HB.out)⟩
  · replace c5 := Bool.eq_false_iff.mpr c5
    subst c5
    have H1 : (some false) = some r := by rw [if_neg (show ¬ (false = true) by decide)] at H; exact H
    clear H
    have H := H1
    clear H1
    obtain rfl := Option.some.inj H
    go_enter Try.func5, Try.ntmps5
    go_wp2_with (first | ((with_reducible refine gate_callee (f := 7) rfl ?_); refine goesL_ (some 8) rfl rfl Try.func7 (by kernel_rfl) rfl #[] rfl (by (try simp only [List.map_toArray, List.map_cons, List.map_nil]); first | done | rfl | (simp only [List.length_drop, List.length_take]; rfl)) ?_; (with_reducible refine (loesslaw5_begun.calls k  false _ A4.out).mono ?_); rintro e w47 ⟨rfl, hb⟩; refine ⟨_, rfl, ?_⟩; have n0_ := Aside0.mk (below_step (by repeat (first | (with_reducible first | exact HB.out | apply below_alloc | apply pw_below_drewN | apply below_drew1) | exact HB.out)) hb); clear HB; have HB := n0_; clear n0_; (try clear hb); (try clear hb2); (try clear hk); (try clear hi)))
    go_ret
    exact ⟨by first | rfl | (simp [errW_none, errW_some] <;> rfl) | (simp [*, errW_none, errW_some] <;> rfl), by repeat (first | (with_reducible first | exact HB.out | apply below_alloc | apply pw_below_drewN | apply below_drew1) | exact HB.out)⟩

/-- THE ONE PURE STATEMENT of loesslaw5_KeyThree: yours. -/
def loesslaw5_KeyThree.Pure : Prop := ∀ (a0 : ByteArray) (a1 : ByteArray) (a2 : ByteArray), a0.size ≤ 140737488351232 → a1.size ≤ 140737488351232 → a2.size ≤ 140737488351232 → ∃ k, loesslaw5_KeyThree.f k a0 a1 a2 = some true
theorem loesslaw5_KeyThree.walk (P : loesslaw5_KeyThree.Pure) (a0 : ByteArray) (a1 : ByteArray) (a2 : ByteArray) (w : World) (w0 : a0.size ≤ 140737488351232) (w1 : a1.size ≤ 140737488351232) (w2 : a2.size ≤ 140737488351232) :
    Calls Try.prog 5 #[.string a0, .string a1, .string a2] w fun e w' => e = .returned (.bool true) ∧ Below w.heap.size w w' := by
  obtain ⟨k, h⟩ := P a0 a1 a2 w0 w1 w2
  refine (loesslaw5_KeyThree.calls k a0 a1 a2 true w h).mono ?_
  rintro e w' ⟨rfl, hd⟩
  exact ⟨rfl, hd⟩

end Go.Proofs.Ytbjkednhoanloaa.XKey
