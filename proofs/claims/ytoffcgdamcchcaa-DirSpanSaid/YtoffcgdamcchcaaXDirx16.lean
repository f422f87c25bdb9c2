-- Written by wip/xprint.py, this session's wrapper round the kit's print program. Not trusted: Lean checks it.
import Derived.Test.YtoffcgdamcchcaaXDirx0
import Derived.Test.YtoffcgdamcchcaaXDirx3
import Derived.Test.YtoffcgdamcchcaaXDirx15
import Derived.Test.YtoffcgdamcchcaaGDirM
namespace Go.Proofs.Ytoffcgdamcchcaa.XDir
open Go.RowKit Go.Proofs.YtoffcgdamcchcaaW.PrintWords Go.Proofs.YtoffcgdamcchcaaW.PrintLast Go.Proofs.YtoffcgdamcchcaaW.PrintMore
attribute [local go_sem] max2_int min2_int max_two min_two max_three min_three max_four min_four   -- for this text's walks alone
set_option linter.unusedVariables false
set_option linter.unusedSimpArgs false

open Go.Proofs.Ytoffcgdamcchcaa.GL
/-! ### loesslaw14_DirSpan: function 6 -/
def loesslaw14_DirSpan.j0 : Nat → Int → Int → Int → Bool → Option (Bool)
  | 0, _, _, _, _ => none
  | k + 1, x0, x1, x2, x26 => if x26 = true then (some true) else ((some (([(⟨(⟨#[97]⟩ : ByteArray), x0, (⟨x2, x1⟩ : S30)⟩ : S32)] : List (S32)) : List (S32))).bind fun y162 => (if x0 ≤ 65536 then (if x1 = (wrap64 (Int.tdiv (wrap64 (x0 + 63)) 64)) then (if x2 ≥ 0 then (if x2 ≤ 2048 then (if x1 > 0 then ((dir_May.f k y162).bind fun t165 => (if (t165 == true) = true then ((dir_Encode.f y162).bind fun t166 => (some ((decide ((t166.length : Int) > 0)) == true))) else (none))) else ((dir_May.f k y162).bind fun t169 => (if (t169 == (x2 == 0)) = true then ((dir_Encode.f y162).bind fun t170 => (some ((decide ((t170.length : Int) > 0)) == (x2 == 0)))) else (none)))) else ((dir_May.f k y162).bind fun t173 => (if (t173 == false) = true then ((dir_Encode.f y162).bind fun t174 => (some ((decide ((t174.length : Int) > 0)) == false))) else (none)))) else ((dir_May.f k y162).bind fun t177 => (if (t177 == false) = true then ((dir_Encode.f y162).bind fun t178 => (some ((decide ((t178.length : Int) > 0)) == false))) else (none)))) else ((dir_May.f k y162).bind fun t181 => (if (t181 == false) = true then ((dir_Encode.f y162).bind fun t182 => (some ((decide ((t182.length : Int) > 0)) == false))) else (none)))) else ((dir_May.f k y162).bind fun t185 => (if (t185 == false) = true then ((dir_Encode.f y162).bind fun t186 => (some ((decide ((t186.length : Int) > 0)) == false))) else (none)))))
def loesslaw14_DirSpan.f (k : Nat) (a0 : Int) (a1 : Int) (a2 : Int) : Option (Bool) := (loesslaw14_begun.f k).bind fun t161 => (if t161 = true then (if a0 < 0 then (loesslaw14_DirSpan.j0 k a0 a1 a2 true) else (if a0 > 70000 then (loesslaw14_DirSpan.j0 k a0 a1 a2 true) else (if a1 < 0 then (loesslaw14_DirSpan.j0 k a0 a1 a2 true) else (loesslaw14_DirSpan.j0 k a0 a1 a2 (decide (a1 > 1200)))))) else (none))
theorem loesslaw14_DirSpan.mono_l : ∀ k, (∀ y0 y1 y2 y3, LeO (loesslaw14_DirSpan.j0 k y0 y1 y2 y3) (loesslaw14_DirSpan.j0 (k + 1) y0 y1 y2 y3))
  | 0 => fun _ _ _ _ r h => by simp [loesslaw14_DirSpan.j0] at h
  | k + 1 => by
    have ih0 := loesslaw14_DirSpan.mono_l k
    · intro y0 y1 y2 y3
      unfold loesslaw14_DirSpan.j0
      repeat' first
      | (with_reducible exact ih0 _ _ _ _)
      | (with_reducible exact dir_May.mono _ _)
      | (with_reducible exact loesslaw14_begun.mono _)
      | (with_reducible exact LeO.refl _)
      | (with_reducible exact LeO.none _)
      | (with_reducible refine LeO.ite ?_ ?_)
      | (with_reducible refine LeO.bind ?_ (fun _ => ?_))
      | exact ih0 _ _ _ _
      | exact dir_May.mono _ _
      | exact loesslaw14_begun.mono _
      | exact LeO.none _
      | refine LeO.ite ?_ ?_
      | refine LeO.bind ?_ (fun _ => ?_)
theorem loesslaw14_DirSpan.mono : ∀ a0 a1 a2 k, LeO (loesslaw14_DirSpan.f k a0 a1 a2) (loesslaw14_DirSpan.f (k + 1) a0 a1 a2) := by
  intro a0 a1 a2 k
  have ih0 := loesslaw14_DirSpan.mono_l k
  unfold loesslaw14_DirSpan.f
  repeat' first
      | (with_reducible exact ih0 _ _ _ _)
      | (with_reducible exact dir_May.mono _ _)
      | (with_reducible exact loesslaw14_begun.mono _)
      | (with_reducible exact LeO.refl _)
      | (with_reducible exact LeO.none _)
      | (with_reducible refine LeO.ite ?_ ?_)
      | (with_reducible refine LeO.bind ?_ (fun _ => ?_))
      | exact ih0 _ _ _ _
      | exact dir_May.mono _ _
      | exact loesslaw14_begun.mono _
      | exact LeO.none _
      | refine LeO.ite ?_ ?_
      | refine LeO.bind ?_ (fun _ => ?_)
set_option maxHeartbeats 8000000 in
set_option maxRecDepth 100000 in
theorem loesslaw14_DirSpan.calls (k : Nat) (a0 : Int) (a1 : Int) (a2 : Int) (r : Bool) (w : World) (h : loesslaw14_DirSpan.f k a0 a1 a2 = some r) :
    Calls Try.prog 6 #[.int .i64 a0, .int .i64 a1, .int .i64 a2] w fun e w' => e = .returned (.bool r) ∧ Below w.heap.size w w' := by
  have hu30 := Try.underlying30
  have hu32 := Try.underlying32
  have HB := Aside0.mk (Below.refl w.heap.size w)
  have H : ((loesslaw14_begun.f k).bind fun t161 => (if t161 = true then (if a0 < 0 then (loesslaw14_DirSpan.j0 k a0 a1 a2 true) else (if a0 > 70000 then (loesslaw14_DirSpan.j0 k a0 a1 a2 true) else (if a1 < 0 then (loesslaw14_DirSpan.j0 k a0 a1 a2 true) else (loesslaw14_DirSpan.j0 k a0 a1 a2 (decide (a1 > 1200)))))) else (none))) = some r := h
  clear h
  replace H := Option.bind_eq_some_iff.mp H
  obtain ⟨t161, A40, H⟩ := H
  replace H : (if t161 = true then (if a0 < 0 then (loesslaw14_DirSpan.j0 k a0 a1 a2 true) else (if a0 > 70000 then (loesslaw14_DirSpan.j0 k a0 a1 a2 true) else (if a1 < 0 then (loesslaw14_DirSpan.j0 k a0 a1 a2 true) else (loesslaw14_DirSpan.j0 k a0 a1 a2 (decide (a1 > 1200)))))) else (none)) = some r := H
  have A4 := Aside0.mk A40
  clear A40
  by_cases c5 : t161 = true
  · subst c5
    have H1 : (if a0 < 0 then (loesslaw14_DirSpan.j0 k a0 a1 a2 true) else (if a0 > 70000 then (loesslaw14_DirSpan.j0 k a0 a1 a2 true) else (if a1 < 0 then (loesslaw14_DirSpan.j0 k a0 a1 a2 true) else (loesslaw14_DirSpan.j0 k a0 a1 a2 (decide (a1 > 1200)))))) = some r := by rw [if_pos rfl] at H; exact H
    clear H
    have H := H1
    clear H1
    have HC6 := Aside0.mk H
    clear H
    go_enter Try.func6, Try.ntmps6
    go_upto_region 4 with (first | ((with_reducible refine gate_callee (f := 7) rfl ?_); refine goesL_ (some 10) rfl rfl Try.func7 (by kernel_rfl) rfl #[] rfl (by (try simp only [List.map_toArray, List.map_cons, List.map_nil]); first | done | rfl | (simp only [List.length_drop, List.length_take]; rfl)) ?_; (with_reducible refine (loesslaw14_begun.calls k  true _ A4.out).mono ?_); rintro e w7 ⟨rfl, hb⟩; refine ⟨_, rfl, ?_⟩; have n0_ := Aside0.mk (below_step (by repeat (first | (with_reducible first | exact HB.out | apply below_alloc | apply pw_below_drewN | apply below_drew1) | exact HB.out)) hb); clear HB; have HB := n0_; clear n0_; (try clear hb); (try clear hb2); (try clear hk); (try clear hi)))
    (try simp only [Act.put, List.setIfInBounds_toArray, List.set_cons_zero, List.set_cons_succ])
    go_cut [26] (fun v26 wc => ∃ (kq : Nat) (x26_5 : Bool), v26 = .bool x26_5 ∧ Aside0 (loesslaw14_DirSpan.j0 kq a0 a1 a2 x26_5 = some r) ∧ Aside0 (kq ≤ k) ∧ Aside0 (Below w.heap.size w wc))
    case first =>
      have H := HC6.out
      clear HC6
      by_cases c8 : a0 < 0
      · rw [if_pos c8] at H
        have c8b0 : decide (a0 < 0) = true := decide_eq_true c8
        clear c8
        (first | rw [c8b0] | (simp only [i64_w, i32_w]; rw [c8b0]) | skip)
        have H' := Aside0.mk H
        clear H
        go_wp2
        go_meet
        case rel => exact ⟨_, (true), (by first | rfl | (simp; done) | (simp [*]; done)), H', ⟨by first | omega | exact Nat.le_refl _⟩, ⟨by repeat (first | (with_reducible first | exact HB.out | apply below_alloc | apply pw_below_drewN | apply below_drew1) | exact HB.out)⟩⟩
      · rw [if_neg c8] at H
        have c8b0 : decide (a0 < 0) = false := decide_eq_false c8
        clear c8
        (first | rw [c8b0] | (simp only [i64_w, i32_w]; rw [c8b0]) | skip)
        by_cases c9 : a0 > 70000
        · rw [if_pos c9] at H
          have c9b0 : decide (70000 < a0) = true := decide_eq_true c9
          clear c9
          have H' := Aside0.mk H
          clear H
          go_wp2
          go_meet
          case rel => exact ⟨_, (true), (by first | rfl | (simp; done) | (simp [*]; done)), H', ⟨by first | omega | exact Nat.le_refl _⟩, ⟨by repeat (first | (with_reducible first | exact HB.out | apply below_alloc | apply pw_below_drewN | apply below_drew1) | exact HB.out)⟩⟩
        · rw [if_neg c9] at H
          have c9b0 : decide (70000 < a0) = false := decide_eq_false c9
          clear c9
          by_cases c10 : a1 < 0
          · rw [if_pos c10] at H
            have c10b0 : decide (a1 < 0) = true := decide_eq_true c10
            clear c10
            have H' := Aside0.mk H
            clear H
            go_wp2
            go_meet
            case rel => exact ⟨_, (true), (by first | rfl | (simp; done) | (simp [*]; done)), H', ⟨by first | omega | exact Nat.le_refl _⟩, ⟨by repeat (first | (with_reducible first | exact HB.out | apply below_alloc | apply pw_below_drewN | apply below_drew1) | exact HB.out)⟩⟩
          · rw [if_neg c10] at H
            have c10b0 : decide (a1 < 0) = false := decide_eq_false c10
            clear c10
            have H' := Aside0.mk H
            clear H
            go_wp2
            go_meet
            case rel => exact ⟨_, (decide (a1 > 1200)), (by first | rfl | (simp; done) | (simp [*]; done)), H', ⟨by first | omega | exact Nat.le_refl _⟩, ⟨by repeat (first | (with_reducible first | exact HB.out | apply below_alloc | apply pw_below_drewN | apply below_drew1) | exact HB.out)⟩⟩
    case rest =>
      clear HC6
      try clear c1
      try clear p2
      try clear c5
      try clear c6
      try clear c7
      try clear c8
      try clear c8b0
      try clear c9
      try clear c9b0
      try clear c10
      try clear c10b0
      obtain ⟨kq, x26_5, rfl, HA, HJ5, HB⟩ := hcut
      cases kq with
      | zero => exact absurd HA.out (by simp [loesslaw14_DirSpan.j0])
      | succ kj5 =>
        have H := HA.out
        clear HA
        simp only [loesslaw14_DirSpan.j0] at H
        by_cases c11 : x26_5 = true
        · subst c11
          have H1 : (some true) = some r := by rw [if_pos rfl] at H; exact H
          clear H
          have H := H1
          clear H1
          obtain rfl := Option.some.inj H
          go_wp2
          go_ret
          exact ⟨by first | rfl | (simp [errW_none, errW_some] <;> rfl) | (simp [*, errW_none, errW_some] <;> rfl), by repeat (first | (with_reducible first | exact HB.out | apply below_alloc | apply pw_below_drewN | apply below_drew1) | exact HB.out)⟩
        · replace c11 := Bool.eq_false_iff.mpr c11
          subst c11
          have H1 : ((some (([(⟨(⟨#[97]⟩ : ByteArray), a0, (⟨a2, a1⟩ : S30)⟩ : S32)] : List (S32)) : List (S32))).bind fun y162 => (if a0 ≤ 65536 then (if a1 = (wrap64 (Int.tdiv (wrap64 (a0 + 63)) 64)) then (if a2 ≥ 0 then (if a2 ≤ 2048 then (if a1 > 0 then ((dir_May.f kj5 y162).bind fun t165 => (if (t165 == true) = true then ((dir_Encode.f y162).bind fun t166 => (some ((decide ((t166.length : Int) > 0)) == true))) else (none))) else ((dir_May.f kj5 y162).bind fun t169 => (if (t169 == (a2 == 0)) = true then ((dir_Encode.f y162).bind fun t170 => (some ((decide ((t170.length : Int) > 0)) == (a2 == 0)))) else (none)))) else ((dir_May.f kj5 y162).bind fun t173 => (if (t173 == false) = true then ((dir_Encode.f y162).bind fun t174 => (some ((decide ((t174.length : Int) > 0)) == false))) else (none)))) else ((dir_May.f kj5 y162).bind fun t177 => (if (t177 == false) = true then ((dir_Encode.f y162).bind fun t178 => (some ((decide ((t178.length : Int) > 0)) == false))) else (none)))) else ((dir_May.f kj5 y162).bind fun t181 => (if (t181 == false) = true then ((dir_Encode.f y162).bind fun t182 => (some ((decide ((t182.length : Int) > 0)) == false))) else (none)))) else ((dir_May.f kj5 y162).bind fun t185 => (if (t185 == false) = true then ((dir_Encode.f y162).bind fun t186 => (some ((decide ((t186.length : Int) > 0)) == false))) else (none))))) = some r := by rw [if_neg (show ¬ (false = true) by decide)] at H; exact H
          clear H
          have H := H1
          clear H1
          obtain ⟨y162, hy162⟩ : ∃ y_ : List (S32), y_ = (([(⟨(⟨#[97]⟩ : ByteArray), a0, (⟨a2, a1⟩ : S30)⟩ : S32)] : List (S32))) := ⟨_, rfl⟩
          replace H : (if a0 ≤ 65536 then (if a1 = (wrap64 (Int.tdiv (wrap64 (a0 + 63)) 64)) then (if a2 ≥ 0 then (if a2 ≤ 2048 then (if a1 > 0 then ((dir_May.f kj5 y162).bind fun t165 => (if (t165 == true) = true then ((dir_Encode.f y162).bind fun t166 => (some ((decide ((t166.length : Int) > 0)) == true))) else (none))) else ((dir_May.f kj5 y162).bind fun t169 => (if (t169 == (a2 == 0)) = true then ((dir_Encode.f y162).bind fun t170 => (some ((decide ((t170.length : Int) > 0)) == (a2 == 0)))) else (none)))) else ((dir_May.f kj5 y162).bind fun t173 => (if (t173 == false) = true then ((dir_Encode.f y162).bind fun t174 => (some ((decide ((t174.length : Int) > 0)) == false))) else (none)))) else ((dir_May.f kj5 y162).bind fun t177 => (if (t177 == false) = true then ((dir_Encode.f y162).bind fun t178 => (some ((decide ((t178.length : Int) > 0)) == false))) else (none)))) else ((dir_May.f kj5 y162).bind fun t181 => (if (t181 == false) = true then ((dir_Encode.f y162).bind fun t182 => (some ((decide ((t182.length : Int) > 0)) == false))) else (none)))) else ((dir_May.f kj5 y162).bind fun t185 => (if (t185 == false) = true then ((dir_Encode.f y162).bind fun t186 => (some ((decide ((t186.length : Int) > 0)) == false))) else (none)))) = some r := by first | (rw [hy162]; with_reducible exact H) | (have H2_ := (Option.bind_some _ _).symm.trans H; rw [hy162]; with_reducible exact H2_) | (have H2_ := (Option.bind_some _ _).symm.trans H; with_reducible exact H2_) | with_reducible exact H | (rw [hy162]; exact H) | exact H
          have Ny162 := Aside0.mk hy162
          clear hy162
          by_cases c12 : a0 ≤ 65536
          · rw [if_pos c12] at H
            have c12b0 : decide (a0 ≤ 65536) = true := decide_eq_true c12
            clear c12
            by_cases c13 : a1 = (wrap64 (Int.tdiv (wrap64 (a0 + 63)) 64))
            · rw [if_pos c13] at H
              have c13b0 : (a1 == (wrap64 (Int.tdiv (wrap64 (a0 + 63)) 64))) = true := beq_iff_eq.mpr c13
              have c13b1 : (a1 != (wrap64 (Int.tdiv (wrap64 (a0 + 63)) 64))) = false := bne_eq_false_iff_eq.mpr c13
              clear c13
              by_cases c14 : a2 ≥ 0
              · rw [if_pos c14] at H
                have c14b0 : decide (0 ≤ a2) = true := decide_eq_true c14
                clear c14
                by_cases c15 : a2 ≤ 2048
                · rw [if_pos c15] at H
                  have c15b0 : decide (a2 ≤ 2048) = true := decide_eq_true c15
                  clear c15
                  by_cases c16 : a1 > 0
                  · rw [if_pos c16] at H
                    have c16b0 : decide (0 < a1) = true := decide_eq_true c16
                    clear c16
                    replace H := Option.bind_eq_some_iff.mp H
                    obtain ⟨t165, A170, H⟩ := H
                    replace H : (if (t165 == true) = true then ((dir_Encode.f y162).bind fun t166 => (some ((decide ((t166.length : Int) > 0)) == true))) else (none)) = some r := H
                    have A17 := Aside0.mk A170
                    clear A170
                    by_cases c18 : (t165 == true) = true
                    · rw [if_pos c18] at H
                      have c18b0 : (t165 == true) = true := c18
                      (try (have c18b1 : decide (t165 = true) = true := by simpa using c18))
                      (try (have c18b2 : (t165 == true) = true := by simpa using c18))
                      clear c18
                      replace H := Option.bind_eq_some_iff.mp H
                      obtain ⟨t166, A190, H⟩ := H
                      replace H : (some ((decide ((t166.length : Int) > 0)) == true)) = some r := H
                      have A19 := Aside0.mk A190
                      clear A190
                      obtain rfl := Option.some.inj H
                      go_wp2_with (first | ((with_reducible refine gate_dst (N := 32) rfl ?_); (try (refine gate_guard (by rfl) ?_; dsimp only)); refine Kd.R_lit k32 _ 32 ?hg (N := 32) ?hd (xs := ([(⟨(⟨#[97]⟩ : ByteArray), a0, (⟨a2, a1⟩ : S30)⟩ : S32)] : List (S32))) (inner := [.string (⟨#[97]⟩ : ByteArray), .int .i64 a0, .int .i64 a2, .int .i64 a1]) (ok := fun _ => True) (okp := fun _ => True) ?hr ?hp (fun _ hk => hk) trivial (Below.refl _ _) (Nat.le_refl _) (by simp) ?_; (case hd => rfl); (case hg => rfl); (case hr => first | (go_simp; done) | (go_simp; rfl)); (case hp => exact (Reps.c4 (show Kd.M k32 _ _ _ (⟨(⟨#[97]⟩ : ByteArray), a0, (⟨a2, a1⟩ : S30)⟩ : S32) [.string (⟨#[97]⟩ : ByteArray), .int .i64 a0, .int .i64 a2, .int .i64 a1] from (k32_mkM _ _ _ (⟨(⟨#[97]⟩ : ByteArray), a0, (⟨a2, a1⟩ : S30)⟩ : S32) )) (Reps.none _ _))); intro v163 w20 ho21 hb hg_ hnew_; clear hg_ hnew_; (first | rw [← Ny162.out] at ho21 | (simp only [Int.reduceToNat] at ho21; rw [← Ny162.out] at ho21)); have n0_ := Aside0.mk (Kd.R_lower ho21 (below_size (by repeat (first | (with_reducible first | exact HB.out | apply below_alloc | apply pw_below_drewN | apply below_drew1) | exact HB.out)))); have n1_ := Aside0.mk (below_step (by repeat (first | (with_reducible first | exact HB.out | apply below_alloc | apply pw_below_drewN | apply below_drew1) | exact HB.out)) hb); clear HB; have HO164 := n0_; have HB := n1_; clear n0_ n1_; clear hb ho21; obtain ⟨Ao22, co22, eo22⟩ := Kd.R_slice HO164.out; subst eo22) | ((with_reducible refine gate_callee (f := 11) rfl ?_); refine goesL_ (some 59) rfl rfl Try.func11 (by kernel_rfl) rfl #[.slice Ao22 y162.length co22] rfl (by (try simp only [List.map_toArray, List.map_cons, List.map_nil]); first | done | rfl | (simp only [List.length_drop, List.length_take]; rfl)) ?_; (with_reducible refine (dir_May.calls kj5 _ _ y162 t165 _ ?side1 ?side2 A17.out).mono ?_); (case side1 => repeat (first | exact (Kd.R_reads' HO164.out).2.2 | (with_reducible refine Kd.C_alloc ?_ _) | (with_reducible refine Kd.C_drewN ?_ _) | (with_reducible refine Kd.C_drew ?_))); (case side2 => exact (Kd.R_reads' HO164.out).2.1); rintro e w23 ⟨rfl, hb⟩; refine ⟨_, rfl, ?_⟩; have n0_ := Aside0.mk (Kd.R_below (by (with_reducible repeat (first | apply Kd.R_alloc | apply Kd.R_drewN | apply Kd.R_drew)); exact HO164.out) hb); have n1_ := Aside0.mk (below_step (by repeat (first | (with_reducible first | exact HB.out | apply below_alloc | apply pw_below_drewN | apply below_drew1) | exact HB.out)) hb); clear HO164; clear HB; have HO164 := n0_; have HB := n1_; clear n0_ n1_; (try clear hb); (try clear hb2); (try clear hk); (try clear hi)) | (go_at_call 10; (with_reducible refine (dir_Encode.calls _ _ y162 t166 _ ?side1 ?side2 A19.out).mono ?_); (case side1 => repeat (first | exact (Kd.R_reads' HO164.out).2.2 | (with_reducible refine Kd.C_alloc ?_ _) | (with_reducible refine Kd.C_drewN ?_ _) | (with_reducible refine Kd.C_drew ?_))); (case side2 => exact (Kd.R_reads' HO164.out).2.1); rintro e w24 ⟨v167, rfl, ho0, hb⟩; have n0_ := Aside0.mk (Kd.R_below (by (with_reducible repeat (first | apply Kd.R_alloc | apply Kd.R_drewN | apply Kd.R_drew)); exact HO164.out) hb); have n1_ := Aside0.mk (Kd.R_lower ho0 (below_size (by repeat (first | (with_reducible first | exact HB.out | apply below_alloc | apply pw_below_drewN | apply below_drew1) | exact HB.out)))); have n2_ := Aside0.mk (below_step (by repeat (first | (with_reducible first | exact HB.out | apply below_alloc | apply pw_below_drewN | apply below_drew1) | exact HB.out)) hb); clear HO164; clear HB; have HO164 := n0_; have HO168 := n1_; have HB := n2_; clear n0_ n1_ n2_; (try clear hb); (try clear hb2); (try clear hk); (try clear hi); (try clear ho0); obtain ⟨Ao25, co25, eo25⟩ := Kd.R_slice HO168.out; subst eo25))
                      go_ret
                      exact ⟨by first | rfl | (simp [errW_none, errW_some] <;> rfl) | (simp [*, errW_none, errW_some] <;> rfl), by repeat (first | (with_reducible first | exact HB.out | apply below_alloc | apply pw_below_drewN | apply below_drew1) | exact HB.out)⟩
                    · rw [if_neg c18] at H
                      exact absurd H (by simp)
                  · rw [if_neg c16] at H
                    have c16b0 : decide (0 < a1) = false := decide_eq_false c16
                    clear c16
                    replace H := Option.bind_eq_some_iff.mp H
                    obtain ⟨t169, A260, H⟩ := H
                    replace H : (if (t169 == (a2 == 0)) = true then ((dir_Encode.f y162).bind fun t170 => (some ((decide ((t170.length : Int) > 0)) == (a2 == 0)))) else (none)) = some r := H
                    have A26 := Aside0.mk A260
                    clear A260
                    by_cases c27 : (t169 == (a2 == 0)) = true
                    · rw [if_pos c27] at H
                      have c27b0 : (t169 == (a2 == 0)) = true := c27
                      (try (have c27b1 : decide (t169 = (a2 == 0)) = true := by simpa using c27))
                      (try (have c27b2 : (t169 == (a2 == 0)) = true := by simpa using c27))
                      clear c27
                      replace H := Option.bind_eq_some_iff.mp H
                      obtain ⟨t170, A280, H⟩ := H
                      replace H : (some ((decide ((t170.length : Int) > 0)) == (a2 == 0))) = some r := H
                      have A28 := Aside0.mk A280
                      clear A280
                      obtain rfl := Option.some.inj H
                      go_wp2_with (first | ((with_reducible refine gate_dst (N := 32) rfl ?_); (try (refine gate_guard (by rfl) ?_; dsimp only)); refine Kd.R_lit k32 _ 32 ?hg (N := 32) ?hd (xs := ([(⟨(⟨#[97]⟩ : ByteArray), a0, (⟨a2, a1⟩ : S30)⟩ : S32)] : List (S32))) (inner := [.string (⟨#[97]⟩ : ByteArray), .int .i64 a0, .int .i64 a2, .int .i64 a1]) (ok := fun _ => True) (okp := fun _ => True) ?hr ?hp (fun _ hk => hk) trivial (Below.refl _ _) (Nat.le_refl _) (by simp) ?_; (case hd => rfl); (case hg => rfl); (case hr => first | (go_simp; done) | (go_simp; rfl)); (case hp => exact (Reps.c4 (show Kd.M k32 _ _ _ (⟨(⟨#[97]⟩ : ByteArray), a0, (⟨a2, a1⟩ : S30)⟩ : S32) [.string (⟨#[97]⟩ : ByteArray), .int .i64 a0, .int .i64 a2, .int .i64 a1] from (k32_mkM _ _ _ (⟨(⟨#[97]⟩ : ByteArray), a0, (⟨a2, a1⟩ : S30)⟩ : S32) )) (Reps.none _ _))); intro v163 w29 ho30 hb hg_ hnew_; clear hg_ hnew_; (first | rw [← Ny162.out] at ho30 | (simp only [Int.reduceToNat] at ho30; rw [← Ny162.out] at ho30)); have n0_ := Aside0.mk (Kd.R_lower ho30 (below_size (by repeat (first | (with_reducible first | exact HB.out | apply below_alloc | apply pw_below_drewN | apply below_drew1) | exact HB.out)))); have n1_ := Aside0.mk (below_step (by repeat (first | (with_reducible first | exact HB.out | apply below_alloc | apply pw_below_drewN | apply below_drew1) | exact HB.out)) hb); clear HB; have HO164 := n0_; have HB := n1_; clear n0_ n1_; clear hb ho30; obtain ⟨Ao31, co31, eo31⟩ := Kd.R_slice HO164.out; subst eo31) | ((with_reducible refine gate_callee (f := 11) rfl ?_); refine goesL_ (some 59) rfl rfl Try.func11 (by kernel_rfl) rfl #[.slice Ao31 y162.length co31] rfl (by (try simp only [List.map_toArray, List.map_cons, List.map_nil]); first | done | rfl | (simp only [List.length_drop, List.length_take]; rfl)) ?_; (with_reducible refine (dir_May.calls kj5 _ _ y162 t169 _ ?side1 ?side2 A26.out).mono ?_); (case side1 => repeat (first | exact (Kd.R_reads' HO164.out).2.2 | (with_reducible refine Kd.C_alloc ?_ _) | (with_reducible refine Kd.C_drewN ?_ _) | (with_reducible refine Kd.C_drew ?_))); (case side2 => exact (Kd.R_reads' HO164.out).2.1); rintro e w32 ⟨rfl, hb⟩; refine ⟨_, rfl, ?_⟩; have n0_ := Aside0.mk (Kd.R_below (by (with_reducible repeat (first | apply Kd.R_alloc | apply Kd.R_drewN | apply Kd.R_drew)); exact HO164.out) hb); have n1_ := Aside0.mk (below_step (by repeat (first | (with_reducible first | exact HB.out | apply below_alloc | apply pw_below_drewN | apply below_drew1) | exact HB.out)) hb); clear HO164; clear HB; have HO164 := n0_; have HB := n1_; clear n0_ n1_; (try clear hb); (try clear hb2); (try clear hk); (try clear hi)) | (go_at_call 10; (with_reducible refine (dir_Encode.calls _ _ y162 t170 _ ?side1 ?side2 A28.out).mono ?_); (case side1 => repeat (first | exact (Kd.R_reads' HO164.out).2.2 | (with_reducible refine Kd.C_alloc ?_ _) | (with_reducible refine Kd.C_drewN ?_ _) | (with_reducible refine Kd.C_drew ?_))); (case side2 => exact (Kd.R_reads' HO164.out).2.1); rintro e w33 ⟨v171, rfl, ho0, hb⟩; have n0_ := Aside0.mk (Kd.R_below (by (with_reducible repeat (first | apply Kd.R_alloc | apply Kd.R_drewN | apply Kd.R_drew)); exact HO164.out) hb); have n1_ := Aside0.mk (Kd.R_lower ho0 (below_size (by repeat (first | (with_reducible first | exact HB.out | apply below_alloc | apply pw_below_drewN | apply below_drew1) | exact HB.out)))); have n2_ := Aside0.mk (below_step (by repeat (first | (with_reducible first | exact HB.out | apply below_alloc | apply pw_below_drewN | apply below_drew1) | exact HB.out)) hb); clear HO164; clear HB; have HO164 := n0_; have HO172 := n1_; have HB := n2_; clear n0_ n1_ n2_; (try clear hb); (try clear hb2); (try clear hk); (try clear hi); (try clear ho0); obtain ⟨Ao34, co34, eo34⟩ := Kd.R_slice HO172.out; subst eo34))
                      go_ret
                      exact ⟨by first | rfl | (simp [errW_none, errW_some] <;> rfl) | (simp [*, errW_none, errW_some] <;> rfl), by repeat (first | (with_reducible first | exact HB.out | apply below_alloc | apply pw_below_drewN | apply below_drew1) | exact HB.out)⟩
                    · rw [if_neg c27] at H
                      exact absurd H (by simp)
                · rw [if_neg c15] at H
                  have c15b0 : decide (a2 ≤ 2048) = false := decide_eq_false c15
                  clear c15
                  replace H := Option.bind_eq_some_iff.mp H
                  obtain ⟨t173, A350, H⟩ := H
                  replace H : (if (t173 == false) = true then ((dir_Encode.f y162).bind fun t174 => (some ((decide ((t174.length : Int) > 0)) == false))) else (none)) = some r := H
                  have A35 := Aside0.mk A350
                  clear A350
                  by_cases c36 : (t173 == false) = true
                  · rw [if_pos c36] at H
                    have c36b0 : (t173 == false) = true := c36
                    (try (have c36b1 : decide (t173 = false) = true := by simpa using c36))
                    (try (have c36b2 : (t173 == false) = true := by simpa using c36))
                    clear c36
                    replace H := Option.bind_eq_some_iff.mp H
                    obtain ⟨t174, A370, H⟩ := H
                    replace H : (some ((decide ((t174.length : Int) > 0)) == false)) = some r := H
                    have A37 := Aside0.mk A370
                    clear A370
                    obtain rfl := Option.some.inj H
                    go_wp2_with (first | ((with_reducible refine gate_dst (N := 32) rfl ?_); (try (refine gate_guard (by rfl) ?_; dsimp only)); refine Kd.R_lit k32 _ 32 ?hg (N := 32) ?hd (xs := ([(⟨(⟨#[97]⟩ : ByteArray), a0, (⟨a2, a1⟩ : S30)⟩ : S32)] : List (S32))) (inner := [.string (⟨#[97]⟩ : ByteArray), .int .i64 a0, .int .i64 a2, .int .i64 a1]) (ok := fun _ => True) (okp := fun _ => True) ?hr ?hp (fun _ hk => hk) trivial (Below.refl _ _) (Nat.le_refl _) (by simp) ?_; (case hd => rfl); (case hg => rfl); (case hr => first | (go_simp; done) | (go_simp; rfl)); (case hp => exact (Reps.c4 (show Kd.M k32 _ _ _ (⟨(⟨#[97]⟩ : ByteArray), a0, (⟨a2, a1⟩ : S30)⟩ : S32) [.string (⟨#[97]⟩ : ByteArray), .int .i64 a0, .int .i64 a2, .int .i64 a1] from (k32_mkM _ _ _ (⟨(⟨#[97]⟩ : ByteArray), a0, (⟨a2, a1⟩ : S30)⟩ : S32) )) (Reps.none _ _))); intro v163 w38 ho39 hb hg_ hnew_; clear hg_ hnew_; (first | rw [← Ny162.out] at ho39 | (simp only [Int.reduceToNat] at ho39; rw [← Ny162.out] at ho39)); have n0_ := Aside0.mk (Kd.R_lower ho39 (below_size (by repeat (first | (with_reducible first | exact HB.out | apply below_alloc | apply pw_below_drewN | apply below_drew1) | exact HB.out)))); have n1_ := Aside0.mk (below_step (by repeat (first | (with_reducible first | exact HB.out | apply below_alloc | apply pw_below_drewN | apply below_drew1) | exact HB.out)) hb); clear HB; have HO164 := n0_; have HB := n1_; clear n0_ n1_; clear hb ho39; obtain ⟨Ao40, co40, eo40⟩ := Kd.R_slice HO164.out; subst eo40) | ((with_reducible refine gate_callee (f := 11) rfl ?_); refine goesL_ (some 59) rfl rfl Try.func11 (by kernel_rfl) rfl #[.slice Ao40 y162.length co40] rfl (by (try simp only [List.map_toArray, List.map_cons, List.map_nil]); first | done | rfl | (simp only [List.length_drop, List.length_take]; rfl)) ?_; (with_reducible refine (dir_May.calls kj5 _ _ y162 t173 _ ?side1 ?side2 A35.out).mono ?_); (case side1 => repeat (first | exact (Kd.R_reads' HO164.out).2.2 | (with_reducible refine Kd.C_alloc ?_ _) | (with_reducible refine Kd.C_drewN ?_ _) | (with_reducible refine Kd.C_drew ?_))); (case side2 => exact (Kd.R_reads' HO164.out).2.1); rintro e w41 ⟨rfl, hb⟩; refine ⟨_, rfl, ?_⟩; have n0_ := Aside0.mk (Kd.R_below (by (with_reducible repeat (first | apply Kd.R_alloc | apply Kd.R_drewN | apply Kd.R_drew)); exact HO164.out) hb); have n1_ := Aside0.mk (below_step (by repeat (first | (with_reducible first | exact HB.out | apply below_alloc | apply pw_below_drewN | apply below_drew1) | exact HB.out)) hb); clear HO164; clear HB; have HO164 := n0_; have HB := n1_; clear n0_ n1_; (try clear hb); (try clear hb2); (try clear hk); (try clear hi)) | (go_at_call 10; (with_reducible refine (dir_Encode.calls _ _ y162 t174 _ ?side1 ?side2 A37.out).mono ?_); (case side1 => repeat (first | exact (Kd.R_reads' HO164.out).2.2 | (with_reducible refine Kd.C_alloc ?_ _) | (with_reducible refine Kd.C_drewN ?_ _) | (with_reducible refine Kd.C_drew ?_))); (case side2 => exact (Kd.R_reads' HO164.out).2.1); rintro e w42 ⟨v175, rfl, ho0, hb⟩; have n0_ := Aside0.mk (Kd.R_below (by (with_reducible repeat (first | apply Kd.R_alloc | apply Kd.R_drewN | apply Kd.R_drew)); exact HO164.out) hb); have n1_ := Aside0.mk (Kd.R_lower ho0 (below_size (by repeat (first | (with_reducible first | exact HB.out | apply below_alloc | apply pw_below_drewN | apply below_drew1) | exact HB.out)))); have n2_ := Aside0.mk (below_step (by repeat (first | (with_reducible first | exact HB.out | apply below_alloc | apply pw_below_drewN | apply below_drew1) | exact HB.out)) hb); clear HO164; clear HB; have HO164 := n0_; have HO176 := n1_; have HB := n2_; clear n0_ n1_ n2_; (try clear hb); (try clear hb2); (try clear hk); (try clear hi); (try clear ho0); obtain ⟨Ao43, co43, eo43⟩ := Kd.R_slice HO176.out; subst eo43))
                    go_ret
                    exact ⟨by first | rfl | (simp [errW_none, errW_some] <;> rfl) | (simp [*, errW_none, errW_some] <;> rfl), by repeat (first | (with_reducible first | exact HB.out | apply below_alloc | apply pw_below_drewN | apply below_drew1) | exact HB.out)⟩
                  · rw [if_neg c36] at H
                    exact absurd H (by simp)
              · rw [if_neg c14] at H
                have c14b0 : decide (0 ≤ a2) = false := decide_eq_false c14
                clear c14
                replace H := Option.bind_eq_some_iff.mp H
                obtain ⟨t177, A440, H⟩ := H
                replace H : (if (t177 == false) = true then ((dir_Encode.f y162).bind fun t178 => (some ((decide ((t178.length : Int) > 0)) == false))) else (none)) = some r := H
                have A44 := Aside0.mk A440
                clear A440
                by_cases c45 : (t177 == false) = true
                · rw [if_pos c45] at H
                  have c45b0 : (t177 == false) = true := c45
                  (try (have c45b1 : decide (t177 = false) = true := by simpa using c45))
                  (try (have c45b2 : (t177 == false) = true := by simpa using c45))
                  clear c45
                  replace H := Option.bind_eq_some_iff.mp H
                  obtain ⟨t178, A460, H⟩ := H
                  replace H : (some ((decide ((t178.length : Int) > 0)) == false)) = some r := H
                  have A46 := Aside0.mk A460
                  clear A460
                  obtain rfl := Option.some.inj H
                  go_wp2_with (first | ((with_reducible refine gate_dst (N := 32) rfl ?_); (try (refine gate_guard (by rfl) ?_; dsimp only)); refine Kd.R_lit k32 _ 32 ?hg (N := 32) ?hd (xs := ([(⟨(⟨#[97]⟩ : ByteArray), a0, (⟨a2, a1⟩ : S30)⟩ : S32)] : List (S32))) (inner := [.string (⟨#[97]⟩ : ByteArray), .int .i64 a0, .int .i64 a2, .int .i64 a1]) (ok := fun _ => True) (okp := fun _ => True) ?hr ?hp (fun _ hk => hk) trivial (Below.refl _ _) (Nat.le_refl _) (by simp) ?_; (case hd => rfl); (case hg => rfl); (case hr => first | (go_simp; done) | (go_simp; rfl)); (case hp => exact (Reps.c4 (show Kd.M k32 _ _ _ (⟨(⟨#[97]⟩ : ByteArray), a0, (⟨a2, a1⟩ : S30)⟩ : S32) [.string (⟨#[97]⟩ : ByteArray), .int .i64 a0, .int .i64 a2, .int .i64 a1] from (k32_mkM _ _ _ (⟨(⟨#[97]⟩ : ByteArray), a0, (⟨a2, a1⟩ : S30)⟩ : S32) )) (Reps.none _ _))); intro v163 w47 ho48 hb hg_ hnew_; clear hg_ hnew_; (first | rw [← Ny162.out] at ho48 | (simp only [Int.reduceToNat] at ho48; rw [← Ny162.out] at ho48)); have n0_ := Aside0.mk (Kd.R_lower ho48 (below_size (by repeat (first | (with_reducible first | exact HB.out | apply below_alloc | apply pw_below_drewN | apply below_drew1) | exact HB.out)))); have n1_ := Aside0.mk (below_step (by repeat (first | (with_reducible first | exact HB.out | apply below_alloc | apply pw_below_drewN | apply below_drew1) | exact HB.out)) hb); clear HB; have HO164 := n0_; have HB := n1_; clear n0_ n1_; clear hb ho48; obtain ⟨Ao49, co49, eo49⟩ := Kd.R_slice HO164.out; subst eo49) | ((with_reducible refine gate_callee (f := 11) rfl ?_); refine goesL_ (some 59) rfl rfl Try.func11 (by kernel_rfl) rfl #[.slice Ao49 y162.length co49] rfl (by (try simp only [List.map_toArray, List.map_cons, List.map_nil]); first | done | rfl | (simp only [List.length_drop, List.length_take]; rfl)) ?_; (with_reducible refine (dir_May.calls kj5 _ _ y162 t177 _ ?side1 ?side2 A44.out).mono ?_); (case side1 => repeat (first | exact (Kd.R_reads' HO164.out).2.2 | (with_reducible refine Kd.C_alloc ?_ _) | (with_reducible refine Kd.C_drewN ?_ _) | (with_reducible refine Kd.C_drew ?_))); (case side2 => exact (Kd.R_reads' HO164.out).2.1); rintro e w50 ⟨rfl, hb⟩; refine ⟨_, rfl, ?_⟩; have n0_ := Aside0.mk (Kd.R_below (by (with_reducible repeat (first | apply Kd.R_alloc | apply Kd.R_drewN | apply Kd.R_drew)); exact HO164.out) hb); have n1_ := Aside0.mk (below_step (by repeat (first | (with_reducible first | exact HB.out | apply below_alloc | apply pw_below_drewN | apply below_drew1) | exact HB.out)) hb); clear HO164; clear HB; have HO164 := n0_; have HB := n1_; clear n0_ n1_; (try clear hb); (try clear hb2); (try clear hk); (try clear hi)) | (go_at_call 10; (with_reducible refine (dir_Encode.calls _ _ y162 t178 _ ?side1 ?side2 A46.out).mono ?_); (case side1 => repeat (first | exact (Kd.R_reads' HO164.out).2.2 | (with_reducible refine Kd.C_alloc ?_ _) | (with_reducible refine Kd.C_drewN ?_ _) | (with_reducible refine Kd.C_drew ?_))); (case side2 => exact (Kd.R_reads' HO164.out).2.1); rintro e w51 ⟨v179, rfl, ho0, hb⟩; have n0_ := Aside0.mk (Kd.R_below (by (with_reducible repeat (first | apply Kd.R_alloc | apply Kd.R_drewN | apply Kd.R_drew)); exact HO164.out) hb); have n1_ := Aside0.mk (Kd.R_lower ho0 (below_size (by repeat (first | (with_reducible first | exact HB.out | apply below_alloc | apply pw_below_drewN | apply below_drew1) | exact HB.out)))); have n2_ := Aside0.mk (below_step (by repeat (first | (with_reducible first | exact HB.out | apply below_alloc | apply pw_below_drewN | apply below_drew1) | exact HB.out)) hb); clear HO164; clear HB; have HO164 := n0_; have HO180 := n1_; have HB := n2_; clear n0_ n1_ n2_; (try clear hb); (try clear hb2); (try clear hk); (try clear hi); (try clear ho0); obtain ⟨Ao52, co52, eo52⟩ := Kd.R_slice HO180.out; subst eo52))
                  go_ret
                  exact ⟨by first | rfl | (simp [errW_none, errW_some] <;> rfl) | (simp [*, errW_none, errW_some] <;> rfl), by repeat (first | (with_reducible first | exact HB.out | apply below_alloc | apply pw_below_drewN | apply below_drew1) | exact HB.out)⟩
                · rw [if_neg c45] at H
                  exact absurd H (by simp)
            · rw [if_neg c13] at H
              have c13b0 : (a1 == (wrap64 (Int.tdiv (wrap64 (a0 + 63)) 64))) = false := beq_eq_false_iff_ne.mpr c13
              have c13b1 : (a1 != (wrap64 (Int.tdiv (wrap64 (a0 + 63)) 64))) = true := bne_iff_ne.mpr c13
              replace H := Option.bind_eq_some_iff.mp H
              obtain ⟨t181, A530, H⟩ := H
              replace H : (if (t181 == false) = true then ((dir_Encode.f y162).bind fun t182 => (some ((decide ((t182.length : Int) > 0)) == false))) else (none)) = some r := H
              have A53 := Aside0.mk A530
              clear A530
              by_cases c54 : (t181 == false) = true
              · rw [if_pos c54] at H
                have c54b0 : (t181 == false) = true := c54
                (try (have c54b1 : decide (t181 = false) = true := by simpa using c54))
                (try (have c54b2 : (t181 == false) = true := by simpa using c54))
                clear c54
                replace H := Option.bind_eq_some_iff.mp H
                obtain ⟨t182, A550, H⟩ := H
                replace H : (some ((decide ((t182.length : Int) > 0)) == false)) = some r := H
                have A55 := Aside0.mk A550
                clear A550
                obtain rfl := Option.some.inj H
                go_wp2_with (first | ((with_reducible refine gate_dst (N := 32) rfl ?_); (try (refine gate_guard (by rfl) ?_; dsimp only)); refine Kd.R_lit k32 _ 32 ?hg (N := 32) ?hd (xs := ([(⟨(⟨#[97]⟩ : ByteArray), a0, (⟨a2, a1⟩ : S30)⟩ : S32)] : List (S32))) (inner := [.string (⟨#[97]⟩ : ByteArray), .int .i64 a0, .int .i64 a2, .int .i64 a1]) (ok := fun _ => True) (okp := fun _ => True) ?hr ?hp (fun _ hk => hk) trivial (Below.refl _ _) (Nat.le_refl _) (by simp) ?_; (case hd => rfl); (case hg => rfl); (case hr => first | (go_simp; done) | (go_simp; rfl)); (case hp => exact (Reps.c4 (show Kd.M k32 _ _ _ (⟨(⟨#[97]⟩ : ByteArray), a0, (⟨a2, a1⟩ : S30)⟩ : S32) [.string (⟨#[97]⟩ : ByteArray), .int .i64 a0, .int .i64 a2, .int .i64 a1] from (k32_mkM _ _ _ (⟨(⟨#[97]⟩ : ByteArray), a0, (⟨a2, a1⟩ : S30)⟩ : S32) )) (Reps.none _ _))); intro v163 w56 ho57 hb hg_ hnew_; clear hg_ hnew_; (first | rw [← Ny162.out] at ho57 | (simp only [Int.reduceToNat] at ho57; rw [← Ny162.out] at ho57)); have n0_ := Aside0.mk (Kd.R_lower ho57 (below_size (by repeat (first | (with_reducible first | exact HB.out | apply below_alloc | apply pw_below_drewN | apply below_drew1) | exact HB.out)))); have n1_ := Aside0.mk (below_step (by repeat (first | (with_reducible first | exact HB.out | apply below_alloc | apply pw_below_drewN | apply below_drew1) | exact HB.out)) hb); clear HB; have HO164 := n0_; have HB := n1_; clear n0_ n1_; clear hb ho57; obtain ⟨Ao58, co58, eo58⟩ := Kd.R_slice HO164.out; subst eo58) | ((with_reducible refine gate_callee (f := 11) rfl ?_); refine goesL_ (some 59) rfl rfl Try.func11 (by kernel_rfl) rfl #[.slice Ao58 y162.length co58] rfl (by (try simp only [List.map_toArray, List.map_cons, List.map_nil]); first | done | rfl | (simp only [List.length_drop, List.length_take]; rfl)) ?_; (with_reducible refine (dir_May.calls kj5 _ _ y162 t181 _ ?side1 ?side2 A53.out).mono ?_); (case side1 => repeat (first | exact (Kd.R_reads' HO164.out).2.2 | (with_reducible refine Kd.C_alloc ?_ _) | (with_reducible refine Kd.C_drewN ?_ _) | (with_reducible refine Kd.C_drew ?_))); (case side2 => exact (Kd.R_reads' HO164.out).2.1); rintro e w59 ⟨rfl, hb⟩; refine ⟨_, rfl, ?_⟩; have n0_ := Aside0.mk (Kd.R_below (by (with_reducible repeat (first | apply Kd.R_alloc | apply Kd.R_drewN | apply Kd.R_drew)); exact HO164.out) hb); have n1_ := Aside0.mk (below_step (by repeat (first | (with_reducible first | exact HB.out | apply below_alloc | apply pw_below_drewN | apply below_drew1) | exact HB.out)) hb); clear HO164; clear HB; have HO164 := n0_; have HB := n1_; clear n0_ n1_; (try clear hb); (try clear hb2); (try clear hk); (try clear hi)) | (go_at_call 10; (with_reducible refine (dir_Encode.calls _ _ y162 t182 _ ?side1 ?side2 A55.out).mono ?_); (case side1 => repeat (first | exact (Kd.R_reads' HO164.out).2.2 | (with_reducible refine Kd.C_alloc ?_ _) | (with_reducible refine Kd.C_drewN ?_ _) | (with_reducible refine Kd.C_drew ?_))); (case side2 => exact (Kd.R_reads' HO164.out).2.1); rintro e w60 ⟨v183, rfl, ho0, hb⟩; have n0_ := Aside0.mk (Kd.R_below (by (with_reducible repeat (first | apply Kd.R_alloc | apply Kd.R_drewN | apply Kd.R_drew)); exact HO164.out) hb); have n1_ := Aside0.mk (Kd.R_lower ho0 (below_size (by repeat (first | (with_reducible first | exact HB.out | apply below_alloc | apply pw_below_drewN | apply below_drew1) | exact HB.out)))); have n2_ := Aside0.mk (below_step (by repeat (first | (with_reducible first | exact HB.out | apply below_alloc | apply pw_below_drewN | apply below_drew1) | exact HB.out)) hb); clear HO164; clear HB; have HO164 := n0_; have HO184 := n1_; have HB := n2_; clear n0_ n1_ n2_; (try clear hb); (try clear hb2); (try clear hk); (try clear hi); (try clear ho0); obtain ⟨Ao61, co61, eo61⟩ := Kd.R_slice HO184.out; subst eo61))
                go_ret
                exact ⟨by first | rfl | (simp [errW_none, errW_some] <;> rfl) | (simp [*, errW_none, errW_some] <;> rfl), by repeat (first | (with_reducible first | exact HB.out | apply below_alloc | apply pw_below_drewN | apply below_drew1) | exact HB.out)⟩
              · rw [if_neg c54] at H
                exact absurd H (by simp)
          · rw [if_neg c12] at H
            have c12b0 : decide (a0 ≤ 65536) = false := decide_eq_false c12
            clear c12
            replace H := Option.bind_eq_some_iff.mp H
            obtain ⟨t185, A620, H⟩ := H
            replace H : (if (t185 == false) = true then ((dir_Encode.f y162).bind fun t186 => (some ((decide ((t186.length : Int) > 0)) == false))) else (none)) = some r := H
            have A62 := Aside0.mk A620
            clear A620
            by_cases c63 : (t185 == false) = true
            · rw [if_pos c63] at H
              have c63b0 : (t185 == false) = true := c63
              (try (have c63b1 : decide (t185 = false) = true := by simpa using c63))
              (try (have c63b2 : (t185 == false) = true := by simpa using c63))
              clear c63
              replace H := Option.bind_eq_some_iff.mp H
              obtain ⟨t186, A640, H⟩ := H
              replace H : (some ((decide ((t186.length : Int) > 0)) == false)) = some r := H
              have A64 := Aside0.mk A640
              clear A640
              obtain rfl := Option.some.inj H
              go_wp2_with (first | ((with_reducible refine gate_dst (N := 32) rfl ?_); (try (refine gate_guard (by rfl) ?_; dsimp only)); refine Kd.R_lit k32 _ 32 ?hg (N := 32) ?hd (xs := ([(⟨(⟨#[97]⟩ : ByteArray), a0, (⟨a2, a1⟩ : S30)⟩ : S32)] : List (S32))) (inner := [.string (⟨#[97]⟩ : ByteArray), .int .i64 a0, .int .i64 a2, .int .i64 a1]) (ok := fun _ => True) (okp := fun _ => True) ?hr ?hp (fun _ hk => hk) trivial (Below.refl _ _) (Nat.le_refl _) (by simp) ?_; (case hd => rfl); (case hg => rfl); (case hr => first | (go_simp; done) | (go_simp; rfl)); (case hp => exact (Reps.c4 (show Kd.M k32 _ _ _ (⟨(⟨#[97]⟩ : ByteArray), a0, (⟨a2, a1⟩ : S30)⟩ : S32) [.string (⟨#[97]⟩ : ByteArray), .int .i64 a0, .int .i64 a2, .int .i64 a1] from (k32_mkM _ _ _ (⟨(⟨#[97]⟩ : ByteArray), a0, (⟨a2, a1⟩ : S30)⟩ : S32) )) (Reps.none _ _))); intro v163 w65 ho66 hb hg_ hnew_; clear hg_ hnew_; (first | rw [← Ny162.out] at ho66 | (simp only [Int.reduceToNat] at ho66; rw [← Ny162.out] at ho66)); have n0_ := Aside0.mk (Kd.R_lower ho66 (below_size (by repeat (first | (with_reducible first | exact HB.out | apply below_alloc | apply pw_below_drewN | apply below_drew1) | exact HB.out)))); have n1_ := Aside0.mk (below_step (by repeat (first | (with_reducible first | exact HB.out | apply below_alloc | apply pw_below_drewN | apply below_drew1) | exact HB.out)) hb); clear HB; have HO164 := n0_; have HB := n1_; clear n0_ n1_; clear hb ho66; obtain ⟨Ao67, co67, eo67⟩ := Kd.R_slice HO164.out; subst eo67) | ((with_reducible refine gate_callee (f := 11) rfl ?_); refine goesL_ (some 59) rfl rfl Try.func11 (by kernel_rfl) rfl #[.slice Ao67 y162.length co67] rfl (by (try simp only [List.map_toArray, List.map_cons, List.map_nil]); first | done | rfl | (simp only [List.length_drop, List.length_take]; rfl)) ?_; (with_reducible refine (dir_May.calls kj5 _ _ y162 t185 _ ?side1 ?side2 A62.out).mono ?_); (case side1 => repeat (first | exact (Kd.R_reads' HO164.out).2.2 | (with_reducible refine Kd.C_alloc ?_ _) | (with_reducible refine Kd.C_drewN ?_ _) | (with_reducible refine Kd.C_drew ?_))); (case side2 => exact (Kd.R_reads' HO164.out).2.1); rintro e w68 ⟨rfl, hb⟩; refine ⟨_, rfl, ?_⟩; have n0_ := Aside0.mk (Kd.R_below (by (with_reducible repeat (first | apply Kd.R_alloc | apply Kd.R_drewN | apply Kd.R_drew)); exact HO164.out) hb); have n1_ := Aside0.mk (below_step (by repeat (first | (with_reducible first | exact HB.out | apply below_alloc | apply pw_below_drewN | apply below_drew1) | exact HB.out)) hb); clear HO164; clear HB; have HO164 := n0_; have HB := n1_; clear n0_ n1_; (try clear hb); (try clear hb2); (try clear hk); (try clear hi)) | (go_at_call 10; (with_reducible refine (dir_Encode.calls _ _ y162 t186 _ ?side1 ?side2 A64.out).mono ?_); (case side1 => repeat (first | exact (Kd.R_reads' HO164.out).2.2 | (with_reducible refine Kd.C_alloc ?_ _) | (with_reducible refine Kd.C_drewN ?_ _) | (with_reducible refine Kd.C_drew ?_))); (case side2 => exact (Kd.R_reads' HO164.out).2.1); rintro e w69 ⟨v187, rfl, ho0, hb⟩; have n0_ := Aside0.mk (Kd.R_below (by (with_reducible repeat (first | apply Kd.R_alloc | apply Kd.R_drewN | apply Kd.R_drew)); exact HO164.out) hb); have n1_ := Aside0.mk (Kd.R_lower ho0 (below_size (by repeat (first | (with_reducible first | exact HB.out | apply below_alloc | apply pw_below_drewN | apply below_drew1) | exact HB.out)))); have n2_ := Aside0.mk (below_step (by repeat (first | (with_reducible first | exact HB.out | apply below_alloc | apply pw_below_drewN | apply below_drew1) | exact HB.out)) hb); clear HO164; clear HB; have HO164 := n0_; have HO188 := n1_; have HB := n2_; clear n0_ n1_ n2_; (try clear hb); (try clear hb2); (try clear hk); (try clear hi); (try clear ho0); obtain ⟨Ao70, co70, eo70⟩ := Kd.R_slice HO188.out; subst eo70))
              go_ret
              exact ⟨by first | rfl | (simp [errW_none, errW_some] <;> rfl) | (simp [*, errW_none, errW_some] <;> rfl), by repeat (first | (with_reducible first | exact HB.out | apply below_alloc | apply pw_below_drewN | apply below_drew1) | exact HB.out)⟩
            · rw [if_neg c63] at H
              exact absurd H (by simp)
  · replace c5 := Bool.eq_false_iff.mpr c5
    subst c5
    have H1 : (none) = some r := by rw [if_neg (show ¬ (false = true) by decide)] at H; exact H
    clear H
    have H := H1
    clear H1
    exact absurd H (by simp)

/-- THE ONE PURE STATEMENT of loesslaw14_DirSpan: yours. -/
def loesslaw14_DirSpan.Pure : Prop := ∀ (a0 : Int) (a1 : Int) (a2 : Int), (Lit.int .i64 a0).wf = true → (Lit.int .i64 a1).wf = true → (Lit.int .i64 a2).wf = true → ∃ k, loesslaw14_DirSpan.f k a0 a1 a2 = some true
theorem loesslaw14_DirSpan.walk (P : loesslaw14_DirSpan.Pure) (a0 : Int) (a1 : Int) (a2 : Int) (w : World) (w0 : (Lit.int .i64 a0).wf = true) (w1 : (Lit.int .i64 a1).wf = true) (w2 : (Lit.int .i64 a2).wf = true) :
    Calls Try.prog 6 #[.int .i64 a0, .int .i64 a1, .int .i64 a2] w fun e w' => e = .returned (.bool true) ∧ Below w.heap.size w w' := by
  obtain ⟨k, h⟩ := P a0 a1 a2 w0 w1 w2
  refine (loesslaw14_DirSpan.calls k a0 a1 a2 true w h).mono ?_
  rintro e w' ⟨rfl, hd⟩
  exact ⟨rfl, hd⟩

end Go.Proofs.Ytoffcgdamcchcaa.XDir
