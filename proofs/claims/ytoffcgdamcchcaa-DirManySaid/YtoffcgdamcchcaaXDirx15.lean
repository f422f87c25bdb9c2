-- Written by wip/xprint.py, this session's wrapper round the kit's print program. Not trusted: Lean checks it.
import Derived.Test.YtoffcgdamcchcaaXDirx0
import Derived.Test.YtoffcgdamcchcaaXDirx3
import Derived.Test.YtoffcgdamcchcaaXDirx12
import Derived.Test.YtoffcgdamcchcaaGDirM
namespace Go.Proofs.Ytoffcgdamcchcaa.XDir
open Go.RowKit Go.Proofs.YtoffcgdamcchcaaW.PrintWords Go.Proofs.YtoffcgdamcchcaaW.PrintLast Go.Proofs.YtoffcgdamcchcaaW.PrintMore
attribute [local go_sem] max2_int min2_int max_two min_two max_three min_three max_four min_four   -- for this text's walks alone
set_option linter.unusedVariables false
set_option linter.unusedSimpArgs false

open Go.Proofs.Ytoffcgdamcchcaa.GL
/-! ### loesslaw14_begun: function 7 -/
def loesslaw14_begun.f (k : Nat)  : Option (Bool) := (some (([(⟨(⟨#[97]⟩ : ByteArray), 65, (⟨9, 2⟩ : S30)⟩ : S32)] : List (S32)) : List (S32))).bind fun y139 => ((dir_Encode.f y139).bind fun t142 => ((dir_Decode.f t142).bind fun bt145 => ((dir_Decode.f ([] : List Int)).bind fun bt149 => ((dir_May.f k y139).bind fun t153 => (if t153 = true then ((dir_May.f k ([] : List (S32))).bind fun t154 => (if t154 = true then (if bt145.2 = 0 then ((loesslaw14_eq.f k y139 bt145.1).bind fun t155 => (if t155 = true then (if bt149.2 = 8 then ((dir_Find.f y139 (⟨#[97]⟩ : ByteArray)).bind fun t156 => (if t156 = 0 then ((dir_Find.f y139 (⟨#[98]⟩ : ByteArray)).bind fun t157 => (if t157 = (-1) then ((dir_Encode.f ([] : List (S32))).bind fun t158 => (some ((t158.length : Int) == 1))) else (none))) else (none))) else (none)) else (none))) else (none)) else (none))) else (none))))))
theorem loesslaw14_begun.mono : ∀ k, LeO (loesslaw14_begun.f k ) (loesslaw14_begun.f (k + 1) ) := by
  intro  k
  unfold loesslaw14_begun.f
  repeat' first
      | (with_reducible exact dir_May.mono _ _)
      | (with_reducible exact loesslaw14_eq.mono _ _ _)
      | (with_reducible exact LeO.refl _)
      | (with_reducible exact LeO.none _)
      | (with_reducible refine LeO.ite ?_ ?_)
      | (with_reducible refine LeO.bind ?_ (fun _ => ?_))
      | exact dir_May.mono _ _
      | exact loesslaw14_eq.mono _ _ _
      | exact LeO.none _
      | refine LeO.ite ?_ ?_
      | refine LeO.bind ?_ (fun _ => ?_)
set_option maxHeartbeats 8000000 in
set_option maxRecDepth 100000 in
theorem loesslaw14_begun.calls (k : Nat)  (r : Bool) (w : World) (h : loesslaw14_begun.f k  = some r) :
    Calls Try.prog 7 #[] w fun e w' => e = .returned (.bool r) ∧ Below w.heap.size w w' := by
  have hu30 := Try.underlying30
  have hu32 := Try.underlying32
  have HB := Aside0.mk (Below.refl w.heap.size w)
  have H : ((some (([(⟨(⟨#[97]⟩ : ByteArray), 65, (⟨9, 2⟩ : S30)⟩ : S32)] : List (S32)) : List (S32))).bind fun y139 => ((dir_Encode.f y139).bind fun t142 => ((dir_Decode.f t142).bind fun bt145 => ((dir_Decode.f ([] : List Int)).bind fun bt149 => ((dir_May.f k y139).bind fun t153 => (if t153 = true then ((dir_May.f k ([] : List (S32))).bind fun t154 => (if t154 = true then (if bt145.2 = 0 then ((loesslaw14_eq.f k y139 bt145.1).bind fun t155 => (if t155 = true then (if bt149.2 = 8 then ((dir_Find.f y139 (⟨#[97]⟩ : ByteArray)).bind fun t156 => (if t156 = 0 then ((dir_Find.f y139 (⟨#[98]⟩ : ByteArray)).bind fun t157 => (if t157 = (-1) then ((dir_Encode.f ([] : List (S32))).bind fun t158 => (some ((t158.length : Int) == 1))) else (none))) else (none))) else (none)) else (none))) else (none)) else (none))) else (none))))))) = some r := h
  clear h
  obtain ⟨y139, hy139⟩ : ∃ y_ : List (S32), y_ = (([(⟨(⟨#[97]⟩ : ByteArray), 65, (⟨9, 2⟩ : S30)⟩ : S32)] : List (S32))) := ⟨_, rfl⟩
  replace H : ((dir_Encode.f y139).bind fun t142 => ((dir_Decode.f t142).bind fun bt145 => ((dir_Decode.f ([] : List Int)).bind fun bt149 => ((dir_May.f k y139).bind fun t153 => (if t153 = true then ((dir_May.f k ([] : List (S32))).bind fun t154 => (if t154 = true then (if bt145.2 = 0 then ((loesslaw14_eq.f k y139 bt145.1).bind fun t155 => (if t155 = true then (if bt149.2 = 8 then ((dir_Find.f y139 (⟨#[97]⟩ : ByteArray)).bind fun t156 => (if t156 = 0 then ((dir_Find.f y139 (⟨#[98]⟩ : ByteArray)).bind fun t157 => (if t157 = (-1) then ((dir_Encode.f ([] : List (S32))).bind fun t158 => (some ((t158.length : Int) == 1))) else (none))) else (none))) else (none)) else (none))) else (none)) else (none))) else (none)))))) = some r := by first | (rw [hy139]; with_reducible exact H) | (have H2_ := (Option.bind_some _ _).symm.trans H; rw [hy139]; with_reducible exact H2_) | (have H2_ := (Option.bind_some _ _).symm.trans H; with_reducible exact H2_) | with_reducible exact H | (rw [hy139]; exact H) | exact H
  have Ny139 := Aside0.mk hy139
  clear hy139
  replace H := Option.bind_eq_some_iff.mp H
  obtain ⟨t142, A10, H⟩ := H
  replace H : ((dir_Decode.f t142).bind fun bt145 => ((dir_Decode.f ([] : List Int)).bind fun bt149 => ((dir_May.f k y139).bind fun t153 => (if t153 = true then ((dir_May.f k ([] : List (S32))).bind fun t154 => (if t154 = true then (if bt145.2 = 0 then ((loesslaw14_eq.f k y139 bt145.1).bind fun t155 => (if t155 = true then (if bt149.2 = 8 then ((dir_Find.f y139 (⟨#[97]⟩ : ByteArray)).bind fun t156 => (if t156 = 0 then ((dir_Find.f y139 (⟨#[98]⟩ : ByteArray)).bind fun t157 => (if t157 = (-1) then ((dir_Encode.f ([] : List (S32))).bind fun t158 => (some ((t158.length : Int) == 1))) else (none))) else (none))) else (none)) else (none))) else (none)) else (none))) else (none))))) = some r := H
  have A1 := Aside0.mk A10
  clear A10
  replace H := Option.bind_eq_some_iff.mp H
  obtain ⟨⟨t145, t146⟩, A20, H⟩ := H
  replace H : ((dir_Decode.f ([] : List Int)).bind fun bt149 => ((dir_May.f k y139).bind fun t153 => (if t153 = true then ((dir_May.f k ([] : List (S32))).bind fun t154 => (if t154 = true then (if t146 = 0 then ((loesslaw14_eq.f k y139 t145).bind fun t155 => (if t155 = true then (if bt149.2 = 8 then ((dir_Find.f y139 (⟨#[97]⟩ : ByteArray)).bind fun t156 => (if t156 = 0 then ((dir_Find.f y139 (⟨#[98]⟩ : ByteArray)).bind fun t157 => (if t157 = (-1) then ((dir_Encode.f ([] : List (S32))).bind fun t158 => (some ((t158.length : Int) == 1))) else (none))) else (none))) else (none)) else (none))) else (none)) else (none))) else (none)))) = some r := H
  have A2 := Aside0.mk A20
  clear A20
  replace H := Option.bind_eq_some_iff.mp H
  obtain ⟨⟨t149, t150⟩, A30, H⟩ := H
  replace H : ((dir_May.f k y139).bind fun t153 => (if t153 = true then ((dir_May.f k ([] : List (S32))).bind fun t154 => (if t154 = true then (if t146 = 0 then ((loesslaw14_eq.f k y139 t145).bind fun t155 => (if t155 = true then (if t150 = 8 then ((dir_Find.f y139 (⟨#[97]⟩ : ByteArray)).bind fun t156 => (if t156 = 0 then ((dir_Find.f y139 (⟨#[98]⟩ : ByteArray)).bind fun t157 => (if t157 = (-1) then ((dir_Encode.f ([] : List (S32))).bind fun t158 => (some ((t158.length : Int) == 1))) else (none))) else (none))) else (none)) else (none))) else (none)) else (none))) else (none))) = some r := H
  have A3 := Aside0.mk A30
  clear A30
  replace H := Option.bind_eq_some_iff.mp H
  obtain ⟨t153, A40, H⟩ := H
  replace H : (if t153 = true then ((dir_May.f k ([] : List (S32))).bind fun t154 => (if t154 = true then (if t146 = 0 then ((loesslaw14_eq.f k y139 t145).bind fun t155 => (if t155 = true then (if t150 = 8 then ((dir_Find.f y139 (⟨#[97]⟩ : ByteArray)).bind fun t156 => (if t156 = 0 then ((dir_Find.f y139 (⟨#[98]⟩ : ByteArray)).bind fun t157 => (if t157 = (-1) then ((dir_Encode.f ([] : List (S32))).bind fun t158 => (some ((t158.length : Int) == 1))) else (none))) else (none))) else (none)) else (none))) else (none)) else (none))) else (none)) = some r := H
  have A4 := Aside0.mk A40
  clear A40
  by_cases c5 : t153 = true
  · subst c5
    have H1 : ((dir_May.f k ([] : List (S32))).bind fun t154 => (if t154 = true then (if t146 = 0 then ((loesslaw14_eq.f k y139 t145).bind fun t155 => (if t155 = true then (if t150 = 8 then ((dir_Find.f y139 (⟨#[97]⟩ : ByteArray)).bind fun t156 => (if t156 = 0 then ((dir_Find.f y139 (⟨#[98]⟩ : ByteArray)).bind fun t157 => (if t157 = (-1) then ((dir_Encode.f ([] : List (S32))).bind fun t158 => (some ((t158.length : Int) == 1))) else (none))) else (none))) else (none)) else (none))) else (none)) else (none))) = some r := by rw [if_pos rfl] at H; exact H
    clear H
    have H := H1
    clear H1
    replace H := Option.bind_eq_some_iff.mp H
    obtain ⟨t154, A60, H⟩ := H
    replace H : (if t154 = true then (if t146 = 0 then ((loesslaw14_eq.f k y139 t145).bind fun t155 => (if t155 = true then (if t150 = 8 then ((dir_Find.f y139 (⟨#[97]⟩ : ByteArray)).bind fun t156 => (if t156 = 0 then ((dir_Find.f y139 (⟨#[98]⟩ : ByteArray)).bind fun t157 => (if t157 = (-1) then ((dir_Encode.f ([] : List (S32))).bind fun t158 => (some ((t158.length : Int) == 1))) else (none))) else (none))) else (none)) else (none))) else (none)) else (none)) = some r := H
    have A6 := Aside0.mk A60
    clear A60
    by_cases c7 : t154 = true
    · subst c7
      have H1 : (if t146 = 0 then ((loesslaw14_eq.f k y139 t145).bind fun t155 => (if t155 = true then (if t150 = 8 then ((dir_Find.f y139 (⟨#[97]⟩ : ByteArray)).bind fun t156 => (if t156 = 0 then ((dir_Find.f y139 (⟨#[98]⟩ : ByteArray)).bind fun t157 => (if t157 = (-1) then ((dir_Encode.f ([] : List (S32))).bind fun t158 => (some ((t158.length : Int) == 1))) else (none))) else (none))) else (none)) else (none))) else (none)) = some r := by rw [if_pos rfl] at H; exact H
      clear H
      have H := H1
      clear H1
      by_cases c8 : t146 = 0
      · rw [if_pos c8] at H
        have c8b0 : (t146 == 0) = true := beq_iff_eq.mpr c8
        have c8b1 : (t146 != 0) = false := bne_eq_false_iff_eq.mpr c8
        clear c8
        replace H := Option.bind_eq_some_iff.mp H
        obtain ⟨t155, A90, H⟩ := H
        replace H : (if t155 = true then (if t150 = 8 then ((dir_Find.f y139 (⟨#[97]⟩ : ByteArray)).bind fun t156 => (if t156 = 0 then ((dir_Find.f y139 (⟨#[98]⟩ : ByteArray)).bind fun t157 => (if t157 = (-1) then ((dir_Encode.f ([] : List (S32))).bind fun t158 => (some ((t158.length : Int) == 1))) else (none))) else (none))) else (none)) else (none)) = some r := H
        have A9 := Aside0.mk A90
        clear A90
        by_cases c10 : t155 = true
        · subst c10
          have H1 : (if t150 = 8 then ((dir_Find.f y139 (⟨#[97]⟩ : ByteArray)).bind fun t156 => (if t156 = 0 then ((dir_Find.f y139 (⟨#[98]⟩ : ByteArray)).bind fun t157 => (if t157 = (-1) then ((dir_Encode.f ([] : List (S32))).bind fun t158 => (some ((t158.length : Int) == 1))) else (none))) else (none))) else (none)) = some r := by rw [if_pos rfl] at H; exact H
          clear H
          have H := H1
          clear H1
          by_cases c11 : t150 = 8
          · rw [if_pos c11] at H
            have c11b0 : (t150 == 8) = true := beq_iff_eq.mpr c11
            have c11b1 : (t150 != 8) = false := bne_eq_false_iff_eq.mpr c11
            clear c11
            replace H := Option.bind_eq_some_iff.mp H
            obtain ⟨t156, A120, H⟩ := H
            replace H : (if t156 = 0 then ((dir_Find.f y139 (⟨#[98]⟩ : ByteArray)).bind fun t157 => (if t157 = (-1) then ((dir_Encode.f ([] : List (S32))).bind fun t158 => (some ((t158.length : Int) == 1))) else (none))) else (none)) = some r := H
            have A12 := Aside0.mk A120
            clear A120
            by_cases c13 : t156 = 0
            · rw [if_pos c13] at H
              have c13b0 : (t156 == 0) = true := beq_iff_eq.mpr c13
              have c13b1 : (t156 != 0) = false := bne_eq_false_iff_eq.mpr c13
              clear c13
              replace H := Option.bind_eq_some_iff.mp H
              obtain ⟨t157, A140, H⟩ := H
              replace H : (if t157 = (-1) then ((dir_Encode.f ([] : List (S32))).bind fun t158 => (some ((t158.length : Int) == 1))) else (none)) = some r := H
              have A14 := Aside0.mk A140
              clear A140
              by_cases c15 : t157 = (-1)
              · rw [if_pos c15] at H
                have c15b0 : (t157 == (-1)) = true := beq_iff_eq.mpr c15
                have c15b1 : (t157 != (-1)) = false := bne_eq_false_iff_eq.mpr c15
                clear c15
                replace H := Option.bind_eq_some_iff.mp H
                obtain ⟨t158, A160, H⟩ := H
                replace H : (some ((t158.length : Int) == 1)) = some r := H
                have A16 := Aside0.mk A160
                clear A160
                obtain rfl := Option.some.inj H
                go_enter Try.func7, Try.ntmps7
                go_wp2_with (first | ((with_reducible refine gate_dst (N := 8) rfl ?_); (try (refine gate_guard (by rfl) ?_; dsimp only)); refine Kd.R_lit k32 _ 32 ?hg (N := 8) ?hd (xs := ([(⟨(⟨#[97]⟩ : ByteArray), 65, (⟨9, 2⟩ : S30)⟩ : S32)] : List (S32))) (inner := [.string (⟨#[97]⟩ : ByteArray), .int .i64 65, .int .i64 9, .int .i64 2]) (ok := fun _ => True) (okp := fun _ => True) ?hr ?hp (fun _ hk => hk) trivial (Below.refl _ _) (Nat.le_refl _) (by simp) ?_; (case hd => rfl); (case hg => rfl); (case hr => first | (go_simp; done) | (go_simp; rfl)); (case hp => exact (Reps.c4 (show Kd.M k32 _ _ _ (⟨(⟨#[97]⟩ : ByteArray), 65, (⟨9, 2⟩ : S30)⟩ : S32) [.string (⟨#[97]⟩ : ByteArray), .int .i64 65, .int .i64 9, .int .i64 2] from (k32_mkM _ _ _ (⟨(⟨#[97]⟩ : ByteArray), 65, (⟨9, 2⟩ : S30)⟩ : S32) )) (Reps.none _ _))); intro v140 w17 ho18 hb hg_ hnew_; clear hg_ hnew_; (first | rw [← Ny139.out] at ho18 | (simp only [Int.reduceToNat] at ho18; rw [← Ny139.out] at ho18)); have n0_ := Aside0.mk (Kd.R_lower ho18 (below_size (by repeat (first | (with_reducible first | exact HB.out | apply below_alloc | apply pw_below_drewN | apply below_drew1) | exact HB.out)))); have n1_ := Aside0.mk (below_step (by repeat (first | (with_reducible first | exact HB.out | apply below_alloc | apply pw_below_drewN | apply below_drew1) | exact HB.out)) hb); clear HB; have HO141 := n0_; have HB := n1_; clear n0_ n1_; clear hb ho18; obtain ⟨Ao19, co19, eo19⟩ := Kd.R_slice HO141.out; subst eo19) | ((with_reducible refine gate_callee (f := 10) rfl ?_); refine goesL_ (some 11) rfl rfl Try.func10 (by kernel_rfl) rfl #[.slice Ao19 y139.length co19] rfl (by (try simp only [List.map_toArray, List.map_cons, List.map_nil]); first | done | rfl | (simp only [List.length_drop, List.length_take]; rfl)) ?_; (with_reducible refine (dir_Encode.calls _ _ y139 t142 _ ?side1 ?side2 A1.out).mono ?_); (case side1 => repeat (first | exact (Kd.R_reads' HO141.out).2.2 | (with_reducible refine Kd.C_alloc ?_ _) | (with_reducible refine Kd.C_drewN ?_ _) | (with_reducible refine Kd.C_drew ?_))); (case side2 => exact (Kd.R_reads' HO141.out).2.1); rintro e w20 ⟨v143, rfl, ho0, hb⟩; refine ⟨_, rfl, ?_⟩; have n0_ := Aside0.mk (Kd.R_below (by (with_reducible repeat (first | apply Kd.R_alloc | apply Kd.R_drewN | apply Kd.R_drew)); exact HO141.out) hb); have n1_ := Aside0.mk (Kd.R_lower ho0 (below_size (by repeat (first | (with_reducible first | exact HB.out | apply below_alloc | apply pw_below_drewN | apply below_drew1) | exact HB.out)))); have n2_ := Aside0.mk (below_step (by repeat (first | (with_reducible first | exact HB.out | apply below_alloc | apply pw_below_drewN | apply below_drew1) | exact HB.out)) hb); clear HO141; clear HB; have HO141 := n0_; have HO144 := n1_; have HB := n2_; clear n0_ n1_ n2_; (try clear hb); (try clear hb2); (try clear hk); (try clear hi); (try clear ho0); obtain ⟨Ao21, co21, eo21⟩ := Kd.R_slice HO144.out; subst eo21) | ((with_reducible refine gate_callee (f := 13) rfl ?_); refine goesL_ (some 12) rfl rfl Try.func13 (by kernel_rfl) rfl #[.slice Ao21 t142.length co21] rfl (by (try simp only [List.map_toArray, List.map_cons, List.map_nil]); first | done | rfl | (simp only [List.length_drop, List.length_take]; rfl)) ?_; (with_reducible refine (dir_Decode.calls _ _ t142 t145 t146 _ ?side1 ?side2 A2.out).mono ?_); (case side1 => repeat (first | exact (Kd.R_reads' HO144.out).2.2 | (with_reducible refine Kd.C_alloc ?_ _) | (with_reducible refine Kd.C_drewN ?_ _) | (with_reducible refine Kd.C_drew ?_))); (case side2 => exact (Kd.R_reads' HO144.out).2.1); rintro e w22 ⟨v147, rfl, ho0, hb⟩; refine ⟨_, rfl, ?_⟩; have n0_ := Aside0.mk (Kd.R_elder' (by (with_reducible repeat (first | apply Kd.R_alloc | apply Kd.R_drewN | apply Kd.R_drew)); exact HO141.out) (Kd.R_base ho0) hb); have n1_ := Aside0.mk (Kd.R_below (by (with_reducible repeat (first | apply Kd.R_alloc | apply Kd.R_drewN | apply Kd.R_drew)); exact HO144.out) hb); have n2_ := Aside0.mk (Kd.R_lower (Kd.R_new' ho0 (Kd.R_lt (by (with_reducible repeat (first | apply Kd.R_alloc | apply Kd.R_drewN | apply Kd.R_drew)); exact HO141.out))) (below_size (by repeat (first | (with_reducible first | exact HB.out | apply below_alloc | apply pw_below_drewN | apply below_drew1) | exact HB.out)))); have n3_ := Aside0.mk (below_step (by repeat (first | (with_reducible first | exact HB.out | apply below_alloc | apply pw_below_drewN | apply below_drew1) | exact HB.out)) hb); clear HO141; clear HO144; clear HB; have HO141 := n0_; have HO144 := n1_; have HO148 := n2_; have HB := n3_; clear n0_ n1_ n2_ n3_; (try clear hb); (try clear hb2); (try clear hk); (try clear hi); (try clear ho0)) | ((with_reducible refine gate_callee (f := 13) rfl ?_); refine goesL_ (some 16) rfl rfl Try.func13 (by kernel_rfl) rfl #[.slice none 0 0] rfl (by (try simp only [List.map_toArray, List.map_cons, List.map_nil]); first | done | rfl | (simp only [List.length_drop, List.length_take]; rfl)) ?_; (refine (dir_Decode.calls _ _ ([] : List Int) t149 t150 _ ?side1 ?side2 A3.out).mono ?_); (case side1 => exact Kd.C_nil _ _); (case side2 => exact Nat.le_refl _); rintro e w23 ⟨v151, rfl, ho0, hb⟩; refine ⟨_, rfl, ?_⟩; have n0_ := Aside0.mk (Kd.R_elder' (by (with_reducible repeat (first | apply Kd.R_alloc | apply Kd.R_drewN | apply Kd.R_drew)); exact HO141.out) (Kd.R_base ho0) hb); have n1_ := Aside0.mk (Kd.R_below (by (with_reducible repeat (first | apply Kd.R_alloc | apply Kd.R_drewN | apply Kd.R_drew)); exact HO144.out) hb); have n2_ := Aside0.mk (Kd.R_elder' (by (with_reducible repeat (first | apply Kd.R_alloc | apply Kd.R_drewN | apply Kd.R_drew)); exact HO148.out) (Kd.R_base ho0) hb); have n3_ := Aside0.mk (Kd.R_lower (Kd.R_new' (Kd.R_new' ho0 (Kd.R_lt (by (with_reducible repeat (first | apply Kd.R_alloc | apply Kd.R_drewN | apply Kd.R_drew)); exact HO141.out))) (Kd.R_lt (by (with_reducible repeat (first | apply Kd.R_alloc | apply Kd.R_drewN | apply Kd.R_drew)); exact HO148.out))) (below_size (by repeat (first | (with_reducible first | exact HB.out | apply below_alloc | apply pw_below_drewN | apply below_drew1) | exact HB.out)))); have n4_ := Aside0.mk (below_step (by repeat (first | (with_reducible first | exact HB.out | apply below_alloc | apply pw_below_drewN | apply below_drew1) | exact HB.out)) hb); clear HO141; clear HO144; clear HO148; clear HB; have HO141 := n0_; have HO144 := n1_; have HO148 := n2_; have HO152 := n3_; have HB := n4_; clear n0_ n1_ n2_ n3_ n4_; (try clear hb); (try clear hb2); (try clear hk); (try clear hi); (try clear ho0)) | ((with_reducible refine gate_callee (f := 11) rfl ?_); refine goesL_ (some 20) rfl rfl Try.func11 (by kernel_rfl) rfl #[.slice Ao19 y139.length co19] rfl (by (try simp only [List.map_toArray, List.map_cons, List.map_nil]); first | done | rfl | (simp only [List.length_drop, List.length_take]; rfl)) ?_; (with_reducible refine (dir_May.calls k _ _ y139 true _ ?side1 ?side2 A4.out).mono ?_); (case side1 => repeat (first | exact (Kd.R_reads' HO141.out).2.2 | (with_reducible refine Kd.C_alloc ?_ _) | (with_reducible refine Kd.C_drewN ?_ _) | (with_reducible refine Kd.C_drew ?_))); (case side2 => exact (Kd.R_reads' HO141.out).2.1); rintro e w24 ⟨rfl, hb⟩; refine ⟨_, rfl, ?_⟩; have n0_ := Aside0.mk (Kd.R_below (by (with_reducible repeat (first | apply Kd.R_alloc | apply Kd.R_drewN | apply Kd.R_drew)); exact HO141.out) hb); have n1_ := Aside0.mk (Kd.R_below (by (with_reducible repeat (first | apply Kd.R_alloc | apply Kd.R_drewN | apply Kd.R_drew)); exact HO144.out) hb); have n2_ := Aside0.mk (Kd.R_below (by (with_reducible repeat (first | apply Kd.R_alloc | apply Kd.R_drewN | apply Kd.R_drew)); exact HO148.out) hb); have n3_ := Aside0.mk (Kd.R_below (by (with_reducible repeat (first | apply Kd.R_alloc | apply Kd.R_drewN | apply Kd.R_drew)); exact HO152.out) hb); have n4_ := Aside0.mk (below_step (by repeat (first | (with_reducible first | exact HB.out | apply below_alloc | apply pw_below_drewN | apply below_drew1) | exact HB.out)) hb); clear HO141; clear HO144; clear HO148; clear HO152; clear HB; have HO141 := n0_; have HO144 := n1_; have HO148 := n2_; have HO152 := n3_; have HB := n4_; clear n0_ n1_ n2_ n3_ n4_; (try clear hb); (try clear hb2); (try clear hk); (try clear hi)) | (go_at_call 11; (refine (dir_May.calls k _ _ ([] : List (S32)) true _ ?side1 ?side2 A6.out).mono ?_); (case side1 => exact Kd.C_nil _ _); (case side2 => exact Nat.le_refl _); rintro e w25 ⟨rfl, hb⟩; have n0_ := Aside0.mk (Kd.R_below (by (with_reducible repeat (first | apply Kd.R_alloc | apply Kd.R_drewN | apply Kd.R_drew)); exact HO141.out) hb); have n1_ := Aside0.mk (Kd.R_below (by (with_reducible repeat (first | apply Kd.R_alloc | apply Kd.R_drewN | apply Kd.R_drew)); exact HO144.out) hb); have n2_ := Aside0.mk (Kd.R_below (by (with_reducible repeat (first | apply Kd.R_alloc | apply Kd.R_drewN | apply Kd.R_drew)); exact HO148.out) hb); have n3_ := Aside0.mk (Kd.R_below (by (with_reducible repeat (first | apply Kd.R_alloc | apply Kd.R_drewN | apply Kd.R_drew)); exact HO152.out) hb); have n4_ := Aside0.mk (below_step (by repeat (first | (with_reducible first | exact HB.out | apply below_alloc | apply pw_below_drewN | apply below_drew1) | exact HB.out)) hb); clear HO141; clear HO144; clear HO148; clear HO152; clear HB; have HO141 := n0_; have HO144 := n1_; have HO148 := n2_; have HO152 := n3_; have HB := n4_; clear n0_ n1_ n2_ n3_ n4_; (try clear hb); (try clear hb2); (try clear hk); (try clear hi); obtain ⟨Ao26, co26, eo26⟩ := Kd.R_slice HO148.out; subst eo26) | (go_at_call 15; (with_reducible refine (loesslaw14_eq.calls k _ _ y139 _ _ t145 true _ ?side1 ?side2 ?side3 ?side4 A9.out).mono ?_); (case side1 => repeat (first | exact (Kd.R_reads' HO141.out).2.2 | (with_reducible refine Kd.C_alloc ?_ _) | (with_reducible refine Kd.C_drewN ?_ _) | (with_reducible refine Kd.C_drew ?_))); (case side2 => exact (Kd.R_reads' HO141.out).2.1); (case side3 => repeat (first | exact (Kd.R_reads' HO148.out).2.2 | (with_reducible refine Kd.C_alloc ?_ _) | (with_reducible refine Kd.C_drewN ?_ _) | (with_reducible refine Kd.C_drew ?_))); (case side4 => exact (Kd.R_reads' HO148.out).2.1); rintro e w' ⟨rfl, ⟨nd, rfl⟩⟩) | (go_at_call 16; (with_reducible refine (dir_Find.calls _ _ y139 (⟨#[97]⟩ : ByteArray) t156 _ ?side1 ?side2 A12.out).mono ?_); (case side1 => repeat (first | exact (Kd.R_reads' HO141.out).2.2 | (with_reducible refine Kd.C_alloc ?_ _) | (with_reducible refine Kd.C_drewN ?_ _) | (with_reducible refine Kd.C_drew ?_))); (case side2 => exact (Kd.R_reads' HO141.out).2.1); rintro e w27 ⟨rfl, hb⟩; have n0_ := Aside0.mk (Kd.R_below (by (with_reducible repeat (first | apply Kd.R_alloc | apply Kd.R_drewN | apply Kd.R_drew)); exact HO141.out) hb); have n1_ := Aside0.mk (Kd.R_below (by (with_reducible repeat (first | apply Kd.R_alloc | apply Kd.R_drewN | apply Kd.R_drew)); exact HO144.out) hb); have n2_ := Aside0.mk (Kd.R_below (by (with_reducible repeat (first | apply Kd.R_alloc | apply Kd.R_drewN | apply Kd.R_drew)); exact HO148.out) hb); have n3_ := Aside0.mk (Kd.R_below (by (with_reducible repeat (first | apply Kd.R_alloc | apply Kd.R_drewN | apply Kd.R_drew)); exact HO152.out) hb); have n4_ := Aside0.mk (below_step (by repeat (first | (with_reducible first | exact HB.out | apply below_alloc | apply pw_below_drewN | apply below_drew1) | exact HB.out)) hb); clear HO141; clear HO144; clear HO148; clear HO152; clear HB; have HO141 := n0_; have HO144 := n1_; have HO148 := n2_; have HO152 := n3_; have HB := n4_; clear n0_ n1_ n2_ n3_ n4_; (try clear hb); (try clear hb2); (try clear hk); (try clear hi)) | (go_at_call 16; (with_reducible refine (dir_Find.calls _ _ y139 (⟨#[98]⟩ : ByteArray) t157 _ ?side1 ?side2 A14.out).mono ?_); (case side1 => repeat (first | exact (Kd.R_reads' HO141.out).2.2 | (with_reducible refine Kd.C_alloc ?_ _) | (with_reducible refine Kd.C_drewN ?_ _) | (with_reducible refine Kd.C_drew ?_))); (case side2 => exact (Kd.R_reads' HO141.out).2.1); rintro e w28 ⟨rfl, hb⟩; have n0_ := Aside0.mk (Kd.R_below (by (with_reducible repeat (first | apply Kd.R_alloc | apply Kd.R_drewN | apply Kd.R_drew)); exact HO141.out) hb); have n1_ := Aside0.mk (Kd.R_below (by (with_reducible repeat (first | apply Kd.R_alloc | apply Kd.R_drewN | apply Kd.R_drew)); exact HO144.out) hb); have n2_ := Aside0.mk (Kd.R_below (by (with_reducible repeat (first | apply Kd.R_alloc | apply Kd.R_drewN | apply Kd.R_drew)); exact HO148.out) hb); have n3_ := Aside0.mk (Kd.R_below (by (with_reducible repeat (first | apply Kd.R_alloc | apply Kd.R_drewN | apply Kd.R_drew)); exact HO152.out) hb); have n4_ := Aside0.mk (below_step (by repeat (first | (with_reducible first | exact HB.out | apply below_alloc | apply pw_below_drewN | apply below_drew1) | exact HB.out)) hb); clear HO141; clear HO144; clear HO148; clear HO152; clear HB; have HO141 := n0_; have HO144 := n1_; have HO148 := n2_; have HO152 := n3_; have HB := n4_; clear n0_ n1_ n2_ n3_ n4_; (try clear hb); (try clear hb2); (try clear hk); (try clear hi)) | (go_at_call 10; (refine (dir_Encode.calls _ _ ([] : List (S32)) t158 _ ?side1 ?side2 A16.out).mono ?_); (case side1 => exact Kd.C_nil _ _); (case side2 => exact Nat.le_refl _); rintro e w29 ⟨v159, rfl, ho0, hb⟩; have n0_ := Aside0.mk (Kd.R_below (by (with_reducible repeat (first | apply Kd.R_alloc | apply Kd.R_drewN | apply Kd.R_drew)); exact HO141.out) hb); have n1_ := Aside0.mk (Kd.R_elder' (by (with_reducible repeat (first | apply Kd.R_alloc | apply Kd.R_drewN | apply Kd.R_drew)); exact HO144.out) (Kd.R_base ho0) hb); have n2_ := Aside0.mk (Kd.R_below (by (with_reducible repeat (first | apply Kd.R_alloc | apply Kd.R_drewN | apply Kd.R_drew)); exact HO148.out) hb); have n3_ := Aside0.mk (Kd.R_below (by (with_reducible repeat (first | apply Kd.R_alloc | apply Kd.R_drewN | apply Kd.R_drew)); exact HO152.out) hb); have n4_ := Aside0.mk (Kd.R_lower (Kd.R_new' ho0 (Kd.R_lt (by (with_reducible repeat (first | apply Kd.R_alloc | apply Kd.R_drewN | apply Kd.R_drew)); exact HO144.out))) (below_size (by repeat (first | (with_reducible first | exact HB.out | apply below_alloc | apply pw_below_drewN | apply below_drew1) | exact HB.out)))); have n5_ := Aside0.mk (below_step (by repeat (first | (with_reducible first | exact HB.out | apply below_alloc | apply pw_below_drewN | apply below_drew1) | exact HB.out)) hb); clear HO141; clear HO144; clear HO148; clear HO152; clear HB; have HO141 := n0_; have HO144 := n1_; have HO148 := n2_; have HO152 := n3_; have HO160 := n4_; have HB := n5_; clear n0_ n1_ n2_ n3_ n4_ n5_; (try clear hb); (try clear hb2); (try clear hk); (try clear hi); (try clear ho0); obtain ⟨Ao30, co30, eo30⟩ := Kd.R_slice HO160.out; subst eo30))
                go_ret
                exact ⟨by first | rfl | (simp [errW_none, errW_some] <;> rfl) | (simp [*, errW_none, errW_some] <;> rfl), by repeat (first | (with_reducible first | exact HB.out | apply below_alloc | apply pw_below_drewN | apply below_drew1) | exact HB.out)⟩
              · rw [if_neg c15] at H
                exact absurd H (by simp)
            · rw [if_neg c13] at H
              exact absurd H (by simp)
          · rw [if_neg c11] at H
            exact absurd H (by simp)
        · replace c10 := Bool.eq_false_iff.mpr c10
          subst c10
          have H1 : (none) = some r := by rw [if_neg (show ¬ (false = true) by decide)] at H; exact H
          clear H
          have H := H1
          clear H1
          exact absurd H (by simp)
      · rw [if_neg c8] at H
        exact absurd H (by simp)
    · replace c7 := Bool.eq_false_iff.mpr c7
      subst c7
      have H1 : (none) = some r := by rw [if_neg (show ¬ (false = true) by decide)] at H; exact H
      clear H
      have H := H1
      clear H1
      exact absurd H (by simp)
  · replace c5 := Bool.eq_false_iff.mpr c5
    subst c5
    have H1 : (none) = some r := by rw [if_neg (show ¬ (false = true) by decide)] at H; exact H
    clear H
    have H := H1
    clear H1
    exact absurd H (by simp)

end Go.Proofs.Ytoffcgdamcchcaa.XDir
