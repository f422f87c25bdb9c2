-- Written by wip/xprint.py, this session's wrapper round the kit's print program. Not trusted: Lean checks it.
import Derived.Test.YtbjkednhoanloaaXKeyx0
import Derived.Test.YtbjkednhoanloaaXKeyx1
import Derived.Test.YtbjkednhoanloaaXKeyx2
import Derived.Test.YtbjkednhoanloaaXKeyx6
namespace Go.Proofs.Ytbjkednhoanloaa.XKey
open Go.RowKit Go.Proofs.Ytbjkednhoanloaa.G Go.Proofs.YtbjkednhoanloaaW.PrintWords Go.Proofs.YtbjkednhoanloaaW.PrintLast Go.Proofs.YtbjkednhoanloaaW.PrintMore
attribute [local go_sem] max2_int min2_int max_two min_two max_three min_three max_four min_four   -- for this text's walks alone
set_option linter.unusedVariables false
set_option linter.unusedSimpArgs false

/-! ### loesslaw5_begun: function 7 -/
def loesslaw5_begun.f (k : Nat)  : Option (Bool) := (key_May.f (⟨#[97]⟩ : ByteArray)).bind fun t113 => (if t113 = true then ((key_May.f (⟨#[]⟩ : ByteArray)).bind fun t114 => (if t114 = true then (some false) else ((key_Less.f (⟨#[97]⟩ : ByteArray) (⟨#[98]⟩ : ByteArray)).bind fun t115 => (if t115 = true then ((key_Less.f (⟨#[97]⟩ : ByteArray) (⟨#[97]⟩ : ByteArray)).bind fun t116 => (if t116 = true then (some false) else ((key_Runes.f k (⟨#[97, 195, 169]⟩ : ByteArray) (⟨#[97, 122]⟩ : ByteArray)).bind fun t117 => (if t117 = 1 then ((key_Runes.f k (⟨#[254]⟩ : ByteArray) (⟨#[255]⟩ : ByteArray)).bind fun t118 => (if t118 = 0 then ((key_Runes.f k (⟨#[97]⟩ : ByteArray) (⟨#[97, 98]⟩ : ByteArray)).bind fun t119 => (if t119 = (-1) then ((key_Fold.f (⟨#[97, 66, 90, 195]⟩ : ByteArray)).bind fun t120 => (some (t120.toList == ([97, 98, 122, 195] : List UInt8)))) else (some false))) else (some false))) else (some false))))) else (some false))))) else (some false))
theorem loesslaw5_begun.mono : ∀ k, LeO (loesslaw5_begun.f k ) (loesslaw5_begun.f (k + 1) ) := by
  intro  k
  unfold loesslaw5_begun.f
  repeat' first
      | (with_reducible exact key_Runes.mono _ _ _)
      | (with_reducible exact LeO.refl _)
      | (with_reducible exact LeO.none _)
      | (with_reducible refine LeO.ite ?_ ?_)
      | (with_reducible refine LeO.bind ?_ (fun _ => ?_))
      | exact key_Runes.mono _ _ _
      | exact LeO.none _
      | refine LeO.ite ?_ ?_
      | refine LeO.bind ?_ (fun _ => ?_)
set_option maxHeartbeats 8000000 in
set_option maxRecDepth 100000 in
theorem loesslaw5_begun.calls (k : Nat)  (r : Bool) (w : World) (h : loesslaw5_begun.f k  = some r) :
    Calls Try.prog 7 #[] w fun e w' => e = .returned (.bool r) ∧ Below w.heap.size w w' := by
  have HB := Aside0.mk (Below.refl w.heap.size w)
  have H : ((key_May.f (⟨#[97]⟩ : ByteArray)).bind fun t113 => (if t113 = true then ((key_May.f (⟨#[]⟩ : ByteArray)).bind fun t114 => (if t114 = true then (some false) else ((key_Less.f (⟨#[97]⟩ : ByteArray) (⟨#[98]⟩ : ByteArray)).bind fun t115 => (if t115 = true then ((key_Less.f (⟨#[97]⟩ : ByteArray) (⟨#[97]⟩ : ByteArray)).bind fun t116 => (if t116 = true then (some false) else ((key_Runes.f k (⟨#[97, 195, 169]⟩ : ByteArray) (⟨#[97, 122]⟩ : ByteArray)).bind fun t117 => (if t117 = 1 then ((key_Runes.f k (⟨#[254]⟩ : ByteArray) (⟨#[255]⟩ : ByteArray)).bind fun t118 => (if t118 = 0 then ((key_Runes.f k (⟨#[97]⟩ : ByteArray) (⟨#[97, 98]⟩ : ByteArray)).bind fun t119 => (if t119 = (-1) then ((key_Fold.f (⟨#[97, 66, 90, 195]⟩ : ByteArray)).bind fun t120 => (some (t120.toList == ([97, 98, 122, 195] : List UInt8)))) else (some false))) else (some false))) else (some false))))) else (some false))))) else (some false))) = some r := h
  clear h
  replace H := Option.bind_eq_some_iff.mp H
  obtain ⟨t113, A10, H⟩ := H
  replace H : (if t113 = true then ((key_May.f (⟨#[]⟩ : ByteArray)).bind fun t114 => (if t114 = true then (some false) else ((key_Less.f (⟨#[97]⟩ : ByteArray) (⟨#[98]⟩ : ByteArray)).bind fun t115 => (if t115 = true then ((key_Less.f (⟨#[97]⟩ : ByteArray) (⟨#[97]⟩ : ByteArray)).bind fun t116 => (if t116 = true then (some false) else ((key_Runes.f k (⟨#[97, 195, 169]⟩ : ByteArray) (⟨#[97, 122]⟩ : ByteArray)).bind fun t117 => (if t117 = 1 then ((key_Runes.f k (⟨#[254]⟩ : ByteArray) (⟨#[255]⟩ : ByteArray)).bind fun t118 => (if t118 = 0 then ((key_Runes.f k (⟨#[97]⟩ : ByteArray) (⟨#[97, 98]⟩ : ByteArray)).bind fun t119 => (if t119 = (-1) then ((key_Fold.f (⟨#[97, 66, 90, 195]⟩ : ByteArray)).bind fun t120 => (some (t120.toList == ([97, 98, 122, 195] : List UInt8)))) else (some false))) else (some false))) else (some false))))) else (some false))))) else (some false)) = some r := H
  have A1 := Aside0.mk A10
  clear A10
  by_cases c2 : t113 = true
  · subst c2
    have H1 : ((key_May.f (⟨#[]⟩ : ByteArray)).bind fun t114 => (if t114 = true then (some false) else ((key_Less.f (⟨#[97]⟩ : ByteArray) (⟨#[98]⟩ : ByteArray)).bind fun t115 => (if t115 = true then ((key_Less.f (⟨#[97]⟩ : ByteArray) (⟨#[97]⟩ : ByteArray)).bind fun t116 => (if t116 = true then (some false) else ((key_Runes.f k (⟨#[97, 195, 169]⟩ : ByteArray) (⟨#[97, 122]⟩ : ByteArray)).bind fun t117 => (if t117 = 1 then ((key_Runes.f k (⟨#[254]⟩ : ByteArray) (⟨#[255]⟩ : ByteArray)).bind fun t118 => (if t118 = 0 then ((key_Runes.f k (⟨#[97]⟩ : ByteArray) (⟨#[97, 98]⟩ : ByteArray)).bind fun t119 => (if t119 = (-1) then ((key_Fold.f (⟨#[97, 66, 90, 195]⟩ : ByteArray)).bind fun t120 => (some (t120.toList == ([97, 98, 122, 195] : List UInt8)))) else (some false))) else (some false))) else (some false))))) else (some false))))) = some r := by rw [if_pos rfl] at H; exact H
    clear H
    have H := H1
    clear H1
    replace H := Option.bind_eq_some_iff.mp H
    obtain ⟨t114, A30, H⟩ := H
    replace H : (if t114 = true then (some false) else ((key_Less.f (⟨#[97]⟩ : ByteArray) (⟨#[98]⟩ : ByteArray)).bind fun t115 => (if t115 = true then ((key_Less.f (⟨#[97]⟩ : ByteArray) (⟨#[97]⟩ : ByteArray)).bind fun t116 => (if t116 = true then (some false) else ((key_Runes.f k (⟨#[97, 195, 169]⟩ : ByteArray) (⟨#[97, 122]⟩ : ByteArray)).bind fun t117 => (if t117 = 1 then ((key_Runes.f k (⟨#[254]⟩ : ByteArray) (⟨#[255]⟩ : ByteArray)).bind fun t118 => (if t118 = 0 then ((key_Runes.f k (⟨#[97]⟩ : ByteArray) (⟨#[97, 98]⟩ : ByteArray)).bind fun t119 => (if t119 = (-1) then ((key_Fold.f (⟨#[97, 66, 90, 195]⟩ : ByteArray)).bind fun t120 => (some (t120.toList == ([97, 98, 122, 195] : List UInt8)))) else (some false))) else (some false))) else (some false))))) else (some false)))) = some r := H
    have A3 := Aside0.mk A30
    clear A30
    by_cases c4 : t114 = true
    · subst c4
      have H1 : (some false) = some r := by rw [if_pos rfl] at H; exact H
      clear H
      have H := H1
      clear H1
      obtain rfl := Option.some.inj H
      go_enter Try.func7, Try.ntmps7
      go_wp2_with (first | ((with_reducible refine gate_callee (f := 9) rfl ?_); refine goesL_ (some 1) rfl rfl Try.func9 (by kernel_rfl) rfl #[.string (⟨#[97]⟩ : ByteArray)] rfl (by (try simp only [List.map_toArray, List.map_cons, List.map_nil]); first | done | rfl | (simp only [List.length_drop, List.length_take]; rfl)) ?_; (with_reducible refine (key_May.calls (⟨#[97]⟩ : ByteArray) true _ A1.out).mono ?_); rintro e w' ⟨rfl, ⟨nd, rfl⟩⟩; refine ⟨_, rfl, ?_⟩) | (go_at_call 9; (with_reducible refine (key_May.calls (⟨#[]⟩ : ByteArray) true _ A3.out).mono ?_); rintro e w' ⟨rfl, ⟨nd, rfl⟩⟩))
      go_ret
      exact ⟨by first | rfl | (simp [errW_none, errW_some] <;> rfl) | (simp [*, errW_none, errW_some] <;> rfl), by repeat (first | (with_reducible first | exact HB.out | apply below_alloc | apply pw_below_drewN | apply below_drew1) | exact HB.out)⟩
    · replace c4 := Bool.eq_false_iff.mpr c4
      subst c4
      have H1 : ((key_Less.f (⟨#[97]⟩ : ByteArray) (⟨#[98]⟩ : ByteArray)).bind fun t115 => (if t115 = true then ((key_Less.f (⟨#[97]⟩ : ByteArray) (⟨#[97]⟩ : ByteArray)).bind fun t116 => (if t116 = true then (some false) else ((key_Runes.f k (⟨#[97, 195, 169]⟩ : ByteArray) (⟨#[97, 122]⟩ : ByteArray)).bind fun t117 => (if t117 = 1 then ((key_Runes.f k (⟨#[254]⟩ : ByteArray) (⟨#[255]⟩ : ByteArray)).bind fun t118 => (if t118 = 0 then ((key_Runes.f k (⟨#[97]⟩ : ByteArray) (⟨#[97, 98]⟩ : ByteArray)).bind fun t119 => (if t119 = (-1) then ((key_Fold.f (⟨#[97, 66, 90, 195]⟩ : ByteArray)).bind fun t120 => (some (t120.toList == ([97, 98, 122, 195] : List UInt8)))) else (some false))) else (some false))) else (some false))))) else (some false))) = some r := by rw [if_neg (show ¬ (false = true) by decide)] at H; exact H
      clear H
      have H := H1
      clear H1
      replace H := Option.bind_eq_some_iff.mp H
      obtain ⟨t115, A50, H⟩ := H
      replace H : (if t115 = true then ((key_Less.f (⟨#[97]⟩ : ByteArray) (⟨#[97]⟩ : ByteArray)).bind fun t116 => (if t116 = true then (some false) else ((key_Runes.f k (⟨#[97, 195, 169]⟩ : ByteArray) (⟨#[97, 122]⟩ : ByteArray)).bind fun t117 => (if t117 = 1 then ((key_Runes.f k (⟨#[254]⟩ : ByteArray) (⟨#[255]⟩ : ByteArray)).bind fun t118 => (if t118 = 0 then ((key_Runes.f k (⟨#[97]⟩ : ByteArray) (⟨#[97, 98]⟩ : ByteArray)).bind fun t119 => (if t119 = (-1) then ((key_Fold.f (⟨#[97, 66, 90, 195]⟩ : ByteArray)).bind fun t120 => (some (t120.toList == ([97, 98, 122, 195] : List UInt8)))) else (some false))) else (some false))) else (some false))))) else (some false)) = some r := H
      have A5 := Aside0.mk A50
      clear A50
      by_cases c6 : t115 = true
      · subst c6
        have H1 : ((key_Less.f (⟨#[97]⟩ : ByteArray) (⟨#[97]⟩ : ByteArray)).bind fun t116 => (if t116 = true then (some false) else ((key_Runes.f k (⟨#[97, 195, 169]⟩ : ByteArray) (⟨#[97, 122]⟩ : ByteArray)).bind fun t117 => (if t117 = 1 then ((key_Runes.f k (⟨#[254]⟩ : ByteArray) (⟨#[255]⟩ : ByteArray)).bind fun t118 => (if t118 = 0 then ((key_Runes.f k (⟨#[97]⟩ : ByteArray) (⟨#[97, 98]⟩ : ByteArray)).bind fun t119 => (if t119 = (-1) then ((key_Fold.f (⟨#[97, 66, 90, 195]⟩ : ByteArray)).bind fun t120 => (some (t120.toList == ([97, 98, 122, 195] : List UInt8)))) else (some false))) else (some false))) else (some false))))) = some r := by rw [if_pos rfl] at H; exact H
        clear H
        have H := H1
        clear H1
        replace H := Option.bind_eq_some_iff.mp H
        obtain ⟨t116, A70, H⟩ := H
        replace H : (if t116 = true then (some false) else ((key_Runes.f k (⟨#[97, 195, 169]⟩ : ByteArray) (⟨#[97, 122]⟩ : ByteArray)).bind fun t117 => (if t117 = 1 then ((key_Runes.f k (⟨#[254]⟩ : ByteArray) (⟨#[255]⟩ : ByteArray)).bind fun t118 => (if t118 = 0 then ((key_Runes.f k (⟨#[97]⟩ : ByteArray) (⟨#[97, 98]⟩ : ByteArray)).bind fun t119 => (if t119 = (-1) then ((key_Fold.f (⟨#[97, 66, 90, 195]⟩ : ByteArray)).bind fun t120 => (some (t120.toList == ([97, 98, 122, 195] : List UInt8)))) else (some false))) else (some false))) else (some false)))) = some r := H
        have A7 := Aside0.mk A70
        clear A70
        by_cases c8 : t116 = true
        · subst c8
          have H1 : (some false) = some r := by rw [if_pos rfl] at H; exact H
          clear H
          have H := H1
          clear H1
          obtain rfl := Option.some.inj H
          go_enter Try.func7, Try.ntmps7
          go_wp2_with (first | ((with_reducible refine gate_callee (f := 9) rfl ?_); refine goesL_ (some 1) rfl rfl Try.func9 (by kernel_rfl) rfl #[.string (⟨#[97]⟩ : ByteArray)] rfl (by (try simp only [List.map_toArray, List.map_cons, List.map_nil]); first | done | rfl | (simp only [List.length_drop, List.length_take]; rfl)) ?_; (with_reducible refine (key_May.calls (⟨#[97]⟩ : ByteArray) true _ A1.out).mono ?_); rintro e w' ⟨rfl, ⟨nd, rfl⟩⟩; refine ⟨_, rfl, ?_⟩) | (go_at_call 9; (with_reducible refine (key_May.calls (⟨#[]⟩ : ByteArray) false _ A3.out).mono ?_); rintro e w' ⟨rfl, ⟨nd, rfl⟩⟩) | (go_at_call 11; (with_reducible refine (key_Less.calls (⟨#[97]⟩ : ByteArray) (⟨#[98]⟩ : ByteArray) true _ A5.out).mono ?_); rintro e w' ⟨rfl, ⟨nd, rfl⟩⟩) | (go_at_call 11; (with_reducible refine (key_Less.calls (⟨#[97]⟩ : ByteArray) (⟨#[97]⟩ : ByteArray) true _ A7.out).mono ?_); rintro e w' ⟨rfl, ⟨nd, rfl⟩⟩))
          go_ret
          exact ⟨by first | rfl | (simp [errW_none, errW_some] <;> rfl) | (simp [*, errW_none, errW_some] <;> rfl), by repeat (first | (with_reducible first | exact HB.out | apply below_alloc | apply pw_below_drewN | apply below_drew1) | exact HB.out)⟩
        · replace c8 := Bool.eq_false_iff.mpr c8
          subst c8
          have H1 : ((key_Runes.f k (⟨#[97, 195, 169]⟩ : ByteArray) (⟨#[97, 122]⟩ : ByteArray)).bind fun t117 => (if t117 = 1 then ((key_Runes.f k (⟨#[254]⟩ : ByteArray) (⟨#[255]⟩ : ByteArray)).bind fun t118 => (if t118 = 0 then ((key_Runes.f k (⟨#[97]⟩ : ByteArray) (⟨#[97, 98]⟩ : ByteArray)).bind fun t119 => (if t119 = (-1) then ((key_Fold.f (⟨#[97, 66, 90, 195]⟩ : ByteArray)).bind fun t120 => (some (t120.toList == ([97, 98, 122, 195] : List UInt8)))) else (some false))) else (some false))) else (some false))) = some r := by rw [if_neg (show ¬ (false = true) by decide)] at H; exact H
          clear H
          have H := H1
          clear H1
          replace H := Option.bind_eq_some_iff.mp H
          obtain ⟨t117, A90, H⟩ := H
          replace H : (if t117 = 1 then ((key_Runes.f k (⟨#[254]⟩ : ByteArray) (⟨#[255]⟩ : ByteArray)).bind fun t118 => (if t118 = 0 then ((key_Runes.f k (⟨#[97]⟩ : ByteArray) (⟨#[97, 98]⟩ : ByteArray)).bind fun t119 => (if t119 = (-1) then ((key_Fold.f (⟨#[97, 66, 90, 195]⟩ : ByteArray)).bind fun t120 => (some (t120.toList == ([97, 98, 122, 195] : List UInt8)))) else (some false))) else (some false))) else (some false)) = some r := H
          have A9 := Aside0.mk A90
          clear A90
          by_cases c10 : t117 = 1
          · rw [if_pos c10] at H
            have c10b0 : (t117 == 1) = true := beq_iff_eq.mpr c10
            have c10b1 : (t117 != 1) = false := bne_eq_false_iff_eq.mpr c10
            clear c10
            replace H := Option.bind_eq_some_iff.mp H
            obtain ⟨t118, A110, H⟩ := H
            replace H : (if t118 = 0 then ((key_Runes.f k (⟨#[97]⟩ : ByteArray) (⟨#[97, 98]⟩ : ByteArray)).bind fun t119 => (if t119 = (-1) then ((key_Fold.f (⟨#[97, 66, 90, 195]⟩ : ByteArray)).bind fun t120 => (some (t120.toList == ([97, 98, 122, 195] : List UInt8)))) else (some false))) else (some false)) = some r := H
            have A11 := Aside0.mk A110
            clear A110
            by_cases c12 : t118 = 0
            · rw [if_pos c12] at H
              have c12b0 : (t118 == 0) = true := beq_iff_eq.mpr c12
              have c12b1 : (t118 != 0) = false := bne_eq_false_iff_eq.mpr c12
              clear c12
              replace H := Option.bind_eq_some_iff.mp H
              obtain ⟨t119, A130, H⟩ := H
              replace H : (if t119 = (-1) then ((key_Fold.f (⟨#[97, 66, 90, 195]⟩ : ByteArray)).bind fun t120 => (some (t120.toList == ([97, 98, 122, 195] : List UInt8)))) else (some false)) = some r := H
              have A13 := Aside0.mk A130
              clear A130
              by_cases c14 : t119 = (-1)
              · rw [if_pos c14] at H
                have c14b0 : (t119 == (-1)) = true := beq_iff_eq.mpr c14
                have c14b1 : (t119 != (-1)) = false := bne_eq_false_iff_eq.mpr c14
                clear c14
                replace H := Option.bind_eq_some_iff.mp H
                obtain ⟨t120, A150, H⟩ := H
                replace H : (some (t120.toList == ([97, 98, 122, 195] : List UInt8))) = some r := H
                have A15 := Aside0.mk A150
                clear A150
                obtain rfl := Option.some.inj H
                go_enter Try.func7, Try.ntmps7
                go_wp2_with (first | ((with_reducible refine gate_callee (f := 9) rfl ?_); refine goesL_ (some 1) rfl rfl Try.func9 (by kernel_rfl) rfl #[.string (⟨#[97]⟩ : ByteArray)] rfl (by (try simp only [List.map_toArray, List.map_cons, List.map_nil]); first | done | rfl | (simp only [List.length_drop, List.length_take]; rfl)) ?_; (with_reducible refine (key_May.calls (⟨#[97]⟩ : ByteArray) true _ A1.out).mono ?_); rintro e w' ⟨rfl, ⟨nd, rfl⟩⟩; refine ⟨_, rfl, ?_⟩) | (go_at_call 9; (with_reducible refine (key_May.calls (⟨#[]⟩ : ByteArray) false _ A3.out).mono ?_); rintro e w' ⟨rfl, ⟨nd, rfl⟩⟩) | (go_at_call 11; (with_reducible refine (key_Less.calls (⟨#[97]⟩ : ByteArray) (⟨#[98]⟩ : ByteArray) true _ A5.out).mono ?_); rintro e w' ⟨rfl, ⟨nd, rfl⟩⟩) | (go_at_call 11; (with_reducible refine (key_Less.calls (⟨#[97]⟩ : ByteArray) (⟨#[97]⟩ : ByteArray) false _ A7.out).mono ?_); rintro e w' ⟨rfl, ⟨nd, rfl⟩⟩) | (go_at_call 12; (with_reducible refine (key_Runes.calls k (⟨#[97, 195, 169]⟩ : ByteArray) (⟨#[97, 122]⟩ : ByteArray) t117 _ A9.out).mono ?_); rintro e w16 ⟨rfl, hb⟩; have n0_ := Aside0.mk (below_step (by repeat (first | (with_reducible first | exact HB.out | apply below_alloc | apply pw_below_drewN | apply below_drew1) | exact HB.out)) hb); clear HB; have HB := n0_; clear n0_; (try clear hb); (try clear hb2); (try clear hk); (try clear hi)) | (go_at_call 12; (with_reducible refine (key_Runes.calls k (⟨#[254]⟩ : ByteArray) (⟨#[255]⟩ : ByteArray) t118 _ A11.out).mono ?_); rintro e w17 ⟨rfl, hb⟩; have n0_ := Aside0.mk (below_step (by repeat (first | (with_reducible first | exact HB.out | apply below_alloc | apply pw_below_drewN | apply below_drew1) | exact HB.out)) hb); clear HB; have HB := n0_; clear n0_; (try clear hb); (try clear hb2); (try clear hk); (try clear hi)) | (go_at_call 12; (with_reducible refine (key_Runes.calls k (⟨#[97]⟩ : ByteArray) (⟨#[97, 98]⟩ : ByteArray) t119 _ A13.out).mono ?_); rintro e w18 ⟨rfl, hb⟩; have n0_ := Aside0.mk (below_step (by repeat (first | (with_reducible first | exact HB.out | apply below_alloc | apply pw_below_drewN | apply below_drew1) | exact HB.out)) hb); clear HB; have HB := n0_; clear n0_; (try clear hb); (try clear hb2); (try clear hk); (try clear hi)) | (go_at_call 14; (with_reducible refine (key_Fold.calls (⟨#[97, 66, 90, 195]⟩ : ByteArray) t120 _ A15.out).mono ?_); rintro e w19 ⟨rfl, hb⟩; have n0_ := Aside0.mk (below_step (by repeat (first | (with_reducible first | exact HB.out | apply below_alloc | apply pw_below_drewN | apply below_drew1) | exact HB.out)) hb); clear HB; have HB := n0_; clear n0_; (try clear hb); (try clear hb2); (try clear hk); (try clear hi)))
                go_ret
                exact ⟨by first | rfl | (simp [errW_none, errW_some] <;> rfl) | (simp [*, errW_none, errW_some] <;> rfl), by repeat (first | (with_reducible first | exact HB.out | apply below_alloc | apply pw_below_drewN | apply below_drew1) | exact HB.out)⟩
              · rw [if_neg c14] at H
                have c14b0 : (t119 == (-1)) = false := beq_eq_false_iff_ne.mpr c14
                have c14b1 : (t119 != (-1)) = true := bne_iff_ne.mpr c14
                obtain rfl := Option.some.inj H
                go_enter Try.func7, Try.ntmps7
                go_wp2_with (first | ((with_reducible refine gate_callee (f := 9) rfl ?_); refine goesL_ (some 1) rfl rfl Try.func9 (by kernel_rfl) rfl #[.string (⟨#[97]⟩ : ByteArray)] rfl (by (try simp only [List.map_toArray, List.map_cons, List.map_nil]); first | done | rfl | (simp only [List.length_drop, List.length_take]; rfl)) ?_; (with_reducible refine (key_May.calls (⟨#[97]⟩ : ByteArray) true _ A1.out).mono ?_); rintro e w' ⟨rfl, ⟨nd, rfl⟩⟩; refine ⟨_, rfl, ?_⟩) | (go_at_call 9; (with_reducible refine (key_May.calls (⟨#[]⟩ : ByteArray) false _ A3.out).mono ?_); rintro e w' ⟨rfl, ⟨nd, rfl⟩⟩) | (go_at_call 11; (with_reducible refine (key_Less.calls (⟨#[97]⟩ : ByteArray) (⟨#[98]⟩ : ByteArray) true _ A5.out).mono ?_); rintro e w' ⟨rfl, ⟨nd, rfl⟩⟩) | (go_at_call 11; (with_reducible refine (key_Less.calls (⟨#[97]⟩ : ByteArray) (⟨#[97]⟩ : ByteArray) false _ A7.out).mono ?_); rintro e w' ⟨rfl, ⟨nd, rfl⟩⟩) | (go_at_call 12; (with_reducible refine (key_Runes.calls k (⟨#[97, 195, 169]⟩ : ByteArray) (⟨#[97, 122]⟩ : ByteArray) t117 _ A9.out).mono ?_); rintro e w20 ⟨rfl, hb⟩; have n0_ := Aside0.mk (below_step (by repeat (first | (with_reducible first | exact HB.out | apply below_alloc | apply pw_below_drewN | apply below_drew1) | exact HB.out)) hb); clear HB; have HB := n0_; clear n0_; (try clear hb); (try clear hb2); (try clear hk); (try clear hi)) | (go_at_call 12; (with_reducible refine (key_Runes.calls k (⟨#[254]⟩ : ByteArray) (⟨#[255]⟩ : ByteArray) t118 _ A11.out).mono ?_); rintro e w21 ⟨rfl, hb⟩; have n0_ := Aside0.mk (below_step (by repeat (first | (with_reducible first | exact HB.out | apply below_alloc | apply pw_below_drewN | apply below_drew1) | exact HB.out)) hb); clear HB; have HB := n0_; clear n0_; (try clear hb); (try clear hb2); (try clear hk); (try clear hi)) | (go_at_call 12; (with_reducible refine (key_Runes.calls k (⟨#[97]⟩ : ByteArray) (⟨#[97, 98]⟩ : ByteArray) t119 _ A13.out).mono ?_); rintro e w22 ⟨rfl, hb⟩; have n0_ := Aside0.mk (below_step (by repeat (first | (with_reducible first | exact HB.out | apply below_alloc | apply pw_below_drewN | apply below_drew1) | exact HB.out)) hb); clear HB; have HB := n0_; clear n0_; (try clear hb); (try clear hb2); (try clear hk); (try clear hi)))
                go_ret
                exact ⟨by first | rfl | (simp [errW_none, errW_some] <;> rfl) | (simp [*, errW_none, errW_some] <;> rfl), by repeat (first | (with_reducible first | exact HB.out | apply below_alloc | apply pw_below_drewN | apply below_drew1) | exact HB.out)⟩
            · rw [if_neg c12] at H
              have c12b0 : (t118 == 0) = false := beq_eq_false_iff_ne.mpr c12
              have c12b1 : (t118 != 0) = true := bne_iff_ne.mpr c12
              obtain rfl := Option.some.inj H
              go_enter Try.func7, Try.ntmps7
              go_wp2_with (first | ((with_reducible refine gate_callee (f := 9) rfl ?_); refine goesL_ (some 1) rfl rfl Try.func9 (by kernel_rfl) rfl #[.string (⟨#[97]⟩ : ByteArray)] rfl (by (try simp only [List.map_toArray, List.map_cons, List.map_nil]); first | done | rfl | (simp only [List.length_drop, List.length_take]; rfl)) ?_; (with_reducible refine (key_May.calls (⟨#[97]⟩ : ByteArray) true _ A1.out).mono ?_); rintro e w' ⟨rfl, ⟨nd, rfl⟩⟩; refine ⟨_, rfl, ?_⟩) | (go_at_call 9; (with_reducible refine (key_May.calls (⟨#[]⟩ : ByteArray) false _ A3.out).mono ?_); rintro e w' ⟨rfl, ⟨nd, rfl⟩⟩) | (go_at_call 11; (with_reducible refine (key_Less.calls (⟨#[97]⟩ : ByteArray) (⟨#[98]⟩ : ByteArray) true _ A5.out).mono ?_); rintro e w' ⟨rfl, ⟨nd, rfl⟩⟩) | (go_at_call 11; (with_reducible refine (key_Less.calls (⟨#[97]⟩ : ByteArray) (⟨#[97]⟩ : ByteArray) false _ A7.out).mono ?_); rintro e w' ⟨rfl, ⟨nd, rfl⟩⟩) | (go_at_call 12; (with_reducible refine (key_Runes.calls k (⟨#[97, 195, 169]⟩ : ByteArray) (⟨#[97, 122]⟩ : ByteArray) t117 _ A9.out).mono ?_); rintro e w23 ⟨rfl, hb⟩; have n0_ := Aside0.mk (below_step (by repeat (first | (with_reducible first | exact HB.out | apply below_alloc | apply pw_below_drewN | apply below_drew1) | exact HB.out)) hb); clear HB; have HB := n0_; clear n0_; (try clear hb); (try clear hb2); (try clear hk); (try clear hi)) | (go_at_call 12; (with_reducible refine (key_Runes.calls k (⟨#[254]⟩ : ByteArray) (⟨#[255]⟩ : ByteArray) t118 _ A11.out).mono ?_); rintro e w24 ⟨rfl, hb⟩; have n0_ := Aside0.mk (below_step (by repeat (first | (with_reducible first | exact HB.out | apply below_alloc | apply pw_below_drewN | apply below_drew1) | exact HB.out)) hb); clear HB; have HB := n0_; clear n0_; (try clear hb); (try clear hb2); (try clear hk); (try clear hi)))
              go_ret
              exact ⟨by first | rfl | (simp [errW_none, errW_some] <;> rfl) | (simp [*, errW_none, errW_some] <;> rfl), by repeat (first | (with_reducible first | exact HB.out | apply below_alloc | apply pw_below_drewN | apply below_drew1) | exact HB.out)⟩
          · rw [if_neg c10] at H
            have c10b0 : (t117 == 1) = false := beq_eq_false_iff_ne.mpr c10
            have c10b1 : (t117 != 1) = true := bne_iff_ne.mpr c10
            obtain rfl := Option.some.inj H
            go_enter Try.func7, Try.ntmps7
            go_wp2_with (first | ((with_reducible refine gate_callee (f := 9) rfl ?_); refine goesL_ (some 1) rfl rfl Try.func9 (by kernel_rfl) rfl #[.string (⟨#[97]⟩ : ByteArray)] rfl (by (try simp only [List.map_toArray, List.map_cons, List.map_nil]); first | done | rfl | (simp only [List.length_drop, List.length_take]; rfl)) ?_; (with_reducible refine (key_May.calls (⟨#[97]⟩ : ByteArray) true _ A1.out).mono ?_); rintro e w' ⟨rfl, ⟨nd, rfl⟩⟩; refine ⟨_, rfl, ?_⟩) | (go_at_call 9; (with_reducible refine (key_May.calls (⟨#[]⟩ : ByteArray) false _ A3.out).mono ?_); rintro e w' ⟨rfl, ⟨nd, rfl⟩⟩) | (go_at_call 11; (with_reducible refine (key_Less.calls (⟨#[97]⟩ : ByteArray) (⟨#[98]⟩ : ByteArray) true _ A5.out).mono ?_); rintro e w' ⟨rfl, ⟨nd, rfl⟩⟩) | (go_at_call 11; (with_reducible refine (key_Less.calls (⟨#[97]⟩ : ByteArray) (⟨#[97]⟩ : ByteArray) false _ A7.out).mono ?_); rintro e w' ⟨rfl, ⟨nd, rfl⟩⟩) | (go_at_call 12; (with_reducible refine (key_Runes.calls k (⟨#[97, 195, 169]⟩ : ByteArray) (⟨#[97, 122]⟩ : ByteArray) t117 _ A9.out).mono ?_); rintro e w25 ⟨rfl, hb⟩; have n0_ := Aside0.mk (below_step (by repeat (first | (with_reducible first | exact HB.out | apply below_alloc | apply pw_below_drewN | apply below_drew1) | exact HB.out)) hb); clear HB; have HB := n0_; clear n0_; (try clear hb); (try clear hb2); (try clear hk); (try clear hi)))
            go_ret
            exact ⟨by first | rfl | (simp [errW_none, errW_some] <;> rfl) | (simp [*, errW_none, errW_some] <;> rfl), by repeat (first | (with_reducible first | exact HB.out | apply below_alloc | apply pw_below_drewN | apply below_drew1) | exact HB.out)⟩
      · replace c6 := Bool.eq_false_iff.mpr c6
        subst c6
        have H1 : (some false) = some r := by rw [if_neg (show ¬ (false = true) by decide)] at H; exact H
        clear H
        have H := H1
        clear H1
        obtain rfl := Option.some.inj H
        go_enter Try.func7, Try.ntmps7
        go_wp2_with (first | ((with_reducible refine gate_callee (f := 9) rfl ?_); refine goesL_ (some 1) rfl rfl Try.func9 (by kernel_rfl) rfl #[.string (⟨#[97]⟩ : ByteArray)] rfl (by (try simp only [List.map_toArray, List.map_cons, List.map_nil]); first | done | rfl | (simp only [List.length_drop, List.length_take]; rfl)) ?_; (with_reducible refine (key_May.calls (⟨#[97]⟩ : ByteArray) true _ A1.out).mono ?_); rintro e w' ⟨rfl, ⟨nd, rfl⟩⟩; refine ⟨_, rfl, ?_⟩) | (go_at_call 9; (with_reducible refine (key_May.calls (⟨#[]⟩ : ByteArray) false _ A3.out).mono ?_); rintro e w' ⟨rfl, ⟨nd, rfl⟩⟩) | (go_at_call 11; (with_reducible refine (key_Less.calls (⟨#[97]⟩ : ByteArray) (⟨#[98]⟩ : ByteArray) false _ A5.out).mono ?_); rintro e w' ⟨rfl, ⟨nd, rfl⟩⟩))
        go_ret
        exact ⟨by first | rfl | (simp [errW_none, errW_some] <;> rfl) | (simp [*, errW_none, errW_some] <;> rfl), by repeat (first | (with_reducible first | exact HB.out | apply below_alloc | apply pw_below_drewN | apply below_drew1) | exact HB.out)⟩
  · replace c2 := Bool.eq_false_iff.mpr c2
    subst c2
    have H1 : (some false) = some r := by rw [if_neg (show ¬ (false = true) by decide)] at H; exact H
    clear H
    have H := H1
    clear H1
    obtain rfl := Option.some.inj H
    go_enter Try.func7, Try.ntmps7
    go_wp2_with (first | ((with_reducible refine gate_callee (f := 9) rfl ?_); refine goesL_ (some 1) rfl rfl Try.func9 (by kernel_rfl) rfl #[.string (⟨#[97]⟩ : ByteArray)] rfl (by (try simp only [List.map_toArray, List.map_cons, List.map_nil]); first | done | rfl | (simp only [List.length_drop, List.length_take]; rfl)) ?_; (with_reducible refine (key_May.calls (⟨#[97]⟩ : ByteArray) false _ A1.out).mono ?_); rintro e w' ⟨rfl, ⟨nd, rfl⟩⟩; refine ⟨_, rfl, ?_⟩))
    go_ret
    exact ⟨by first | rfl | (simp [errW_none, errW_some] <;> rfl) | (simp [*, errW_none, errW_some] <;> rfl), by repeat (first | (with_reducible first | exact HB.out | apply below_alloc | apply pw_below_drewN | apply below_drew1) | exact HB.out)⟩

end Go.Proofs.Ytbjkednhoanloaa.XKey
