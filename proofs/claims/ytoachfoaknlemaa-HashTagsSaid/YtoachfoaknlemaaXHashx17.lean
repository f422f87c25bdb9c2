-- Written by wip/xprint.py, this session's wrapper round the kit's print program. Not trusted: Lean checks it.
import Derived.Test.YtoachfoaknlemaaXHashx0
import Derived.Test.YtoachfoaknlemaaXHashx5
import Derived.Test.YtoachfoaknlemaaXHashx6
import Derived.Test.YtoachfoaknlemaaXHashx8
namespace Go.Proofs.Ytoachfoaknlemaa.XHash
open Go.RowKit Go.Proofs.Ytoachfoaknlemaa.G Go.Proofs.YtoachfoaknlemaaW.PrintWords Go.Proofs.YtoachfoaknlemaaW.PrintLast Go.Proofs.YtoachfoaknlemaaW.PrintMore
attribute [local go_sem] max2_int min2_int max_two min_two max_three min_three max_four min_four   -- for this text's walks alone
set_option linter.unusedVariables false
set_option linter.unusedSimpArgs false

/-! ### loesslaw9_HashTags: function 7 -/
def loesslaw9_HashTags.f (k : Nat) (a0 : Int) (a1 : Int) : Option (Bool) := (loesslaw9_begun.f k).bind fun t164 => (if t164 = true then ((hash_First.f (Go.bits .or .u64 (Go.bits .and .u64 a0 8388607) (IntKind.u64.wrap (a1 * 8388608)))).bind fun t165 => (if t165 = (wrap64 (Go.bits .and .u64 a0 7)) then ((hash_Tag.f (Go.bits .or .u64 (Go.bits .and .u64 a0 8388607) (IntKind.u64.wrap (a1 * 8388608)))).bind fun t166 => (some (t166 == (wrap64 (Go.bits .and .u64 (a0 / 256) 32767))))) else (some false))) else (some false))
theorem loesslaw9_HashTags.mono : ∀ a0 a1 k, LeO (loesslaw9_HashTags.f k a0 a1) (loesslaw9_HashTags.f (k + 1) a0 a1) := by
  intro a0 a1 k
  unfold loesslaw9_HashTags.f
  repeat' first
      | (with_reducible exact loesslaw9_begun.mono _)
      | (with_reducible exact LeO.refl _)
      | (with_reducible exact LeO.none _)
      | (with_reducible refine LeO.ite ?_ ?_)
      | (with_reducible refine LeO.bind ?_ (fun _ => ?_))
      | exact loesslaw9_begun.mono _
      | exact LeO.none _
      | refine LeO.ite ?_ ?_
      | refine LeO.bind ?_ (fun _ => ?_)
set_option maxHeartbeats 8000000 in
set_option maxRecDepth 100000 in
theorem loesslaw9_HashTags.calls (k : Nat) (a0 : Int) (a1 : Int) (r : Bool) (w : World) (h : loesslaw9_HashTags.f k a0 a1 = some r) :
    Calls Try.prog 7 #[.int .u64 a0, .int .u64 a1] w fun e w' => e = .returned (.bool r) ∧ Below w.heap.size w w' := by
  have HB := Aside0.mk (Below.refl w.heap.size w)
  have H : ((loesslaw9_begun.f k).bind fun t164 => (if t164 = true then ((hash_First.f (Go.bits .or .u64 (Go.bits .and .u64 a0 8388607) (IntKind.u64.wrap (a1 * 8388608)))).bind fun t165 => (if t165 = (wrap64 (Go.bits .and .u64 a0 7)) then ((hash_Tag.f (Go.bits .or .u64 (Go.bits .and .u64 a0 8388607) (IntKind.u64.wrap (a1 * 8388608)))).bind fun t166 => (some (t166 == (wrap64 (Go.bits .and .u64 (a0 / 256) 32767))))) else (some false))) else (some false))) = some r := h
  clear h
  replace H := Option.bind_eq_some_iff.mp H
  obtain ⟨t164, A30, H⟩ := H
  replace H : (if t164 = true then ((hash_First.f (Go.bits .or .u64 (Go.bits .and .u64 a0 8388607) (IntKind.u64.wrap (a1 * 8388608)))).bind fun t165 => (if t165 = (wrap64 (Go.bits .and .u64 a0 7)) then ((hash_Tag.f (Go.bits .or .u64 (Go.bits .and .u64 a0 8388607) (IntKind.u64.wrap (a1 * 8388608)))).bind fun t166 => (some (t166 == (wrap64 (Go.bits .and .u64 (a0 / 256) 32767))))) else (some false))) else (some false)) = some r := H
  have A3 := Aside0.mk A30
  clear A30
  by_cases c4 : t164 = true
  · subst c4
    have H1 : ((hash_First.f (Go.bits .or .u64 (Go.bits .and .u64 a0 8388607) (IntKind.u64.wrap (a1 * 8388608)))).bind fun t165 => (if t165 = (wrap64 (Go.bits .and .u64 a0 7)) then ((hash_Tag.f (Go.bits .or .u64 (Go.bits .and .u64 a0 8388607) (IntKind.u64.wrap (a1 * 8388608)))).bind fun t166 => (some (t166 == (wrap64 (Go.bits .and .u64 (a0 / 256) 32767))))) else (some false))) = some r := by rw [if_pos rfl] at H; exact H
    clear H
    have H := H1
    clear H1
    replace H := Option.bind_eq_some_iff.mp H
    obtain ⟨t165, A50, H⟩ := H
    replace H : (if t165 = (wrap64 (Go.bits .and .u64 a0 7)) then ((hash_Tag.f (Go.bits .or .u64 (Go.bits .and .u64 a0 8388607) (IntKind.u64.wrap (a1 * 8388608)))).bind fun t166 => (some (t166 == (wrap64 (Go.bits .and .u64 (a0 / 256) 32767))))) else (some false)) = some r := H
    have A5 := Aside0.mk A50
    clear A50
    by_cases c6 : t165 = (wrap64 (Go.bits .and .u64 a0 7))
    · rw [if_pos c6] at H
      have c6b0 : (t165 == (wrap64 (Go.bits .and .u64 a0 7))) = true := beq_iff_eq.mpr c6
      have c6b1 : (t165 != (wrap64 (Go.bits .and .u64 a0 7))) = false := bne_eq_false_iff_eq.mpr c6
      clear c6
      replace H := Option.bind_eq_some_iff.mp H
      obtain ⟨t166, A70, H⟩ := H
      replace H : (some (t166 == (wrap64 (Go.bits .and .u64 (a0 / 256) 32767)))) = some r := H
      have A7 := Aside0.mk A70
      clear A70
      obtain rfl := Option.some.inj H
      go_enter Try.func7, Try.ntmps7
      go_wp2_with (first | ((with_reducible refine gate_callee (f := 9) rfl ?_); refine goesL_ (some 7) rfl rfl Try.func9 (by kernel_rfl) rfl #[] rfl (by (try simp only [List.map_toArray, List.map_cons, List.map_nil]); first | done | rfl | (simp only [List.length_drop, List.length_take]; rfl)) ?_; (with_reducible refine (loesslaw9_begun.calls k  true _ A3.out).mono ?_); rintro e w8 ⟨rfl, hb⟩; refine ⟨_, rfl, ?_⟩; have n0_ := Aside0.mk (below_step (by repeat (first | (with_reducible first | exact HB.out | apply below_alloc | apply pw_below_drewN | apply below_drew1) | exact HB.out)) hb); clear HB; have HB := n0_; clear n0_; (try clear hb); (try clear hb2); (try clear hk); (try clear hi)) | ((with_reducible refine gate_callee (f := 13) rfl ?_); refine goesL_ (some 16) rfl rfl Try.func13 (by kernel_rfl) rfl #[.int .u64 (Go.bits .or .u64 (Go.bits .and .u64 a0 8388607) (IntKind.u64.wrap (a1 * 8388608)))] rfl (by (try simp only [List.map_toArray, List.map_cons, List.map_nil]); first | done | rfl | (simp only [List.length_drop, List.length_take]; rfl)) ?_; (with_reducible refine (hash_First.calls (Go.bits .or .u64 (Go.bits .and .u64 a0 8388607) (IntKind.u64.wrap (a1 * 8388608))) t165 _ A5.out).mono ?_); rintro e w' ⟨rfl, ⟨nd, rfl⟩⟩; refine ⟨_, rfl, ?_⟩) | (go_at_call 15; (with_reducible refine (hash_Tag.calls (Go.bits .or .u64 (Go.bits .and .u64 a0 8388607) (IntKind.u64.wrap (a1 * 8388608))) t166 _ A7.out).mono ?_); rintro e w' ⟨rfl, ⟨nd, rfl⟩⟩))
      go_ret
      exact ⟨by first | rfl | (simp [errW_none, errW_some] <;> rfl) | (simp [*, errW_none, errW_some] <;> rfl), by repeat (first | (with_reducible first | exact HB.out | apply below_alloc | apply pw_below_drewN | apply below_drew1) | exact HB.out)⟩
    · rw [if_neg c6] at H
      have c6b0 : (t165 == (wrap64 (Go.bits .and .u64 a0 7))) = false := beq_eq_false_iff_ne.mpr c6
      have c6b1 : (t165 != (wrap64 (Go.bits .and .u64 a0 7))) = true := bne_iff_ne.mpr c6
      obtain rfl := Option.some.inj H
      go_enter Try.func7, Try.ntmps7
      go_wp2_with (first | ((with_reducible refine gate_callee (f := 9) rfl ?_); refine goesL_ (some 7) rfl rfl Try.func9 (by kernel_rfl) rfl #[] rfl (by (try simp only [List.map_toArray, List.map_cons, List.map_nil]); first | done | rfl | (simp only [List.length_drop, List.length_take]; rfl)) ?_; (with_reducible refine (loesslaw9_begun.calls k  true _ A3.out).mono ?_); rintro e w9 ⟨rfl, hb⟩; refine ⟨_, rfl, ?_⟩; have n0_ := Aside0.mk (below_step (by repeat (first | (with_reducible first | exact HB.out | apply below_alloc | apply pw_below_drewN | apply below_drew1) | exact HB.out)) hb); clear HB; have HB := n0_; clear n0_; (try clear hb); (try clear hb2); (try clear hk); (try clear hi)) | ((with_reducible refine gate_callee (f := 13) rfl ?_); refine goesL_ (some 16) rfl rfl Try.func13 (by kernel_rfl) rfl #[.int .u64 (Go.bits .or .u64 (Go.bits .and .u64 a0 8388607) (IntKind.u64.wrap (a1 * 8388608)))] rfl (by (try simp only [List.map_toArray, List.map_cons, List.map_nil]); first | done | rfl | (simp only [List.length_drop, List.length_take]; rfl)) ?_; (with_reducible refine (hash_First.calls (Go.bits .or .u64 (Go.bits .and .u64 a0 8388607) (IntKind.u64.wrap (a1 * 8388608))) t165 _ A5.out).mono ?_); rintro e w' ⟨rfl, ⟨nd, rfl⟩⟩; refine ⟨_, rfl, ?_⟩))
      go_ret
      exact ⟨by first | rfl | (simp [errW_none, errW_some] <;> rfl) | (simp [*, errW_none, errW_some] <;> rfl), by repeat (first | (with_reducible first | exact HB.out | apply below_alloc | apply pw_below_drewN | apply below_drew1) | exact HB.out)⟩
  · replace c4 := Bool.eq_false_iff.mpr c4
    subst c4
    have H1 : (some false) = some r := by rw [if_neg (show ¬ (false = true) by decide)] at H; exact H
    clear H
    have H := H1
    clear H1
    obtain rfl := Option.some.inj H
    go_enter Try.func7, Try.ntmps7
    go_wp2_with (first | ((with_reducible refine gate_callee (f := 9) rfl ?_); refine goesL_ (some 7) rfl rfl Try.func9 (by kernel_rfl) rfl #[] rfl (by (try simp only [List.map_toArray, List.map_cons, List.map_nil]); first | done | rfl | (simp only [List.length_drop, List.length_take]; rfl)) ?_; (with_reducible refine (loesslaw9_begun.calls k  false _ A3.out).mono ?_); rintro e w10 ⟨rfl, hb⟩; refine ⟨_, rfl, ?_⟩; have n0_ := Aside0.mk (below_step (by repeat (first | (with_reducible first | exact HB.out | apply below_alloc | apply pw_below_drewN | apply below_drew1) | exact HB.out)) hb); clear HB; have HB := n0_; clear n0_; (try clear hb); (try clear hb2); (try clear hk); (try clear hi)))
    go_ret
    exact ⟨by first | rfl | (simp [errW_none, errW_some] <;> rfl) | (simp [*, errW_none, errW_some] <;> rfl), by repeat (first | (with_reducible first | exact HB.out | apply below_alloc | apply pw_below_drewN | apply below_drew1) | exact HB.out)⟩

/-- THE ONE PURE STATEMENT of loesslaw9_HashTags: yours. -/
def loesslaw9_HashTags.Pure : Prop := ∀ (a0 : Int) (a1 : Int), (Lit.int .u64 a0).wf = true → (Lit.int .u64 a1).wf = true → ∃ k, loesslaw9_HashTags.f k a0 a1 = some true
theorem loesslaw9_HashTags.walk (P : loesslaw9_HashTags.Pure) (a0 : Int) (a1 : Int) (w : World) (w0 : (Lit.int .u64 a0).wf = true) (w1 : (Lit.int .u64 a1).wf = true) :
    Calls Try.prog 7 #[.int .u64 a0, .int .u64 a1] w fun e w' => e = .returned (.bool true) ∧ Below w.heap.size w w' := by
  obtain ⟨k, h⟩ := P a0 a1 w0 w1
  refine (loesslaw9_HashTags.calls k a0 a1 true w h).mono ?_
  rintro e w' ⟨rfl, hd⟩
  exact ⟨rfl, hd⟩

end Go.Proofs.Ytoachfoaknlemaa.XHash
