/- The law NumLong's pure statement, with no condition of its own: of numbers of any length, the last byte any, the program and the reference tell the same. -/
import Derived.Test.YtkiocnhpmmgmoaaQNumBegun
import Derived.Test.YtkiocnhpmmgmoaaQNumRef
import Derived.Test.YtkiocnhpmmgmoaaXNumx14
set_option linter.unusedVariables false
set_option linter.unusedSimpArgs false
namespace Go.Proofs.Ytkiocnhpmmgmoaa.Pure
open Go.RowKit Go.Proofs.YtkiocnhpmmgmoaaW.PrintWords Go.Proofs.YtkiocnhpmmgmoaaW.PrintMore Go.Proofs.Ytkiocnhpmmgmoaa.XNum Go.Proofs.Ytkiocnhpmmgmoaa.Q
theorem fill_byt {x : Int} (h0 : 0 ≤ x) (h1 : x < 256) (n : Nat) : Byt (List.replicate n (Go.bits .or .u8 x 128)) := by
  intro y hy
  rw [(List.mem_replicate.1 hy).2, or128 h0 h1]
  omega
theorem numLong_l (last fill : Int) (hl0 : 0 ≤ last ∧ last < 256) (hf : 0 ≤ fill ∧ fill < 256) (n : Nat) (hn : n ≤ 14) (d : Nat) : ∀ i : Nat, i + d = n →
    Ev (fun k => loesslaw1_NumLong.l0 k (n : Int) last fill (List.replicate i (Go.bits .or .u8 fill 128)) (i : Int)) true := by
  induction d with
  | zero =>
    intro i hi
    have hb : Byt (List.replicate i (Go.bits .or .u8 fill 128) ++ [last]) := (fill_byt hf.1 hf.2 i).append (Byt.cons hl0.1 hl0.2 Byt.nil)
    have hl : (List.replicate i (Go.bits .or .u8 fill 128) ++ [last]).length < 9223372036854775800 := by simp; omega
    refine Ev.step (f := fun k => (num_Get.f k (List.replicate i (Go.bits .or .u8 fill 128) ++ [last])).bind fun b => (loessref1_Get.f k (List.replicate i (Go.bits .or .u8 fill 128) ++ [last])).bind fun c => if b.1 = c.1 then (if b.2.1 = c.2.1 then some (b.2.2 == c.2.2) else some false) else some false) (fun k => ?_) ?_
    · simp only [loesslaw1_NumLong.l0]
      rw [if_neg (by omega), if_pos (by simp; omega)]
      rfl
    · refine Ev.bind (num_Get_ev hb hl) (Ev.bind (ref_Get_ev hb hl) ?_)
      refine evC ?_
      simp
  | succ d ih =>
    intro i hi
    refine Ev.step (fun k => ?_) (ih (i + 1) (by omega))
    simp only [loesslaw1_NumLong.l0]
    rw [if_pos (by omega), if_pos (by simp; omega), w64 (by omega) (by omega), List.replicate_succ']
    rfl
theorem NumLong : loesslaw1_NumLong.Pure := by
  intro n last fill hn hl hf
  have hn' := wfI64 hn
  have hl' := wfU8 hl
  have hf' := wfU8 hf
  refine Ev.rounds ?_
  unfold loesslaw1_NumLong.f
  refine begun_then ?_
  by_cases h : n < 0 ∨ n > 14
  · refine Ev.congr (f := fun k => loesslaw1_NumLong.j0 k n last fill true) (fun k => ?_) (Ev.step (f := fun _ => some true) (fun k => ?_) (Ev.now _))
    · split
      · rfl
      · rw [decide_eq_true (by omega)]
    · simp only [loesslaw1_NumLong.j0]; rw [if_pos trivial]
  · obtain ⟨m, rfl⟩ := Int.eq_ofNat_of_zero_le (show 0 ≤ n by omega)
    refine Ev.congr (f := fun k => loesslaw1_NumLong.j0 k m last fill false) (fun k => ?_) (Ev.step (fun k => ?_) (numLong_l last fill hl' hf' m (by omega) m 0 (by omega)))
    · rw [if_neg (by omega), decide_eq_false (by omega)]
    · simp only [loesslaw1_NumLong.j0]; rw [if_neg (by simp)]; rfl
end Go.Proofs.Ytkiocnhpmmgmoaa.Pure
