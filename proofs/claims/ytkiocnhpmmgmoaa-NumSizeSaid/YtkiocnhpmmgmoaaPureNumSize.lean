/- The law NumSize's pure statement, with no condition of its own: a number takes as many bytes as it needs, seven bits each. -/
import Derived.Test.YtkiocnhpmmgmoaaQNumBegun
import Derived.Test.YtkiocnhpmmgmoaaXNumx17
set_option linter.unusedVariables false
set_option linter.unusedSimpArgs false
namespace Go.Proofs.Ytkiocnhpmmgmoaa.Pure
open Go.RowKit Go.Proofs.YtkiocnhpmmgmoaaW.PrintWords Go.Proofs.YtkiocnhpmmgmoaaW.PrintMore Go.Proofs.Ytkiocnhpmmgmoaa.XNum Go.Proofs.Ytkiocnhpmmgmoaa.Q
theorem numSize_l (n : Int) (hi : I64 n) (u : Nat) : ∀ w : Nat, w < 1000 → u < 18446744073709551616 → w + (putU u).length = (putN n).length + 1 →
    Ev (fun k => loesslaw1_NumSize.l0 k n (u : Int) (w : Int)) true := by
  induction u using Nat.strongRecOn with
  | _ u ih =>
    intro w hw hu he
    by_cases h : u < 128
    · rw [putU_lt h] at he
      simp only [List.length_cons, List.length_nil] at he
      refine Ev.step (f := fun k => (num_Put.f k [] n).bind fun t => (num_Get.f k t).bind fun b => if (t.length : Int) = (w : Int) then (if b.2.1 = (w : Int) then some (b.2.2 == 0) else some false) else some false) (fun k => ?_) ?_
      · simp only [loesslaw1_NumSize.l0]
        rw [if_neg (by omega)]
      · refine Ev.bind (num_Put_ev hi [] (by simp)) ?_
        simp only [List.nil_append]
        have g := num_Get_ev (l := putN n) (putN_byt n) (by have := putN_len hi; omega)
        have g0 := getN_put hi []
        rw [List.append_nil] at g0
        rw [g0] at g
        refine Ev.bind g (evC ?_)
        rw [if_pos (by omega), if_pos (by show ((putN n).length : Int) = w; omega)]
        rfl
    · rw [putU_ge h] at he
      simp only [List.length_cons] at he
      have := putN_len hi
      refine Ev.step (fun k => ?_) (ih (u / 128) (by omega) (w + 1) (by omega) (by omega) (by omega))
      simp only [loesslaw1_NumSize.l0]
      rw [if_pos (by omega), w64 (by omega) (by omega)]
      rfl
theorem NumSize : loesslaw1_NumSize.Pure := by
  intro n hn
  have hi : I64 n := wfI64 hn
  have hz := zig_bits hi
  refine Ev.rounds ?_
  unfold loesslaw1_NumSize.f
  refine begun_then ?_
  have h1 : Ev (fun k => loesslaw1_NumSize.j0 k n (zig n : Int)) true := Ev.step (fun k => by simp only [loesslaw1_NumSize.j0]; rfl) (numSize_l n hi (zig n) 1 (by omega) (zig_lt hi) (by unfold putN; omega))
  refine Ev.congr (fun k => ?_) h1
  split
  · rename_i h; rw [if_pos h] at hz; rw [hz]
  · rename_i h; rw [if_neg h] at hz; rw [hz]
end Go.Proofs.Ytkiocnhpmmgmoaa.Pure
