/- The printed functions of the reference of package num tell what QNum says. -/
import Derived.Test.YtbeoegdkoodlfaaQNum
import Derived.Test.YtbeoegdkoodlfaaXVabx13
import Derived.Test.YtbeoegdkoodlfaaXVabx14
set_option linter.unusedVariables false
set_option linter.unusedSimpArgs false
namespace Go.Proofs.Ytbeoegdkoodlfaa.Q
open Go.RowKit Go.Proofs.YtbeoegdkoodlfaaW.PrintWords Go.Proofs.YtbeoegdkoodlfaaW.PrintMore Go.Proofs.Ytbeoegdkoodlfaa.XVab
theorem zig_bitsR {n : Int} (h : I64 n) : (if n < 0 then Go.bits .xor .u64 18446744073709551615 (IntKind.u64.wrap (IntKind.u64.wrap n * 2)) else IntKind.u64.wrap (IntKind.u64.wrap n * 2)) = (zig n : Int) := by
  unfold I64 at h
  unfold zig
  split
  · rw [u64_mod, u64_mod, not_u64 (by omega) (by omega)]
    omega
  · rw [u64_mod, u64_mod]
    omega
theorem ref_Put_l (u : Nat) : ∀ l : List Int, l.length + (putU u).length ≤ 140737488355328 → u < 18446744073709551616 → Ev (fun k => loessref1_Put.l0 k (u : Int) l) (l ++ putU u) := by
  induction u using Nat.strongRecOn with
  | _ u ih =>
    intro l hl hu
    by_cases h : u < 128
    · rw [putU_lt h] at hl ⊢
      refine Ev.step (f := fun _ => some (l ++ [(u : Int)])) (fun k => ?_) (Ev.now _)
      simp only [loessref1_Put.l0]
      simp only [List.length_cons, List.length_nil] at hl
      rw [if_neg (by omega), if_pos (by omega), show (u : Int) % 256 = u by omega]
    · rw [putU_ge h] at hl ⊢
      simp only [List.length_cons] at hl
      refine Ev.step (f := fun k => loessref1_Put.l0 k ((u / 128 : Nat) : Int) (l ++ [((u % 128 + 128 : Nat) : Int)])) (fun k => ?_) ?_
      · simp only [loessref1_Put.l0]
        rw [if_pos (by omega), if_pos (by omega), Int.tdiv_eq_ediv_of_nonneg (by omega), Int.tmod_eq_emod_of_nonneg (by omega), u64 (x := (u : Int) / 128) (by omega) (by omega), u64 (x := (u : Int) % 128 + 128) (by omega) (by omega)]
        rw [show ((u : Int) % 128 + 128) % 256 = ((u % 128 + 128 : Nat) : Int) by omega, show (u : Int) / 128 = ((u / 128 : Nat) : Int) by omega]
      · refine evEq (ih (u / 128) (by omega) (l ++ [((u % 128 + 128 : Nat) : Int)]) (by simp only [List.length_append, List.length_cons, List.length_nil]; omega) (by omega)) ?_
        rw [List.append_assoc]
        rfl
theorem ref_Put_ev {n : Int} (h : I64 n) : Ev (fun k => loessref1_Put.f k n) (putN n) := by
  have hz := zig_bitsR h
  have := putN_len h
  have h1 : Ev (fun k => loessref1_Put.j0 k (zig n : Int)) (putN n) := Ev.step (fun k => by simp only [loessref1_Put.j0]) (ref_Put_l (zig n) [] (by unfold putN at this; simp only [List.length_nil]; omega) (zig_lt h))
  refine Ev.congr (fun k => ?_) h1
  unfold loessref1_Put.f
  split
  · rename_i hn; rw [if_pos hn] at hz; rw [hz]
  · rename_i hn; rw [if_neg hn] at hz; rw [hz]
theorem ref_PutText_ev {s : ByteArray} (h : s.size ≤ 70368744177664) : Ev (fun k => loessref1_PutText.f k s) (putT s) := by
  have hi : I64 (s.size : Int) := by unfold I64; omega
  have := putN_len hi
  have h2 : Ev (fun _ => if (putN (s.size : Int)).length + s.size < 140737488355328 then some (putN (s.size : Int) ++ bytesOf s) else none) (putN (s.size : Int) ++ bytesOf s) :=
    evC (if_pos (by omega))
  exact Ev.bind (ref_Put_ev hi) h2
end Go.Proofs.Ytbeoegdkoodlfaa.Q
