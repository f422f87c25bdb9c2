/- What the laws of layer 1 begin with; a cut of bytes, of a text. -/
import Derived.Test.YtkiocnhpmmgmoaaQNumFn
import Derived.KernelRfl
import Derived.Test.YtkiocnhpmmgmoaaXNumx5
import Derived.Test.YtkiocnhpmmgmoaaXNumx6
import Derived.Test.YtkiocnhpmmgmoaaXNumx7
set_option linter.unusedVariables false
set_option linter.unusedSimpArgs false
namespace Go.Proofs.Ytkiocnhpmmgmoaa.Q
open Go.RowKit Go.Proofs.YtkiocnhpmmgmoaaW.PrintWords Go.Proofs.YtkiocnhpmmgmoaaW.PrintMore Go.Proofs.Ytkiocnhpmmgmoaa.XNum
theorem num_begun : Ev (fun k => loesslaw1_begun.f k) true := Ev.of loesslaw1_begun.mono (k := 40) (by kernel_rfl)
theorem begun_then {g : Nat → Option Bool} {r : Bool} (h : Ev g r) : Ev (fun k => (loesslaw1_begun.f k).bind fun t => if t = true then g k else some false) r :=
  Ev.bind num_begun (Ev.congr (fun k => by rw [if_pos rfl]) h)
theorem short_eq (l : List Int) (n : Nat) : loesslaw1_Short.f l (n : Int) = some (l.take n) := by
  unfold loesslaw1_Short.f
  split
  · rw [if_pos (by omega), if_pos (by omega)]; simp
  · rw [List.take_of_length_le (by omega)]
theorem cut_eq (s : ByteArray) (n : Nat) : ∃ t : ByteArray, loesslaw1_Cut.f s (n : Int) = some t ∧ t.size ≤ n ∧ bytesOf t = (bytesOf s).take n := by
  unfold loesslaw1_Cut.f
  split
  · rw [if_pos (by omega), if_pos (by omega)]
    refine ⟨_, rfl, ?_, ?_⟩
    · simp only [ByteArray.size_extract]; omega
    · rw [bytesOf_extract]; simp
  · refine ⟨_, rfl, by omega, ?_⟩
    rw [List.take_of_length_le (by rw [bytesOf_length]; omega)]
theorem str_cat_size (a b : List Int) (h : a.length + b.length ≤ 9223372036854775807) : (strOfNums a).size + (strOfNums b).size ≤ 9223372036854775807 := by rw [strOfNums_size, strOfNums_size]; exact h
end Go.Proofs.Ytkiocnhpmmgmoaa.Q
