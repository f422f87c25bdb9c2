/- What the laws of layer 9 begin with. -/
import Derived.Test.YtoachfoaknlemaaQHashFn
import Derived.Test.YtoachfoaknlemaaXHashx8
import Derived.Test.YtoachfoaknlemaaXHashx9
set_option linter.unusedVariables false
set_option linter.unusedSimpArgs false
namespace Go.Proofs.Ytoachfoaknlemaa.Q
open Go.RowKit Go.Proofs.YtoachfoaknlemaaW.PrintWords Go.Proofs.YtoachfoaknlemaaW.PrintMore Go.Proofs.Ytoachfoaknlemaa.G Go.Proofs.Ytoachfoaknlemaa.XHash
theorem hash_begun : Ev (fun k => loesslaw9_begun.f k) true := Ev.of loesslaw9_begun.mono (k := 60) (by kernel_rfl)
theorem hash_then {g : Nat → Option Bool} {r : Bool} (h : Ev g r) : Ev (fun k => (loesslaw9_begun.f k).bind fun t => if t = true then g k else some false) r :=
  Ev.bind hash_begun (Ev.congr (fun k => by rw [if_pos rfl]) h)
theorem cut3_eq (s : ByteArray) (n : Nat) : ∃ t : ByteArray, loesslaw3_Cut.f s (n : Int) = some t ∧ t.size ≤ n ∧ bytesOf t = (bytesOf s).take n := by
  unfold loesslaw3_Cut.f
  split
  · rw [if_pos (by omega), if_pos (by omega)]
    refine ⟨_, rfl, ?_, ?_⟩
    · simp only [ByteArray.size_extract]; omega
    · rw [bytesOf_extract]; simp
  · refine ⟨_, rfl, by omega, ?_⟩
    rw [List.take_of_length_le (by rw [bytesOf_length]; omega)]
end Go.Proofs.Ytoachfoaknlemaa.Q
