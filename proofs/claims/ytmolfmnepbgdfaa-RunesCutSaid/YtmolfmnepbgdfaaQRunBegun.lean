/- What the laws of layer 3 begin with; a cut of a text. -/
import Derived.Test.YtmolfmnepbgdfaaQRunesFn
import Derived.KernelRfl
import Derived.Test.YtmolfmnepbgdfaaXRunx1
import Derived.Test.YtmolfmnepbgdfaaXRunx2
set_option linter.unusedVariables false
set_option linter.unusedSimpArgs false
namespace Go.Proofs.Ytmolfmnepbgdfaa.Q
open Go.RowKit Go.Proofs.YtmolfmnepbgdfaaW.PrintWords Go.Proofs.YtmolfmnepbgdfaaW.PrintMore Go.Proofs.Ytmolfmnepbgdfaa.G Go.Proofs.Ytmolfmnepbgdfaa.XRun
theorem run_begun : loesslaw3_begun.f = some true := by kernel_rfl
theorem cut3_eq (s : ByteArray) (n : Nat) : ∃ t : ByteArray, loesslaw3_Cut.f s (n : Int) = some t ∧ t.size ≤ n ∧ bytesOf t = (bytesOf s).take n := by
  unfold loesslaw3_Cut.f
  split
  · rw [if_pos (by omega), if_pos (by omega)]
    refine ⟨_, rfl, ?_, ?_⟩
    · simp only [ByteArray.size_extract]; omega
    · rw [bytesOf_extract]; simp
  · refine ⟨_, rfl, by omega, ?_⟩
    rw [List.take_of_length_le (by rw [bytesOf_length]; omega)]
theorem bytes_iff {a b : ByteArray} : a.toList = b.toList ↔ bytesOf a = bytesOf b := ⟨fun h => by rw [toList_inj h], fun h => by rw [bytesOf_inj h]⟩
theorem toList_nil_iff {a : ByteArray} : a.toList = ([] : List UInt8) ↔ bytesOf a = [] := by
  have : ([] : List UInt8) = (⟨#[]⟩ : ByteArray).toList := by rw [toList_eq]
  rw [this, bytes_iff]
  exact Iff.rfl
end Go.Proofs.Ytmolfmnepbgdfaa.Q
