/- dir.Entry that came in, in rows. -/
import Derived.Test.YtoffcgdamcchcaaQOpen
import Derived.Test.YtoffcgdamcchcaaXDirx0
import Derived.KernelRfl
set_option linter.unusedVariables false
set_option linter.unusedSimpArgs false
namespace Go.Proofs.Ytoffcgdamcchcaa.O
open Go.RowKit Go.ChangeShapes Go.WideShapes Go.Deep Go.Proofs.YtoffcgdamcchcaaW.PrintWords Go.Proofs.YtoffcgdamcchcaaW.PrintMore Go.Proofs.Ytoffcgdamcchcaa.XDir
instance : Inhabited S32 := ⟨⟨ByteArray.empty, 0, ⟨0, 0⟩⟩⟩
def ok30 (x : S30) : Prop := (Lit.int .i64 x.f0).wf = true ∧ (Lit.int .i64 x.f1).wf = true
theorem el30 {H : Type} {enc : TypeId × Value → H} : El enc Try.prog 30 k30 ok30 :=
  el_iso (fun x : S30 => (x.f0, x.f1)) (fun p => ⟨p.1, p.2⟩) (fun _ => rfl)
    (el_struct2 Try.underlying30 (by kernel_rfl) rfl rfl (by kernel_rfl) (by kernel_rfl) (el_int Try.underlying3) (el_int Try.underlying3))
def ok32 (x : S32) : Prop := x.f0.size ≤ 9223372036854775807 ∧ (Lit.int .i64 x.f1).wf = true ∧ ok30 x.f2
theorem el32 {H : Type} {enc : TypeId × Value → H} : El enc Try.prog 32 k32 ok32 :=
  el_iso (fun x : S32 => (x.f0, x.f1, x.f2)) (fun p => ⟨p.1, p.2.1, p.2.2⟩) (fun _ => rfl)
    (el_struct3 Try.underlying32 (by kernel_rfl) rfl rfl rfl (by kernel_rfl) (by kernel_rfl) (by kernel_rfl) (el_string Try.underlying9) (el_int Try.underlying3) el30)
end Go.Proofs.Ytoffcgdamcchcaa.O
