/- api.Raw that came in by value (where the print has no row of them). -/
import Derived.Test.YtbeoegdkoodlfaaQOpen
import Derived.KernelRfl
import Derived.Test.YtbeoegdkoodlfaaProg
set_option linter.unusedVariables false
set_option linter.unusedSimpArgs false
namespace Go.Proofs.Ytbeoegdkoodlfaa.O
open Go.RowKit Go.ChangeShapes Go.WideShapes Go.Deep Go.Proofs.YtbeoegdkoodlfaaW.PrintWords Go.Proofs.YtbeoegdkoodlfaaW.PrintMore
structure S23 where
  f0 : Int
  f1 : Int
  f2 : ByteArray
def k23 : Kd S23 := Kd.iso (Kd.pair (Kd.int .i64) (Kd.pair (Kd.int .i64) Kd.string)) (fun x : S23 => (x.f0, x.f1, x.f2))
instance : Inhabited S23 := ⟨⟨0, 0, ByteArray.empty⟩⟩
def ok23 (x : S23) : Prop := (Lit.int .i64 x.f0).wf = true ∧ (Lit.int .i64 x.f1).wf = true ∧ x.f2.size ≤ 9223372036854775807
theorem el23 {H : Type} {enc : TypeId × Value → H} : El enc Try.prog 23 k23 ok23 :=
  el_iso (fun x : S23 => (x.f0, x.f1, x.f2)) (fun p => ⟨p.1, p.2.1, p.2.2⟩) (fun _ => rfl)
    (el_struct3 Try.underlying23 (by kernel_rfl) rfl rfl rfl (by kernel_rfl) (by kernel_rfl) (by kernel_rfl) (el_int Try.underlying3) (el_int Try.underlying2) (el_string Try.underlying9))
def v23 (x : S23) : Value := .agg #[.int .i64 x.f0, .int .i64 x.f1, .string x.f2]
theorem st23 {H : Type} {enc : TypeId × Value → H} {w : World} {base : Nat} {spare : Nat → Bool} {held : Bool} {r : Reach} {b0 : Nat} {v : Value} {d : DataW H} {p : List MemPlace} (hv : Value.okWide Try.prog w r b0 23 v) (h : DataW.Trod enc Try.prog w base spare held 23 v d p) : ∃ x, v = v23 x ∧ ok23 x := by
  obtain ⟨cs, rfl, hs⟩ := okWide_struct Try.underlying23 hv
  obtain ⟨n, hn⟩ := h
  obtain ⟨a, ha, ho⟩ := el23 _ _ _ _ _ _ _ hn
  refine ⟨a, ?_, ho⟩
  obtain ⟨c0, c1, e, rfl, c2, c3, rfl, rfl, rfl⟩ := ha
  have e2 : cs.toList = [.int .i64 a.f0, .int .i64 a.f1, .string a.f2] := e
  unfold v23
  rw [← Array.toList_inj.1 (show cs.toList = (#[.int .i64 a.f0, .int .i64 a.f1, .string a.f2] : Array Value).toList from e2)]
end Go.Proofs.Ytbeoegdkoodlfaa.O
