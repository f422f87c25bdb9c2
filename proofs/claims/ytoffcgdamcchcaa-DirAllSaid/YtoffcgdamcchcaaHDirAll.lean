/- The law DirAll, out of its printed contract: the walk with its arguments opened. -/
import Derived.Test.YtoffcgdamcchcaaPureDirAll
import Derived.Test.YtoffcgdamcchcaaQOpenDir
import Derived.Test.YtoffcgdamcchcaaXDirx24
set_option linter.unusedVariables false
namespace Go.Proofs.Ytoffcgdamcchcaa.H
open Go.RowKit Go.Proofs.YtoffcgdamcchcaaW.PrintWords Go.Proofs.YtoffcgdamcchcaaW.PrintMore Go.Proofs.Ytoffcgdamcchcaa.XDir
theorem DirAll.walk (P : True) (A0 : Option Addr) (len0 cap0 : Nat) (l0 : List S32) (A1 : Option Addr) (len1 cap1 : Nat) (l1 : List S32) (a2 : ByteArray) (w : World) (w0 : O.IsRows k32 O.ok32 w A0 len0 cap0 l0) (w1 : O.IsRows k32 O.ok32 w A1 len1 cap1 l1) (w2 : a2.size ≤ 140737488351232) :
    Calls Try.prog 3 #[.slice A0 len0 cap0, .slice A1 len1 cap1, .string a2] w fun e w' => e = .returned (.bool true) ∧ Below w.heap.size w w' := by
  obtain ⟨rfl, h1, h2, h3, h4⟩ := w0
  obtain ⟨rfl, g1, g2, g3, g4⟩ := w1
  obtain ⟨k, hk⟩ := Pure.DirAll l0 l1 a2 (fun x hx => ⟨Q.wfI64 (h4 x hx).2.1, Q.wfI64 (h4 x hx).2.2.1, Q.wfI64 (h4 x hx).2.2.2⟩)
  exact loesslaw14_DirAll.calls k A0 cap0 l0 A1 cap1 l1 a2 true w h3 h1 g3 g1 hk
end Go.Proofs.Ytoffcgdamcchcaa.H
