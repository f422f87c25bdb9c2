/- The law DirAny, out of its printed contract: the walk with its arguments opened. -/
import Derived.Test.YtoffcgdamcchcaaPureDirAny
import Derived.Test.YtoffcgdamcchcaaQOpenDir
import Derived.Test.YtoffcgdamcchcaaXDirx27
set_option linter.unusedVariables false
namespace Go.Proofs.Ytoffcgdamcchcaa.H
open Go.RowKit Go.Proofs.YtoffcgdamcchcaaW.PrintWords Go.Proofs.YtoffcgdamcchcaaW.PrintMore Go.Proofs.Ytoffcgdamcchcaa.XDir
theorem DirAny.walk (P : True) (a0 : Option Addr) (len0 cap0 : Nat) (z0 : List Int) (A1 : Option Addr) (len1 cap1 : Nat) (l1 : List S32) (a2 a3 : Int) (w : World) (w0 : (a0 = none ∧ len0 = 0 ∧ cap0 = 0 ∧ z0 = []) ∨ ∃ x, a0 = some x ∧ len0 ≤ cap0 ∧ cap0 ≤ maxLen ∧ z0.length = cap0 ∧ (∀ i, i < z0.length → w.cell? (x.add i) = some (.int .u8 (z0.getD i 0))) ∧ ∀ n ∈ z0, (Lit.int .u8 n).wf = true) (y0 : len0 * 1 ≤ 140737488351232) (w1 : O.IsRows k32 O.ok32 w A1 len1 cap1 l1) (w2 : (Lit.int .i64 a2).wf = true) (w3 : (Lit.int .u8 a3).wf = true) :
    Calls Try.prog 4 #[.slice a0 len0 cap0, .slice A1 len1 cap1, .int .i64 a2, .int .u8 a3] w fun e w' => e = .returned (.bool true) ∧ Below w.heap.size w w' := by
  obtain ⟨l0, rfl, hr0, hm0, hw0, hc0⟩ := ReadsInt.ofRowC w0
  obtain ⟨rfl, g1, g2, g3, g4⟩ := w1
  obtain ⟨k, hk⟩ := Pure.DirAny l0 l1 a2 a3 hw0 (fun x hx => ⟨Q.wfI64 (g4 x hx).2.1, Q.wfI64 (g4 x hx).2.2.1, Q.wfI64 (g4 x hx).2.2.2⟩) w2 w3
  exact loesslaw14_DirAny.calls k _ _ l0 A1 cap1 l1 a2 a3 true w (Kd.C_of_reads (d := (0 : Int)) (h1 := fun _ => rfl) hr0) hc0 g3 g1 hk
end Go.Proofs.Ytoffcgdamcchcaa.H
