/- loesslaw6.begun by hand. -/
import Derived.Test.YtobdfehpbgcloaaGBitsOf
namespace Go.Proofs.Ytobdfehpbgcloaa.GL
open Go.RowKit Go.Proofs.YtobdfehpbgcloaaW.PrintWords Go.Proofs.YtobdfehpbgcloaaW.PrintLast Go.Proofs.YtobdfehpbgcloaaW.PrintMore Go.Proofs.Ytobdfehpbgcloaa.Q Go.Proofs.Ytobdfehpbgcloaa.XTri
set_option linter.unusedVariables false
set_option linter.unusedSimpArgs false
theorem bits_PutNum_at {base : Nat} {w : World} {p : Nat} {L : List Bool} (x n : Int) (k : Nat) (hn : n = (k : Int)) (h : BO base w p L) (hb : base ≤ w.heap.size) (hl : L.length < 100000000000) (hk : k ≤ 64) (hx0 : 0 ≤ x) (hx1 : x < 18446744073709551616) :
    Calls Try.prog 37 #[.pointer (some ⟨p, 0, none⟩), .int .u64 x, .int .i64 n] w (NumPost base w p (L ++ numBits x k)) := by
  subst hn
  exact bits_PutNum_in x k h hb hl hk hx0 hx1
theorem below_of_grown_none {w w1 : World} (h : w.grownBy w1 none) : Below w.heap.size w w1 := (Below.refl w.heap.size w).grown h (Nat.le_refl _) (fun k hk => by cases hk)
end Go.Proofs.Ytobdfehpbgcloaa.GL
