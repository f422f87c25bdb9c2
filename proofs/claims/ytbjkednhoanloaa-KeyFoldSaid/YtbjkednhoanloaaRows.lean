/-
  No cell of these rows narrows 'for every input' (looked for: loops, veiled, ifaces, maps, wideKeys, modest, calm, conditions, laid).
  DERIVED. THE GIVEN ROWS OF THIS SEAT. 4 by the template 'for every input the law returns true; each argument reads behind the call as it read before'; 0 by the template 'total and deterministic' (their statements: YtbjkednhoanloaaTotals.lean).
  GIVEN WITH THE SEED: the statements are not yours to turn. If you find one false, say at which input.
  Laid BY PROGRAM, IN A SANDBOX (cutbox-rows.mjs): the forced cells as the released guide's own fill.sh prints them over the translation 8043a0f755e685a7… (all of the seat's roots in one cut). By AI agents, Wed Nov 11 2026. No macro, syntax, notation, axiom, sorry.
-/
import Derived.Test.YtbjkednhoanloaaChecked
import GoSem.Claim
import GoSem.ClaimJoined
import GoSem.ClaimMapViews
import Derived.JoinedTies
import Derived.KernelRfl
namespace Go.Proofs.Ytbjkednhoanloaa
/- THE CELL 'sum', in the pinned program and in every row, IS THE sha256 OF THE DUMP (.gsa) THAT YtbjkednhoanloaaProg.lean LOADS. Nothing in Lean hashes anything: it is a label: what it is worth is what the hold of that sum in a sandbox is worth. -/
noncomputable def Try.pinned : Pinned := { name := "ytbjkednhoanloaa", sum := "8043a0f755e685a78c2c6527ed8588a51c25bcfcdda22638860cd7d6ba7f4f1d", checked := Try.checked }
namespace Rows
def none {H : Type} : Left H := { results := [], args := [] }

/-- 'loesslaw5.KeyAll': WHATEVER THE INPUT: true; the input reads as it did. -/
def keyAllSpec : ChangeSpec := { name := "keyAll", fn := fun _ => fun
  | [d1, d2] => { results := [.lit (.bool true)], args := [d1, d2] }
  | _ => none }
def keyAllRow : OpenClaim := { program := "ytbjkednhoanloaa", sum := "8043a0f755e685a78c2c6527ed8588a51c25bcfcdda22638860cd7d6ba7f4f1d", func := "loess/loesslaw5.KeyAll", spec := "keyAll", apart := false }
def KeyAllSaid : Prop := keyAllRow.holds Try.pinned (OpenSpec.ofChange keyAllSpec)

/-- ITS FALSE NEIGHBOUR: 'it returns false'. Refute it at one input. -/
def keyAllWrong : ChangeSpec := { name := "keyAll", fn := fun _ => fun
  | [d1, d2] => { results := [.lit (.bool false)], args := [d1, d2] }
  | _ => none }
def KeyAllWrongFalsely : Prop := keyAllRow.holds Try.pinned (OpenSpec.ofChange keyAllWrong)

/-- 'loesslaw5.KeyValid': WHATEVER THE INPUT: true; the input reads as it did. -/
def keyValidSpec : ChangeSpec := { name := "keyValid", fn := fun _ => fun
  | [d1, d2] => { results := [.lit (.bool true)], args := [d1, d2] }
  | _ => none }
def keyValidRow : OpenClaim := { program := "ytbjkednhoanloaa", sum := "8043a0f755e685a78c2c6527ed8588a51c25bcfcdda22638860cd7d6ba7f4f1d", func := "loess/loesslaw5.KeyValid", spec := "keyValid", apart := false }
def KeyValidSaid : Prop := keyValidRow.holds Try.pinned (OpenSpec.ofChange keyValidSpec)

/-- ITS FALSE NEIGHBOUR: 'it returns false'. Refute it at one input. -/
def keyValidWrong : ChangeSpec := { name := "keyValid", fn := fun _ => fun
  | [d1, d2] => { results := [.lit (.bool false)], args := [d1, d2] }
  | _ => none }
def KeyValidWrongFalsely : Prop := keyValidRow.holds Try.pinned (OpenSpec.ofChange keyValidWrong)

/-- 'loesslaw5.KeyThree': WHATEVER THE INPUT: true; the input reads as it did. -/
def keyThreeSpec : ChangeSpec := { name := "keyThree", fn := fun _ => fun
  | [d1, d2, d3] => { results := [.lit (.bool true)], args := [d1, d2, d3] }
  | _ => none }
def keyThreeRow : OpenClaim := { program := "ytbjkednhoanloaa", sum := "8043a0f755e685a78c2c6527ed8588a51c25bcfcdda22638860cd7d6ba7f4f1d", func := "loess/loesslaw5.KeyThree", spec := "keyThree", apart := false }
def KeyThreeSaid : Prop := keyThreeRow.holds Try.pinned (OpenSpec.ofChange keyThreeSpec)

/-- ITS FALSE NEIGHBOUR: 'it returns false'. Refute it at one input. -/
def keyThreeWrong : ChangeSpec := { name := "keyThree", fn := fun _ => fun
  | [d1, d2, d3] => { results := [.lit (.bool false)], args := [d1, d2, d3] }
  | _ => none }
def KeyThreeWrongFalsely : Prop := keyThreeRow.holds Try.pinned (OpenSpec.ofChange keyThreeWrong)

/-- 'loesslaw5.KeyFold': WHATEVER THE INPUT: true; the input reads as it did. -/
def keyFoldSpec : ChangeSpec := { name := "keyFold", fn := fun _ => fun
  | [d] => { results := [.lit (.bool true)], args := [d] }
  | _ => none }
def keyFoldRow : OpenClaim := { program := "ytbjkednhoanloaa", sum := "8043a0f755e685a78c2c6527ed8588a51c25bcfcdda22638860cd7d6ba7f4f1d", func := "loess/loesslaw5.KeyFold", spec := "keyFold", apart := false }
def KeyFoldSaid : Prop := keyFoldRow.holds Try.pinned (OpenSpec.ofChange keyFoldSpec)

/-- ITS FALSE NEIGHBOUR: 'it returns false'. Refute it at one input. -/
def keyFoldWrong : ChangeSpec := { name := "keyFold", fn := fun _ => fun
  | [d] => { results := [.lit (.bool false)], args := [d] }
  | _ => none }
def KeyFoldWrongFalsely : Prop := keyFoldRow.holds Try.pinned (OpenSpec.ofChange keyFoldWrong)

/- THE SECOND FORM. 'bulk': how many values and letters a reading holds, each counted each time it is reached (what is shared counts as often as it is met; a slice's spare places count too). A statement '..UptoSaid' is the law's where the arguments, and the package variables that the reading takes, are together of bulk at most 1048576: NARROWER than '..Said'. Prove '..Said' where nothing that the law and all that it calls make is longer than what came in: it says more and counts as full. Else prove '..UptoSaid'. A law counts once. -/
mutual
def uptoBulk {H : Type} : DataW H → Nat
  | .lit (.string bytes) => bytes.length + 1
  | .lit _ => 1
  | .nil => 1
  | .ptr d => uptoBulk d + 1
  | .slice elems spare => uptoBulkAll elems + uptoBulkAll spare + 1
  | .agg parts => uptoBulkAll parts + 1
  | .iface _ d => uptoBulk d + 1
  | .map entries => uptoBulkEntries entries + 1
  | .held _ => 1
def uptoBulkAll {H : Type} : List (DataW H) → Nat
  | [] => 0
  | d :: r => uptoBulk d + uptoBulkAll r
def uptoBulkEntries {H : Type} : List (Lit × DataW H) → Nat
  | [] => 0
  | x :: r => uptoBulkEntry x + uptoBulkEntries r
def uptoBulkEntry {H : Type} : Lit × DataW H → Nat
  | (.string bytes, d) => bytes.length + uptoBulk d + 1
  | (_, d) => uptoBulk d + 1
 end
def uptoSmall : (H : Type) → List (DataW H) → Bool := fun _ ds => decide (uptoBulkAll ds ≤ 1048576)
def OpenSpec.upto (s : _root_.Go.ChangeSpec) : _root_.Go.OpenSpec := { _root_.Go.OpenSpec.ofChange s with cond := some uptoSmall }

/-- 'loesslaw5.KeyAll', WHERE WHAT IT READS IS OF BULK AT MOST 1048576: true; the input reads as it did. -/
def keyAllUptoRow : OpenClaim := { program := "ytbjkednhoanloaa", sum := "8043a0f755e685a78c2c6527ed8588a51c25bcfcdda22638860cd7d6ba7f4f1d", func := "loess/loesslaw5.KeyAll", spec := "keyAll", apart := false, narrowed := true }
def KeyAllUptoSaid : Prop := keyAllUptoRow.holds Try.pinned (OpenSpec.upto keyAllSpec)

/-- 'loesslaw5.KeyValid', WHERE WHAT IT READS IS OF BULK AT MOST 1048576: true; the input reads as it did. -/
def keyValidUptoRow : OpenClaim := { program := "ytbjkednhoanloaa", sum := "8043a0f755e685a78c2c6527ed8588a51c25bcfcdda22638860cd7d6ba7f4f1d", func := "loess/loesslaw5.KeyValid", spec := "keyValid", apart := false, narrowed := true }
def KeyValidUptoSaid : Prop := keyValidUptoRow.holds Try.pinned (OpenSpec.upto keyValidSpec)

/-- 'loesslaw5.KeyThree', WHERE WHAT IT READS IS OF BULK AT MOST 1048576: true; the input reads as it did. -/
def keyThreeUptoRow : OpenClaim := { program := "ytbjkednhoanloaa", sum := "8043a0f755e685a78c2c6527ed8588a51c25bcfcdda22638860cd7d6ba7f4f1d", func := "loess/loesslaw5.KeyThree", spec := "keyThree", apart := false, narrowed := true }
def KeyThreeUptoSaid : Prop := keyThreeUptoRow.holds Try.pinned (OpenSpec.upto keyThreeSpec)

/-- 'loesslaw5.KeyFold', WHERE WHAT IT READS IS OF BULK AT MOST 1048576: true; the input reads as it did. -/
def keyFoldUptoRow : OpenClaim := { program := "ytbjkednhoanloaa", sum := "8043a0f755e685a78c2c6527ed8588a51c25bcfcdda22638860cd7d6ba7f4f1d", func := "loess/loesslaw5.KeyFold", spec := "keyFold", apart := false, narrowed := true }
def KeyFoldUptoSaid : Prop := keyFoldUptoRow.holds Try.pinned (OpenSpec.upto keyFoldSpec)

end Rows
end Go.Proofs.Ytbjkednhoanloaa
