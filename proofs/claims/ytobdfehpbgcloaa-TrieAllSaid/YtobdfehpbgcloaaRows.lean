/-
  No cell of these rows narrows 'for every input' (looked for: loops, veiled, ifaces, maps, wideKeys, modest, calm, conditions, laid).
  DERIVED. THE GIVEN ROWS OF THIS SEAT. 5 by the template 'for every input the law returns true; each argument reads behind the call as it read before'; 0 by the template 'total and deterministic' (their statements: YtobdfehpbgcloaaTotals.lean).
  GIVEN WITH THE SEED: the statements are not yours to turn. If you find one false, say at which input.
  Laid BY PROGRAM, IN A SANDBOX (cutbox-rows.mjs): the forced cells as the released guide's own fill.sh prints them over the translation cad9111d9c8fbdf4… (all of the seat's roots in one cut). By AI agents, Wed Nov 11 2026. No macro, syntax, notation, axiom, sorry.
-/
import Derived.Test.YtobdfehpbgcloaaChecked
import GoSem.Claim
import GoSem.ClaimJoined
import GoSem.ClaimMapViews
import Derived.JoinedTies
import Derived.KernelRfl
namespace Go.Proofs.Ytobdfehpbgcloaa
/- THE CELL 'sum', in the pinned program and in every row, IS THE sha256 OF THE DUMP (.gsa) THAT YtobdfehpbgcloaaProg.lean LOADS. Nothing in Lean hashes anything: it is a label: what it is worth is what the hold of that sum in a sandbox is worth. -/
noncomputable def Try.pinned : Pinned := { name := "ytobdfehpbgcloaa", sum := "cad9111d9c8fbdf4980e6fef5006ac37c7328eed16ea2eba51b3f0594f1adc47", checked := Try.checked }
namespace Rows
def none {H : Type} : Left H := { results := [], args := [] }

/-- 'loesslaw21.TrieAny': WHATEVER THE INPUT: true; the input reads as it did. -/
def trieAnySpec : ChangeSpec := { name := "trieAny", fn := fun _ => fun
  | [d1, d2, d3] => { results := [.lit (.bool true)], args := [d1, d2, d3] }
  | _ => none }
def trieAnyRow : OpenClaim := { program := "ytobdfehpbgcloaa", sum := "cad9111d9c8fbdf4980e6fef5006ac37c7328eed16ea2eba51b3f0594f1adc47", func := "loess/loesslaw21.TrieAny", spec := "trieAny", recurses := true, apart := false }
def TrieAnySaid : Prop := trieAnyRow.holds Try.pinned (OpenSpec.ofChange trieAnySpec)

/-- ITS FALSE NEIGHBOUR: 'it returns false'. Refute it at one input. -/
def trieAnyWrong : ChangeSpec := { name := "trieAny", fn := fun _ => fun
  | [d1, d2, d3] => { results := [.lit (.bool false)], args := [d1, d2, d3] }
  | _ => none }
def TrieAnyWrongFalsely : Prop := trieAnyRow.holds Try.pinned (OpenSpec.ofChange trieAnyWrong)

/-- 'loesslaw21.TrieForm': WHATEVER THE INPUT: true; the input reads as it did. -/
def trieFormSpec : ChangeSpec := { name := "trieForm", fn := fun _ => fun
  | [d1, d2] => { results := [.lit (.bool true)], args := [d1, d2] }
  | _ => none }
def trieFormRow : OpenClaim := { program := "ytobdfehpbgcloaa", sum := "cad9111d9c8fbdf4980e6fef5006ac37c7328eed16ea2eba51b3f0594f1adc47", func := "loess/loesslaw21.TrieForm", spec := "trieForm", recurses := true, apart := false }
def TrieFormSaid : Prop := trieFormRow.holds Try.pinned (OpenSpec.ofChange trieFormSpec)

/-- ITS FALSE NEIGHBOUR: 'it returns false'. Refute it at one input. -/
def trieFormWrong : ChangeSpec := { name := "trieForm", fn := fun _ => fun
  | [d1, d2] => { results := [.lit (.bool false)], args := [d1, d2] }
  | _ => none }
def TrieFormWrongFalsely : Prop := trieFormRow.holds Try.pinned (OpenSpec.ofChange trieFormWrong)

/-- 'loesslaw21.TrieOrder': WHATEVER THE INPUT: true; the input reads as it did. -/
def trieOrderSpec : ChangeSpec := { name := "trieOrder", fn := fun _ => fun
  | [d1, d2, d3, d4] => { results := [.lit (.bool true)], args := [d1, d2, d3, d4] }
  | _ => none }
def trieOrderRow : OpenClaim := { program := "ytobdfehpbgcloaa", sum := "cad9111d9c8fbdf4980e6fef5006ac37c7328eed16ea2eba51b3f0594f1adc47", func := "loess/loesslaw21.TrieOrder", spec := "trieOrder", recurses := true, apart := false }
def TrieOrderSaid : Prop := trieOrderRow.holds Try.pinned (OpenSpec.ofChange trieOrderSpec)

/-- ITS FALSE NEIGHBOUR: 'it returns false'. Refute it at one input. -/
def trieOrderWrong : ChangeSpec := { name := "trieOrder", fn := fun _ => fun
  | [d1, d2, d3, d4] => { results := [.lit (.bool false)], args := [d1, d2, d3, d4] }
  | _ => none }
def TrieOrderWrongFalsely : Prop := trieOrderRow.holds Try.pinned (OpenSpec.ofChange trieOrderWrong)

/-- 'loesslaw21.TrieMany': WHATEVER THE INPUT: true; the input reads as it did. -/
def trieManySpec : ChangeSpec := { name := "trieMany", fn := fun _ => fun
  | [d1, d2] => { results := [.lit (.bool true)], args := [d1, d2] }
  | _ => none }
def trieManyRow : OpenClaim := { program := "ytobdfehpbgcloaa", sum := "cad9111d9c8fbdf4980e6fef5006ac37c7328eed16ea2eba51b3f0594f1adc47", func := "loess/loesslaw21.TrieMany", spec := "trieMany", recurses := true, apart := false }
def TrieManySaid : Prop := trieManyRow.holds Try.pinned (OpenSpec.ofChange trieManySpec)

/-- ITS FALSE NEIGHBOUR: 'it returns false'. Refute it at one input. -/
def trieManyWrong : ChangeSpec := { name := "trieMany", fn := fun _ => fun
  | [d1, d2] => { results := [.lit (.bool false)], args := [d1, d2] }
  | _ => none }
def TrieManyWrongFalsely : Prop := trieManyRow.holds Try.pinned (OpenSpec.ofChange trieManyWrong)

/-- 'loesslaw21.TrieAll': WHATEVER THE INPUT: true; the input reads as it did. -/
def trieAllSpec : ChangeSpec := { name := "trieAll", fn := fun _ => fun
  | [d1, d2, d3] => { results := [.lit (.bool true)], args := [d1, d2, d3] }
  | _ => none }
def trieAllRow : OpenClaim := { program := "ytobdfehpbgcloaa", sum := "cad9111d9c8fbdf4980e6fef5006ac37c7328eed16ea2eba51b3f0594f1adc47", func := "loess/loesslaw21.TrieAll", spec := "trieAll", recurses := true, apart := false }
def TrieAllSaid : Prop := trieAllRow.holds Try.pinned (OpenSpec.ofChange trieAllSpec)

/-- ITS FALSE NEIGHBOUR: 'it returns false'. Refute it at one input. -/
def trieAllWrong : ChangeSpec := { name := "trieAll", fn := fun _ => fun
  | [d1, d2, d3] => { results := [.lit (.bool false)], args := [d1, d2, d3] }
  | _ => none }
def TrieAllWrongFalsely : Prop := trieAllRow.holds Try.pinned (OpenSpec.ofChange trieAllWrong)

/- THE SECOND FORM. 'bulk': how many values and letters a reading holds, each counted each time it is reached (what is shared counts as often as it is met; a slice's spare places count too). A statement '..UptoSaid' is the law's where the arguments, and the package variables that the reading takes, are together of bulk at most 1048576: NARROWER than '..Said'. Prove '..Said' where nothing that the law and all that it calls make is longer than what came in: it says more and counts as full. Else prove '..UptoSaid'. A law counts once. -/
mutual
def uptoBulk {H : Type} : DataW H → Nat
  | .lit (.string bytes) => bytes.length + 1
  | .lit _ => 1
  | .nil => 1
  | .ptr d => uptoBulk d + 1
  | .slice elems spare => uptoBulkAll elems + uptoBulkAll spare + 1
  | .agg parts => uptoBulkAll parts + 1
  | .iface _ d => uptoBulk d + 1
  | .map entries => uptoBulkEntries entries + 1
  | .held _ => 1
def uptoBulkAll {H : Type} : List (DataW H) → Nat
  | [] => 0
  | d :: r => uptoBulk d + uptoBulkAll r
def uptoBulkEntries {H : Type} : List (Lit × DataW H) → Nat
  | [] => 0
  | x :: r => uptoBulkEntry x + uptoBulkEntries r
def uptoBulkEntry {H : Type} : Lit × DataW H → Nat
  | (.string bytes, d) => bytes.length + uptoBulk d + 1
  | (_, d) => uptoBulk d + 1
 end
def uptoSmall : (H : Type) → List (DataW H) → Bool := fun _ ds => decide (uptoBulkAll ds ≤ 1048576)
def OpenSpec.upto (s : _root_.Go.ChangeSpec) : _root_.Go.OpenSpec := { _root_.Go.OpenSpec.ofChange s with cond := some uptoSmall }

/-- 'loesslaw21.TrieAny', WHERE WHAT IT READS IS OF BULK AT MOST 1048576: true; the input reads as it did. -/
def trieAnyUptoRow : OpenClaim := { program := "ytobdfehpbgcloaa", sum := "cad9111d9c8fbdf4980e6fef5006ac37c7328eed16ea2eba51b3f0594f1adc47", func := "loess/loesslaw21.TrieAny", spec := "trieAny", recurses := true, apart := false, narrowed := true }
def TrieAnyUptoSaid : Prop := trieAnyUptoRow.holds Try.pinned (OpenSpec.upto trieAnySpec)

/-- 'loesslaw21.TrieForm', WHERE WHAT IT READS IS OF BULK AT MOST 1048576: true; the input reads as it did. -/
def trieFormUptoRow : OpenClaim := { program := "ytobdfehpbgcloaa", sum := "cad9111d9c8fbdf4980e6fef5006ac37c7328eed16ea2eba51b3f0594f1adc47", func := "loess/loesslaw21.TrieForm", spec := "trieForm", recurses := true, apart := false, narrowed := true }
def TrieFormUptoSaid : Prop := trieFormUptoRow.holds Try.pinned (OpenSpec.upto trieFormSpec)

/-- 'loesslaw21.TrieOrder', WHERE WHAT IT READS IS OF BULK AT MOST 1048576: true; the input reads as it did. -/
def trieOrderUptoRow : OpenClaim := { program := "ytobdfehpbgcloaa", sum := "cad9111d9c8fbdf4980e6fef5006ac37c7328eed16ea2eba51b3f0594f1adc47", func := "loess/loesslaw21.TrieOrder", spec := "trieOrder", recurses := true, apart := false, narrowed := true }
def TrieOrderUptoSaid : Prop := trieOrderUptoRow.holds Try.pinned (OpenSpec.upto trieOrderSpec)

/-- 'loesslaw21.TrieMany', WHERE WHAT IT READS IS OF BULK AT MOST 1048576: true; the input reads as it did. -/
def trieManyUptoRow : OpenClaim := { program := "ytobdfehpbgcloaa", sum := "cad9111d9c8fbdf4980e6fef5006ac37c7328eed16ea2eba51b3f0594f1adc47", func := "loess/loesslaw21.TrieMany", spec := "trieMany", recurses := true, apart := false, narrowed := true }
def TrieManyUptoSaid : Prop := trieManyUptoRow.holds Try.pinned (OpenSpec.upto trieManySpec)

/-- 'loesslaw21.TrieAll', WHERE WHAT IT READS IS OF BULK AT MOST 1048576: true; the input reads as it did. -/
def trieAllUptoRow : OpenClaim := { program := "ytobdfehpbgcloaa", sum := "cad9111d9c8fbdf4980e6fef5006ac37c7328eed16ea2eba51b3f0594f1adc47", func := "loess/loesslaw21.TrieAll", spec := "trieAll", recurses := true, apart := false, narrowed := true }
def TrieAllUptoSaid : Prop := trieAllUptoRow.holds Try.pinned (OpenSpec.upto trieAllSpec)

end Rows
end Go.Proofs.Ytobdfehpbgcloaa
