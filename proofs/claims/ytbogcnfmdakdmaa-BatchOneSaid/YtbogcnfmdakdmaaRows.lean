/-
  No cell of these rows narrows 'for every input' (looked for: loops, veiled, ifaces, maps, wideKeys, modest, calm, conditions, laid).
  DERIVED. THE GIVEN ROWS OF THIS SEAT. 4 by the template 'for every input the law returns true; each argument reads behind the call as it read before'; 0 by the template 'total and deterministic' (their statements: YtbogcnfmdakdmaaTotals.lean).
  GIVEN WITH THE SEED: the statements are not yours to turn. If you find one false, say at which input.
  Laid BY PROGRAM, IN A SANDBOX (cutbox-rows.mjs): the forced cells as the released guide's own fill.sh prints them over the translation 5c0715f4aeb7bcbb… (all of the seat's roots in one cut). By AI agents, Wed Nov 11 2026. No macro, syntax, notation, axiom, sorry.
-/
import Derived.Test.YtbogcnfmdakdmaaChecked
import GoSem.Claim
import GoSem.ClaimJoined
import GoSem.ClaimMapViews
import Derived.JoinedTies
import Derived.KernelRfl
namespace Go.Proofs.Ytbogcnfmdakdmaa
/- THE CELL 'sum', in the pinned program and in every row, IS THE sha256 OF THE DUMP (.gsa) THAT YtbogcnfmdakdmaaProg.lean LOADS. Nothing in Lean hashes anything: it is a label: what it is worth is what the hold of that sum in a sandbox is worth. -/
noncomputable def Try.pinned : Pinned := { name := "ytbogcnfmdakdmaa", sum := "5c0715f4aeb7bcbbfd9992716bff0ff82e24bb5a2366391de34a64cc4b68ffd1", checked := Try.checked }
namespace Rows
def none {H : Type} : Left H := { results := [], args := [] }

/-- 'loesslaw16.BatchAll': WHATEVER THE INPUT: true; the input reads as it did. -/
def batchAllSpec : ChangeSpec := { name := "batchAll", fn := fun _ => fun
  | [d1, d2] => { results := [.lit (.bool true)], args := [d1, d2] }
  | _ => none }
def batchAllRow : OpenClaim := { program := "ytbogcnfmdakdmaa", sum := "5c0715f4aeb7bcbbfd9992716bff0ff82e24bb5a2366391de34a64cc4b68ffd1", func := "loess/loesslaw16.BatchAll", spec := "batchAll", unfollowed := true, recurses := true, apart := false }
def BatchAllSaid : Prop := batchAllRow.holds Try.pinned (OpenSpec.ofChange batchAllSpec)

/-- ITS FALSE NEIGHBOUR: 'it returns false'. Refute it at one input. -/
def batchAllWrong : ChangeSpec := { name := "batchAll", fn := fun _ => fun
  | [d1, d2] => { results := [.lit (.bool false)], args := [d1, d2] }
  | _ => none }
def BatchAllWrongFalsely : Prop := batchAllRow.holds Try.pinned (OpenSpec.ofChange batchAllWrong)

/-- 'loesslaw16.BatchAny': WHATEVER THE INPUT: true; the input reads as it did. -/
def batchAnySpec : ChangeSpec := { name := "batchAny", fn := fun _ => fun
  | [d1, d2, d3, d4] => { results := [.lit (.bool true)], args := [d1, d2, d3, d4] }
  | _ => none }
def batchAnyRow : OpenClaim := { program := "ytbogcnfmdakdmaa", sum := "5c0715f4aeb7bcbbfd9992716bff0ff82e24bb5a2366391de34a64cc4b68ffd1", func := "loess/loesslaw16.BatchAny", spec := "batchAny", unfollowed := true, recurses := true, apart := false }
def BatchAnySaid : Prop := batchAnyRow.holds Try.pinned (OpenSpec.ofChange batchAnySpec)

/-- ITS FALSE NEIGHBOUR: 'it returns false'. Refute it at one input. -/
def batchAnyWrong : ChangeSpec := { name := "batchAny", fn := fun _ => fun
  | [d1, d2, d3, d4] => { results := [.lit (.bool false)], args := [d1, d2, d3, d4] }
  | _ => none }
def BatchAnyWrongFalsely : Prop := batchAnyRow.holds Try.pinned (OpenSpec.ofChange batchAnyWrong)

/-- 'loesslaw16.BatchMany': WHATEVER THE INPUT: true; the input reads as it did. -/
def batchManySpec : ChangeSpec := { name := "batchMany", fn := fun _ => fun
  | [d] => { results := [.lit (.bool true)], args := [d] }
  | _ => none }
def batchManyRow : OpenClaim := { program := "ytbogcnfmdakdmaa", sum := "5c0715f4aeb7bcbbfd9992716bff0ff82e24bb5a2366391de34a64cc4b68ffd1", func := "loess/loesslaw16.BatchMany", spec := "batchMany", unfollowed := true, recurses := true, apart := false }
def BatchManySaid : Prop := batchManyRow.holds Try.pinned (OpenSpec.ofChange batchManySpec)

/-- ITS FALSE NEIGHBOUR: 'it returns false'. Refute it at one input. -/
def batchManyWrong : ChangeSpec := { name := "batchMany", fn := fun _ => fun
  | [d] => { results := [.lit (.bool false)], args := [d] }
  | _ => none }
def BatchManyWrongFalsely : Prop := batchManyRow.holds Try.pinned (OpenSpec.ofChange batchManyWrong)

/-- 'loesslaw16.BatchOne': WHATEVER THE INPUT: true; the input reads as it did. -/
def batchOneSpec : ChangeSpec := { name := "batchOne", fn := fun _ => fun
  | [d1, d2, d3] => { results := [.lit (.bool true)], args := [d1, d2, d3] }
  | _ => none }
def batchOneRow : OpenClaim := { program := "ytbogcnfmdakdmaa", sum := "5c0715f4aeb7bcbbfd9992716bff0ff82e24bb5a2366391de34a64cc4b68ffd1", func := "loess/loesslaw16.BatchOne", spec := "batchOne", unfollowed := true, recurses := true, apart := false }
def BatchOneSaid : Prop := batchOneRow.holds Try.pinned (OpenSpec.ofChange batchOneSpec)

/-- ITS FALSE NEIGHBOUR: 'it returns false'. Refute it at one input. -/
def batchOneWrong : ChangeSpec := { name := "batchOne", fn := fun _ => fun
  | [d1, d2, d3] => { results := [.lit (.bool false)], args := [d1, d2, d3] }
  | _ => none }
def BatchOneWrongFalsely : Prop := batchOneRow.holds Try.pinned (OpenSpec.ofChange batchOneWrong)

/- THE SECOND FORM. 'bulk': how many values and letters a reading holds, each counted each time it is reached (what is shared counts as often as it is met; a slice's spare places count too). A statement '..UptoSaid' is the law's where the arguments, and the package variables that the reading takes, are together of bulk at most 1048576: NARROWER than '..Said'. Prove '..Said' where nothing that the law and all that it calls make is longer than what came in: it says more and counts as full. Else prove '..UptoSaid'. A law counts once. -/
mutual
def uptoBulk {H : Type} : DataW H → Nat
  | .lit (.string bytes) => bytes.length + 1
  | .lit _ => 1
  | .nil => 1
  | .ptr d => uptoBulk d + 1
  | .slice elems spare => uptoBulkAll elems + uptoBulkAll spare + 1
  | .agg parts => uptoBulkAll parts + 1
  | .iface _ d => uptoBulk d + 1
  | .map entries => uptoBulkEntries entries + 1
  | .held _ => 1
def uptoBulkAll {H : Type} : List (DataW H) → Nat
  | [] => 0
  | d :: r => uptoBulk d + uptoBulkAll r
def uptoBulkEntries {H : Type} : List (Lit × DataW H) → Nat
  | [] => 0
  | x :: r => uptoBulkEntry x + uptoBulkEntries r
def uptoBulkEntry {H : Type} : Lit × DataW H → Nat
  | (.string bytes, d) => bytes.length + uptoBulk d + 1
  | (_, d) => uptoBulk d + 1
 end
def uptoSmall : (H : Type) → List (DataW H) → Bool := fun _ ds => decide (uptoBulkAll ds ≤ 1048576)
def OpenSpec.upto (s : _root_.Go.ChangeSpec) : _root_.Go.OpenSpec := { _root_.Go.OpenSpec.ofChange s with cond := some uptoSmall }

/-- 'loesslaw16.BatchAll', WHERE WHAT IT READS IS OF BULK AT MOST 1048576: true; the input reads as it did. -/
def batchAllUptoRow : OpenClaim := { program := "ytbogcnfmdakdmaa", sum := "5c0715f4aeb7bcbbfd9992716bff0ff82e24bb5a2366391de34a64cc4b68ffd1", func := "loess/loesslaw16.BatchAll", spec := "batchAll", unfollowed := true, recurses := true, apart := false, narrowed := true }
def BatchAllUptoSaid : Prop := batchAllUptoRow.holds Try.pinned (OpenSpec.upto batchAllSpec)

/-- 'loesslaw16.BatchAny', WHERE WHAT IT READS IS OF BULK AT MOST 1048576: true; the input reads as it did. -/
def batchAnyUptoRow : OpenClaim := { program := "ytbogcnfmdakdmaa", sum := "5c0715f4aeb7bcbbfd9992716bff0ff82e24bb5a2366391de34a64cc4b68ffd1", func := "loess/loesslaw16.BatchAny", spec := "batchAny", unfollowed := true, recurses := true, apart := false, narrowed := true }
def BatchAnyUptoSaid : Prop := batchAnyUptoRow.holds Try.pinned (OpenSpec.upto batchAnySpec)

/-- 'loesslaw16.BatchMany', WHERE WHAT IT READS IS OF BULK AT MOST 1048576: true; the input reads as it did. -/
def batchManyUptoRow : OpenClaim := { program := "ytbogcnfmdakdmaa", sum := "5c0715f4aeb7bcbbfd9992716bff0ff82e24bb5a2366391de34a64cc4b68ffd1", func := "loess/loesslaw16.BatchMany", spec := "batchMany", unfollowed := true, recurses := true, apart := false, narrowed := true }
def BatchManyUptoSaid : Prop := batchManyUptoRow.holds Try.pinned (OpenSpec.upto batchManySpec)

/-- 'loesslaw16.BatchOne', WHERE WHAT IT READS IS OF BULK AT MOST 1048576: true; the input reads as it did. -/
def batchOneUptoRow : OpenClaim := { program := "ytbogcnfmdakdmaa", sum := "5c0715f4aeb7bcbbfd9992716bff0ff82e24bb5a2366391de34a64cc4b68ffd1", func := "loess/loesslaw16.BatchOne", spec := "batchOne", unfollowed := true, recurses := true, apart := false, narrowed := true }
def BatchOneUptoSaid : Prop := batchOneUptoRow.holds Try.pinned (OpenSpec.upto batchOneSpec)

end Rows
end Go.Proofs.Ytbogcnfmdakdmaa
