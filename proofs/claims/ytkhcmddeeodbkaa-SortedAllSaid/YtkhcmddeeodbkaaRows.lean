/-
  No cell of these rows narrows 'for every input' (looked for: loops, veiled, ifaces, maps, wideKeys, modest, calm, conditions, laid).
  DERIVED. THE GIVEN ROWS OF THIS SEAT. 7 by the template 'for every input the law returns true; each argument reads behind the call as it read before'; 0 by the template 'total and deterministic' (their statements: YtkhcmddeeodbkaaTotals.lean).
  GIVEN WITH THE SEED: the statements are not yours to turn. If you find one false, say at which input.
  Laid BY PROGRAM, IN A SANDBOX (cutbox-rows.mjs): the forced cells as the released guide's own fill.sh prints them over the translation d1d454fe318d4763… (all of the seat's roots in one cut). By AI agents, Wed Nov 11 2026. No macro, syntax, notation, axiom, sorry.
-/
import Derived.Test.YtkhcmddeeodbkaaChecked
import GoSem.Claim
import GoSem.ClaimJoined
import GoSem.ClaimMapViews
import Derived.JoinedTies
import Derived.KernelRfl
namespace Go.Proofs.Ytkhcmddeeodbkaa
/- THE CELL 'sum', in the pinned program and in every row, IS THE sha256 OF THE DUMP (.gsa) THAT YtkhcmddeeodbkaaProg.lean LOADS. Nothing in Lean hashes anything: it is a label: what it is worth is what the hold of that sum in a sandbox is worth. -/
noncomputable def Try.pinned : Pinned := { name := "ytkhcmddeeodbkaa", sum := "d1d454fe318d4763d7e8d24f5c49ca9e5c27ac03ec1613dc6a140bb7e6e47656", checked := Try.checked }
namespace Rows
def none {H : Type} : Left H := { results := [], args := [] }

/-- 'loesslaw22.SortedForm': WHATEVER THE INPUT: true; the input reads as it did. -/
def sortedFormSpec : ChangeSpec := { name := "sortedForm", fn := fun _ => fun
  | [d1, d2, d3] => { results := [.lit (.bool true)], args := [d1, d2, d3] }
  | _ => none }
def sortedFormRow : OpenClaim := { program := "ytkhcmddeeodbkaa", sum := "d1d454fe318d4763d7e8d24f5c49ca9e5c27ac03ec1613dc6a140bb7e6e47656", func := "loess/loesslaw22.SortedForm", spec := "sortedForm", recurses := true, apart := false }
def SortedFormSaid : Prop := sortedFormRow.holds Try.pinned (OpenSpec.ofChange sortedFormSpec)

/-- ITS FALSE NEIGHBOUR: 'it returns false'. Refute it at one input. -/
def sortedFormWrong : ChangeSpec := { name := "sortedForm", fn := fun _ => fun
  | [d1, d2, d3] => { results := [.lit (.bool false)], args := [d1, d2, d3] }
  | _ => none }
def SortedFormWrongFalsely : Prop := sortedFormRow.holds Try.pinned (OpenSpec.ofChange sortedFormWrong)

/-- 'loesslaw22.SortedSame': WHATEVER THE INPUT: true; the input reads as it did. -/
def sortedSameSpec : ChangeSpec := { name := "sortedSame", fn := fun _ => fun
  | [d1, d2] => { results := [.lit (.bool true)], args := [d1, d2] }
  | _ => none }
def sortedSameRow : OpenClaim := { program := "ytkhcmddeeodbkaa", sum := "d1d454fe318d4763d7e8d24f5c49ca9e5c27ac03ec1613dc6a140bb7e6e47656", func := "loess/loesslaw22.SortedSame", spec := "sortedSame", recurses := true, apart := false }
def SortedSameSaid : Prop := sortedSameRow.holds Try.pinned (OpenSpec.ofChange sortedSameSpec)

/-- ITS FALSE NEIGHBOUR: 'it returns false'. Refute it at one input. -/
def sortedSameWrong : ChangeSpec := { name := "sortedSame", fn := fun _ => fun
  | [d1, d2] => { results := [.lit (.bool false)], args := [d1, d2] }
  | _ => none }
def SortedSameWrongFalsely : Prop := sortedSameRow.holds Try.pinned (OpenSpec.ofChange sortedSameWrong)

/-- 'loesslaw22.SortedOne': WHATEVER THE INPUT: true; the input reads as it did. -/
def sortedOneSpec : ChangeSpec := { name := "sortedOne", fn := fun _ => fun
  | [d1, d2] => { results := [.lit (.bool true)], args := [d1, d2] }
  | _ => none }
def sortedOneRow : OpenClaim := { program := "ytkhcmddeeodbkaa", sum := "d1d454fe318d4763d7e8d24f5c49ca9e5c27ac03ec1613dc6a140bb7e6e47656", func := "loess/loesslaw22.SortedOne", spec := "sortedOne", recurses := true, apart := false }
def SortedOneSaid : Prop := sortedOneRow.holds Try.pinned (OpenSpec.ofChange sortedOneSpec)

/-- ITS FALSE NEIGHBOUR: 'it returns false'. Refute it at one input. -/
def sortedOneWrong : ChangeSpec := { name := "sortedOne", fn := fun _ => fun
  | [d1, d2] => { results := [.lit (.bool false)], args := [d1, d2] }
  | _ => none }
def SortedOneWrongFalsely : Prop := sortedOneRow.holds Try.pinned (OpenSpec.ofChange sortedOneWrong)

/-- 'loesslaw22.SortedOrder': WHATEVER THE INPUT: true; the input reads as it did. -/
def sortedOrderSpec : ChangeSpec := { name := "sortedOrder", fn := fun _ => fun
  | [d1, d2, d3] => { results := [.lit (.bool true)], args := [d1, d2, d3] }
  | _ => none }
def sortedOrderRow : OpenClaim := { program := "ytkhcmddeeodbkaa", sum := "d1d454fe318d4763d7e8d24f5c49ca9e5c27ac03ec1613dc6a140bb7e6e47656", func := "loess/loesslaw22.SortedOrder", spec := "sortedOrder", recurses := true, apart := false }
def SortedOrderSaid : Prop := sortedOrderRow.holds Try.pinned (OpenSpec.ofChange sortedOrderSpec)

/-- ITS FALSE NEIGHBOUR: 'it returns false'. Refute it at one input. -/
def sortedOrderWrong : ChangeSpec := { name := "sortedOrder", fn := fun _ => fun
  | [d1, d2, d3] => { results := [.lit (.bool false)], args := [d1, d2, d3] }
  | _ => none }
def SortedOrderWrongFalsely : Prop := sortedOrderRow.holds Try.pinned (OpenSpec.ofChange sortedOrderWrong)

/-- 'loesslaw22.SortedAll': WHATEVER THE INPUT: true; the input reads as it did. -/
def sortedAllSpec : ChangeSpec := { name := "sortedAll", fn := fun _ => fun
  | [d1, d2] => { results := [.lit (.bool true)], args := [d1, d2] }
  | _ => none }
def sortedAllRow : OpenClaim := { program := "ytkhcmddeeodbkaa", sum := "d1d454fe318d4763d7e8d24f5c49ca9e5c27ac03ec1613dc6a140bb7e6e47656", func := "loess/loesslaw22.SortedAll", spec := "sortedAll", recurses := true, apart := false }
def SortedAllSaid : Prop := sortedAllRow.holds Try.pinned (OpenSpec.ofChange sortedAllSpec)

/-- ITS FALSE NEIGHBOUR: 'it returns false'. Refute it at one input. -/
def sortedAllWrong : ChangeSpec := { name := "sortedAll", fn := fun _ => fun
  | [d1, d2] => { results := [.lit (.bool false)], args := [d1, d2] }
  | _ => none }
def SortedAllWrongFalsely : Prop := sortedAllRow.holds Try.pinned (OpenSpec.ofChange sortedAllWrong)

/-- 'loesslaw22.SortedAny': WHATEVER THE INPUT: true; the input reads as it did. -/
def sortedAnySpec : ChangeSpec := { name := "sortedAny", fn := fun _ => fun
  | [d1, d2, d3, d4] => { results := [.lit (.bool true)], args := [d1, d2, d3, d4] }
  | _ => none }
def sortedAnyRow : OpenClaim := { program := "ytkhcmddeeodbkaa", sum := "d1d454fe318d4763d7e8d24f5c49ca9e5c27ac03ec1613dc6a140bb7e6e47656", func := "loess/loesslaw22.SortedAny", spec := "sortedAny", recurses := true, apart := false }
def SortedAnySaid : Prop := sortedAnyRow.holds Try.pinned (OpenSpec.ofChange sortedAnySpec)

/-- ITS FALSE NEIGHBOUR: 'it returns false'. Refute it at one input. -/
def sortedAnyWrong : ChangeSpec := { name := "sortedAny", fn := fun _ => fun
  | [d1, d2, d3, d4] => { results := [.lit (.bool false)], args := [d1, d2, d3, d4] }
  | _ => none }
def SortedAnyWrongFalsely : Prop := sortedAnyRow.holds Try.pinned (OpenSpec.ofChange sortedAnyWrong)

/-- 'loesslaw22.SortedNone': WHATEVER THE INPUT: true; the input reads as it did. -/
def sortedNoneSpec : ChangeSpec := { name := "sortedNone", fn := fun _ => fun
  | [] => { results := [.lit (.bool true)], args := [] }
  | _ => none }
def sortedNoneRow : OpenClaim := { program := "ytkhcmddeeodbkaa", sum := "d1d454fe318d4763d7e8d24f5c49ca9e5c27ac03ec1613dc6a140bb7e6e47656", func := "loess/loesslaw22.SortedNone", spec := "sortedNone", recurses := true, apart := false }
def SortedNoneSaid : Prop := sortedNoneRow.holds Try.pinned (OpenSpec.ofChange sortedNoneSpec)

/-- ITS FALSE NEIGHBOUR: 'it returns false'. Refute it at one input. -/
def sortedNoneWrong : ChangeSpec := { name := "sortedNone", fn := fun _ => fun
  | [] => { results := [.lit (.bool false)], args := [] }
  | _ => none }
def SortedNoneWrongFalsely : Prop := sortedNoneRow.holds Try.pinned (OpenSpec.ofChange sortedNoneWrong)

/- THE SECOND FORM. 'bulk': how many values and letters a reading holds, each counted each time it is reached (what is shared counts as often as it is met; a slice's spare places count too). A statement '..UptoSaid' is the law's where the arguments, and the package variables that the reading takes, are together of bulk at most 1048576: NARROWER than '..Said'. Prove '..Said' where nothing that the law and all that it calls make is longer than what came in: it says more and counts as full. Else prove '..UptoSaid'. A law counts once. -/
mutual
def uptoBulk {H : Type} : DataW H → Nat
  | .lit (.string bytes) => bytes.length + 1
  | .lit _ => 1
  | .nil => 1
  | .ptr d => uptoBulk d + 1
  | .slice elems spare => uptoBulkAll elems + uptoBulkAll spare + 1
  | .agg parts => uptoBulkAll parts + 1
  | .iface _ d => uptoBulk d + 1
  | .map entries => uptoBulkEntries entries + 1
  | .held _ => 1
def uptoBulkAll {H : Type} : List (DataW H) → Nat
  | [] => 0
  | d :: r => uptoBulk d + uptoBulkAll r
def uptoBulkEntries {H : Type} : List (Lit × DataW H) → Nat
  | [] => 0
  | x :: r => uptoBulkEntry x + uptoBulkEntries r
def uptoBulkEntry {H : Type} : Lit × DataW H → Nat
  | (.string bytes, d) => bytes.length + uptoBulk d + 1
  | (_, d) => uptoBulk d + 1
 end
def uptoSmall : (H : Type) → List (DataW H) → Bool := fun _ ds => decide (uptoBulkAll ds ≤ 1048576)
def OpenSpec.upto (s : _root_.Go.ChangeSpec) : _root_.Go.OpenSpec := { _root_.Go.OpenSpec.ofChange s with cond := some uptoSmall }

/-- 'loesslaw22.SortedForm', WHERE WHAT IT READS IS OF BULK AT MOST 1048576: true; the input reads as it did. -/
def sortedFormUptoRow : OpenClaim := { program := "ytkhcmddeeodbkaa", sum := "d1d454fe318d4763d7e8d24f5c49ca9e5c27ac03ec1613dc6a140bb7e6e47656", func := "loess/loesslaw22.SortedForm", spec := "sortedForm", recurses := true, apart := false, narrowed := true }
def SortedFormUptoSaid : Prop := sortedFormUptoRow.holds Try.pinned (OpenSpec.upto sortedFormSpec)

/-- 'loesslaw22.SortedSame', WHERE WHAT IT READS IS OF BULK AT MOST 1048576: true; the input reads as it did. -/
def sortedSameUptoRow : OpenClaim := { program := "ytkhcmddeeodbkaa", sum := "d1d454fe318d4763d7e8d24f5c49ca9e5c27ac03ec1613dc6a140bb7e6e47656", func := "loess/loesslaw22.SortedSame", spec := "sortedSame", recurses := true, apart := false, narrowed := true }
def SortedSameUptoSaid : Prop := sortedSameUptoRow.holds Try.pinned (OpenSpec.upto sortedSameSpec)

/-- 'loesslaw22.SortedOne', WHERE WHAT IT READS IS OF BULK AT MOST 1048576: true; the input reads as it did. -/
def sortedOneUptoRow : OpenClaim := { program := "ytkhcmddeeodbkaa", sum := "d1d454fe318d4763d7e8d24f5c49ca9e5c27ac03ec1613dc6a140bb7e6e47656", func := "loess/loesslaw22.SortedOne", spec := "sortedOne", recurses := true, apart := false, narrowed := true }
def SortedOneUptoSaid : Prop := sortedOneUptoRow.holds Try.pinned (OpenSpec.upto sortedOneSpec)

/-- 'loesslaw22.SortedOrder', WHERE WHAT IT READS IS OF BULK AT MOST 1048576: true; the input reads as it did. -/
def sortedOrderUptoRow : OpenClaim := { program := "ytkhcmddeeodbkaa", sum := "d1d454fe318d4763d7e8d24f5c49ca9e5c27ac03ec1613dc6a140bb7e6e47656", func := "loess/loesslaw22.SortedOrder", spec := "sortedOrder", recurses := true, apart := false, narrowed := true }
def SortedOrderUptoSaid : Prop := sortedOrderUptoRow.holds Try.pinned (OpenSpec.upto sortedOrderSpec)

/-- 'loesslaw22.SortedAll', WHERE WHAT IT READS IS OF BULK AT MOST 1048576: true; the input reads as it did. -/
def sortedAllUptoRow : OpenClaim := { program := "ytkhcmddeeodbkaa", sum := "d1d454fe318d4763d7e8d24f5c49ca9e5c27ac03ec1613dc6a140bb7e6e47656", func := "loess/loesslaw22.SortedAll", spec := "sortedAll", recurses := true, apart := false, narrowed := true }
def SortedAllUptoSaid : Prop := sortedAllUptoRow.holds Try.pinned (OpenSpec.upto sortedAllSpec)

/-- 'loesslaw22.SortedAny', WHERE WHAT IT READS IS OF BULK AT MOST 1048576: true; the input reads as it did. -/
def sortedAnyUptoRow : OpenClaim := { program := "ytkhcmddeeodbkaa", sum := "d1d454fe318d4763d7e8d24f5c49ca9e5c27ac03ec1613dc6a140bb7e6e47656", func := "loess/loesslaw22.SortedAny", spec := "sortedAny", recurses := true, apart := false, narrowed := true }
def SortedAnyUptoSaid : Prop := sortedAnyUptoRow.holds Try.pinned (OpenSpec.upto sortedAnySpec)

/-- 'loesslaw22.SortedNone', WHERE WHAT IT READS IS OF BULK AT MOST 1048576: true; the input reads as it did. -/
def sortedNoneUptoRow : OpenClaim := { program := "ytkhcmddeeodbkaa", sum := "d1d454fe318d4763d7e8d24f5c49ca9e5c27ac03ec1613dc6a140bb7e6e47656", func := "loess/loesslaw22.SortedNone", spec := "sortedNone", recurses := true, apart := false, narrowed := true }
def SortedNoneUptoSaid : Prop := sortedNoneUptoRow.holds Try.pinned (OpenSpec.upto sortedNoneSpec)

end Rows
end Go.Proofs.Ytkhcmddeeodbkaa
