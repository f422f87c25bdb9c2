/-
  No cell of these rows narrows 'for every input' (looked for: loops, veiled, ifaces, maps, wideKeys, modest, calm, conditions, laid).
  DERIVED. THE GIVEN ROWS OF THIS SEAT. 8 by the template 'for every input the law returns true; each argument reads behind the call as it read before'; 0 by the template 'total and deterministic' (their statements: YtbeoegdkoodlfaaTotals.lean).
  GIVEN WITH THE SEED: the statements are not yours to turn. If you find one false, say at which input.
  Laid BY PROGRAM, IN A SANDBOX (cutbox-rows.mjs): the forced cells as the released guide's own fill.sh prints them over the translation 2b12cd39a3285f6d… (all of the seat's roots in one cut). By AI agents, Wed Nov 11 2026. No macro, syntax, notation, axiom, sorry.
-/
import Derived.Test.YtbeoegdkoodlfaaChecked
import GoSem.Claim
import GoSem.ClaimJoined
import GoSem.ClaimMapViews
import Derived.JoinedTies
import Derived.KernelRfl
namespace Go.Proofs.Ytbeoegdkoodlfaa
/- THE CELL 'sum', in the pinned program and in every row, IS THE sha256 OF THE DUMP (.gsa) THAT YtbeoegdkoodlfaaProg.lean LOADS. Nothing in Lean hashes anything: it is a label: what it is worth is what the hold of that sum in a sandbox is worth. -/
noncomputable def Try.pinned : Pinned := { name := "ytbeoegdkoodlfaa", sum := "2b12cd39a3285f6d362d19bcc56fa49007d50bcb3ef0868e27ed430dbf0c76f1", checked := Try.checked }
namespace Rows
def none {H : Type} : Left H := { results := [], args := [] }

/-- 'loesslaw4.ValueAll': WHATEVER THE INPUT: true; the input reads as it did. -/
def valueAllSpec : ChangeSpec := { name := "valueAll", fn := fun _ => fun
  | [d] => { results := [.lit (.bool true)], args := [d] }
  | _ => none }
def valueAllRow : OpenClaim := { program := "ytbeoegdkoodlfaa", sum := "2b12cd39a3285f6d362d19bcc56fa49007d50bcb3ef0868e27ed430dbf0c76f1", func := "loess/loesslaw4.ValueAll", spec := "valueAll", unfollowed := true, recurses := true, apart := false }
def ValueAllSaid : Prop := valueAllRow.holds Try.pinned (OpenSpec.ofChange valueAllSpec)

/-- ITS FALSE NEIGHBOUR: 'it returns false'. Refute it at one input. -/
def valueAllWrong : ChangeSpec := { name := "valueAll", fn := fun _ => fun
  | [d] => { results := [.lit (.bool false)], args := [d] }
  | _ => none }
def ValueAllWrongFalsely : Prop := valueAllRow.holds Try.pinned (OpenSpec.ofChange valueAllWrong)

/-- 'loesslaw4.ValueTexts': WHATEVER THE INPUT: true; the input reads as it did. -/
def valueTextsSpec : ChangeSpec := { name := "valueTexts", fn := fun _ => fun
  | [d1, d2] => { results := [.lit (.bool true)], args := [d1, d2] }
  | _ => none }
def valueTextsRow : OpenClaim := { program := "ytbeoegdkoodlfaa", sum := "2b12cd39a3285f6d362d19bcc56fa49007d50bcb3ef0868e27ed430dbf0c76f1", func := "loess/loesslaw4.ValueTexts", spec := "valueTexts", apart := false }
def ValueTextsSaid : Prop := valueTextsRow.holds Try.pinned (OpenSpec.ofChange valueTextsSpec)

/-- ITS FALSE NEIGHBOUR: 'it returns false'. Refute it at one input. -/
def valueTextsWrong : ChangeSpec := { name := "valueTexts", fn := fun _ => fun
  | [d1, d2] => { results := [.lit (.bool false)], args := [d1, d2] }
  | _ => none }
def ValueTextsWrongFalsely : Prop := valueTextsRow.holds Try.pinned (OpenSpec.ofChange valueTextsWrong)

/-- 'loesslaw4.ValueNone': WHATEVER THE INPUT: true; the input reads as it did. -/
def valueNoneSpec : ChangeSpec := { name := "valueNone", fn := fun _ => fun
  | [] => { results := [.lit (.bool true)], args := [] }
  | _ => none }
def valueNoneRow : OpenClaim := { program := "ytbeoegdkoodlfaa", sum := "2b12cd39a3285f6d362d19bcc56fa49007d50bcb3ef0868e27ed430dbf0c76f1", func := "loess/loesslaw4.ValueNone", spec := "valueNone", unfollowed := true, recurses := true, apart := false }
def ValueNoneSaid : Prop := valueNoneRow.holds Try.pinned (OpenSpec.ofChange valueNoneSpec)

/-- ITS FALSE NEIGHBOUR: 'it returns false'. Refute it at one input. -/
def valueNoneWrong : ChangeSpec := { name := "valueNone", fn := fun _ => fun
  | [] => { results := [.lit (.bool false)], args := [] }
  | _ => none }
def ValueNoneWrongFalsely : Prop := valueNoneRow.holds Try.pinned (OpenSpec.ofChange valueNoneWrong)

/-- 'loesslaw4.ValueNums': WHATEVER THE INPUT: true; the input reads as it did. -/
def valueNumsSpec : ChangeSpec := { name := "valueNums", fn := fun _ => fun
  | [d] => { results := [.lit (.bool true)], args := [d] }
  | _ => none }
def valueNumsRow : OpenClaim := { program := "ytbeoegdkoodlfaa", sum := "2b12cd39a3285f6d362d19bcc56fa49007d50bcb3ef0868e27ed430dbf0c76f1", func := "loess/loesslaw4.ValueNums", spec := "valueNums", unfollowed := true, recurses := true, apart := false }
def ValueNumsSaid : Prop := valueNumsRow.holds Try.pinned (OpenSpec.ofChange valueNumsSpec)

/-- ITS FALSE NEIGHBOUR: 'it returns false'. Refute it at one input. -/
def valueNumsWrong : ChangeSpec := { name := "valueNums", fn := fun _ => fun
  | [d] => { results := [.lit (.bool false)], args := [d] }
  | _ => none }
def ValueNumsWrongFalsely : Prop := valueNumsRow.holds Try.pinned (OpenSpec.ofChange valueNumsWrong)

/-- 'loesslaw4.ValueAny': WHATEVER THE INPUT: true; the input reads as it did. -/
def valueAnySpec : ChangeSpec := { name := "valueAny", fn := fun _ => fun
  | [d] => { results := [.lit (.bool true)], args := [d] }
  | _ => none }
def valueAnyRow : OpenClaim := { program := "ytbeoegdkoodlfaa", sum := "2b12cd39a3285f6d362d19bcc56fa49007d50bcb3ef0868e27ed430dbf0c76f1", func := "loess/loesslaw4.ValueAny", spec := "valueAny", apart := false }
def ValueAnySaid : Prop := valueAnyRow.holds Try.pinned (OpenSpec.ofChange valueAnySpec)

/-- ITS FALSE NEIGHBOUR: 'it returns false'. Refute it at one input. -/
def valueAnyWrong : ChangeSpec := { name := "valueAny", fn := fun _ => fun
  | [d] => { results := [.lit (.bool false)], args := [d] }
  | _ => none }
def ValueAnyWrongFalsely : Prop := valueAnyRow.holds Try.pinned (OpenSpec.ofChange valueAnyWrong)

/-- 'loesslaw4.ValueBytes': WHATEVER THE INPUT: true; the input reads as it did. -/
def valueBytesSpec : ChangeSpec := { name := "valueBytes", fn := fun _ => fun
  | [d1, d2, d3, d4] => { results := [.lit (.bool true)], args := [d1, d2, d3, d4] }
  | _ => none }
def valueBytesRow : OpenClaim := { program := "ytbeoegdkoodlfaa", sum := "2b12cd39a3285f6d362d19bcc56fa49007d50bcb3ef0868e27ed430dbf0c76f1", func := "loess/loesslaw4.ValueBytes", spec := "valueBytes", apart := false }
def ValueBytesSaid : Prop := valueBytesRow.holds Try.pinned (OpenSpec.ofChange valueBytesSpec)

/-- ITS FALSE NEIGHBOUR: 'it returns false'. Refute it at one input. -/
def valueBytesWrong : ChangeSpec := { name := "valueBytes", fn := fun _ => fun
  | [d1, d2, d3, d4] => { results := [.lit (.bool false)], args := [d1, d2, d3, d4] }
  | _ => none }
def ValueBytesWrongFalsely : Prop := valueBytesRow.holds Try.pinned (OpenSpec.ofChange valueBytesWrong)

/-- 'loesslaw4.ValueMany': WHATEVER THE INPUT: true; the input reads as it did. -/
def valueManySpec : ChangeSpec := { name := "valueMany", fn := fun _ => fun
  | [d] => { results := [.lit (.bool true)], args := [d] }
  | _ => none }
def valueManyRow : OpenClaim := { program := "ytbeoegdkoodlfaa", sum := "2b12cd39a3285f6d362d19bcc56fa49007d50bcb3ef0868e27ed430dbf0c76f1", func := "loess/loesslaw4.ValueMany", spec := "valueMany", apart := false }
def ValueManySaid : Prop := valueManyRow.holds Try.pinned (OpenSpec.ofChange valueManySpec)

/-- ITS FALSE NEIGHBOUR: 'it returns false'. Refute it at one input. -/
def valueManyWrong : ChangeSpec := { name := "valueMany", fn := fun _ => fun
  | [d] => { results := [.lit (.bool false)], args := [d] }
  | _ => none }
def ValueManyWrongFalsely : Prop := valueManyRow.holds Try.pinned (OpenSpec.ofChange valueManyWrong)

/-- 'loesslaw4.ValueCut': WHATEVER THE INPUT: true; the input reads as it did. -/
def valueCutSpec : ChangeSpec := { name := "valueCut", fn := fun _ => fun
  | [d1, d2] => { results := [.lit (.bool true)], args := [d1, d2] }
  | _ => none }
def valueCutRow : OpenClaim := { program := "ytbeoegdkoodlfaa", sum := "2b12cd39a3285f6d362d19bcc56fa49007d50bcb3ef0868e27ed430dbf0c76f1", func := "loess/loesslaw4.ValueCut", spec := "valueCut", apart := false }
def ValueCutSaid : Prop := valueCutRow.holds Try.pinned (OpenSpec.ofChange valueCutSpec)

/-- ITS FALSE NEIGHBOUR: 'it returns false'. Refute it at one input. -/
def valueCutWrong : ChangeSpec := { name := "valueCut", fn := fun _ => fun
  | [d1, d2] => { results := [.lit (.bool false)], args := [d1, d2] }
  | _ => none }
def ValueCutWrongFalsely : Prop := valueCutRow.holds Try.pinned (OpenSpec.ofChange valueCutWrong)

/- THE SECOND FORM. 'bulk': how many values and letters a reading holds, each counted each time it is reached (what is shared counts as often as it is met; a slice's spare places count too). A statement '..UptoSaid' is the law's where the arguments, and the package variables that the reading takes, are together of bulk at most 1048576: NARROWER than '..Said'. Prove '..Said' where nothing that the law and all that it calls make is longer than what came in: it says more and counts as full. Else prove '..UptoSaid'. A law counts once. -/
mutual
def uptoBulk {H : Type} : DataW H → Nat
  | .lit (.string bytes) => bytes.length + 1
  | .lit _ => 1
  | .nil => 1
  | .ptr d => uptoBulk d + 1
  | .slice elems spare => uptoBulkAll elems + uptoBulkAll spare + 1
  | .agg parts => uptoBulkAll parts + 1
  | .iface _ d => uptoBulk d + 1
  | .map entries => uptoBulkEntries entries + 1
  | .held _ => 1
def uptoBulkAll {H : Type} : List (DataW H) → Nat
  | [] => 0
  | d :: r => uptoBulk d + uptoBulkAll r
def uptoBulkEntries {H : Type} : List (Lit × DataW H) → Nat
  | [] => 0
  | x :: r => uptoBulkEntry x + uptoBulkEntries r
def uptoBulkEntry {H : Type} : Lit × DataW H → Nat
  | (.string bytes, d) => bytes.length + uptoBulk d + 1
  | (_, d) => uptoBulk d + 1
 end
def uptoSmall : (H : Type) → List (DataW H) → Bool := fun _ ds => decide (uptoBulkAll ds ≤ 1048576)
def OpenSpec.upto (s : _root_.Go.ChangeSpec) : _root_.Go.OpenSpec := { _root_.Go.OpenSpec.ofChange s with cond := some uptoSmall }

/-- 'loesslaw4.ValueAll', WHERE WHAT IT READS IS OF BULK AT MOST 1048576: true; the input reads as it did. -/
def valueAllUptoRow : OpenClaim := { program := "ytbeoegdkoodlfaa", sum := "2b12cd39a3285f6d362d19bcc56fa49007d50bcb3ef0868e27ed430dbf0c76f1", func := "loess/loesslaw4.ValueAll", spec := "valueAll", unfollowed := true, recurses := true, apart := false, narrowed := true }
def ValueAllUptoSaid : Prop := valueAllUptoRow.holds Try.pinned (OpenSpec.upto valueAllSpec)

/-- 'loesslaw4.ValueTexts', WHERE WHAT IT READS IS OF BULK AT MOST 1048576: true; the input reads as it did. -/
def valueTextsUptoRow : OpenClaim := { program := "ytbeoegdkoodlfaa", sum := "2b12cd39a3285f6d362d19bcc56fa49007d50bcb3ef0868e27ed430dbf0c76f1", func := "loess/loesslaw4.ValueTexts", spec := "valueTexts", apart := false, narrowed := true }
def ValueTextsUptoSaid : Prop := valueTextsUptoRow.holds Try.pinned (OpenSpec.upto valueTextsSpec)

/-- 'loesslaw4.ValueNone', WHERE WHAT IT READS IS OF BULK AT MOST 1048576: true; the input reads as it did. -/
def valueNoneUptoRow : OpenClaim := { program := "ytbeoegdkoodlfaa", sum := "2b12cd39a3285f6d362d19bcc56fa49007d50bcb3ef0868e27ed430dbf0c76f1", func := "loess/loesslaw4.ValueNone", spec := "valueNone", unfollowed := true, recurses := true, apart := false, narrowed := true }
def ValueNoneUptoSaid : Prop := valueNoneUptoRow.holds Try.pinned (OpenSpec.upto valueNoneSpec)

/-- 'loesslaw4.ValueNums', WHERE WHAT IT READS IS OF BULK AT MOST 1048576: true; the input reads as it did. -/
def valueNumsUptoRow : OpenClaim := { program := "ytbeoegdkoodlfaa", sum := "2b12cd39a3285f6d362d19bcc56fa49007d50bcb3ef0868e27ed430dbf0c76f1", func := "loess/loesslaw4.ValueNums", spec := "valueNums", unfollowed := true, recurses := true, apart := false, narrowed := true }
def ValueNumsUptoSaid : Prop := valueNumsUptoRow.holds Try.pinned (OpenSpec.upto valueNumsSpec)

/-- 'loesslaw4.ValueAny', WHERE WHAT IT READS IS OF BULK AT MOST 1048576: true; the input reads as it did. -/
def valueAnyUptoRow : OpenClaim := { program := "ytbeoegdkoodlfaa", sum := "2b12cd39a3285f6d362d19bcc56fa49007d50bcb3ef0868e27ed430dbf0c76f1", func := "loess/loesslaw4.ValueAny", spec := "valueAny", apart := false, narrowed := true }
def ValueAnyUptoSaid : Prop := valueAnyUptoRow.holds Try.pinned (OpenSpec.upto valueAnySpec)

/-- 'loesslaw4.ValueBytes', WHERE WHAT IT READS IS OF BULK AT MOST 1048576: true; the input reads as it did. -/
def valueBytesUptoRow : OpenClaim := { program := "ytbeoegdkoodlfaa", sum := "2b12cd39a3285f6d362d19bcc56fa49007d50bcb3ef0868e27ed430dbf0c76f1", func := "loess/loesslaw4.ValueBytes", spec := "valueBytes", apart := false, narrowed := true }
def ValueBytesUptoSaid : Prop := valueBytesUptoRow.holds Try.pinned (OpenSpec.upto valueBytesSpec)

/-- 'loesslaw4.ValueMany', WHERE WHAT IT READS IS OF BULK AT MOST 1048576: true; the input reads as it did. -/
def valueManyUptoRow : OpenClaim := { program := "ytbeoegdkoodlfaa", sum := "2b12cd39a3285f6d362d19bcc56fa49007d50bcb3ef0868e27ed430dbf0c76f1", func := "loess/loesslaw4.ValueMany", spec := "valueMany", apart := false, narrowed := true }
def ValueManyUptoSaid : Prop := valueManyUptoRow.holds Try.pinned (OpenSpec.upto valueManySpec)

/-- 'loesslaw4.ValueCut', WHERE WHAT IT READS IS OF BULK AT MOST 1048576: true; the input reads as it did. -/
def valueCutUptoRow : OpenClaim := { program := "ytbeoegdkoodlfaa", sum := "2b12cd39a3285f6d362d19bcc56fa49007d50bcb3ef0868e27ed430dbf0c76f1", func := "loess/loesslaw4.ValueCut", spec := "valueCut", apart := false, narrowed := true }
def ValueCutUptoSaid : Prop := valueCutUptoRow.holds Try.pinned (OpenSpec.upto valueCutSpec)

end Rows
end Go.Proofs.Ytbeoegdkoodlfaa
