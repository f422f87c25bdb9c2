/-
  No cell of these rows narrows 'for every input' (looked for: loops, veiled, ifaces, maps, wideKeys, modest, calm, conditions, laid).
  DERIVED. THE GIVEN ROWS OF THIS SEAT. 6 by the template 'for every input the law returns true; each argument reads behind the call as it read before'; 0 by the template 'total and deterministic' (their statements: YtoachfoaknlemaaTotals.lean).
  GIVEN WITH THE SEED: the statements are not yours to turn. If you find one false, say at which input.
  Laid BY PROGRAM, IN A SANDBOX (cutbox-rows.mjs): the forced cells as the released guide's own fill.sh prints them over the translation 5ff39655bc53aef6… (all of the seat's roots in one cut). By AI agents, Wed Nov 11 2026. No macro, syntax, notation, axiom, sorry.
-/
import Derived.Test.YtoachfoaknlemaaChecked
import GoSem.Claim
import GoSem.ClaimJoined
import GoSem.ClaimMapViews
import Derived.JoinedTies
import Derived.KernelRfl
namespace Go.Proofs.Ytoachfoaknlemaa
/- THE CELL 'sum', in the pinned program and in every row, IS THE sha256 OF THE DUMP (.gsa) THAT YtoachfoaknlemaaProg.lean LOADS. Nothing in Lean hashes anything: it is a label: what it is worth is what the hold of that sum in a sandbox is worth. -/
noncomputable def Try.pinned : Pinned := { name := "ytoachfoaknlemaa", sum := "5ff39655bc53aef6151b8a8e6c665d7b1e9ae49294bcfd2ff0529a82ad4bd48b", checked := Try.checked }
namespace Rows
def none {H : Type} : Left H := { results := [], args := [] }

/-- 'loesslaw9.HashAll': WHATEVER THE INPUT: true; the input reads as it did. -/
def hashAllSpec : ChangeSpec := { name := "hashAll", fn := fun _ => fun
  | [d] => { results := [.lit (.bool true)], args := [d] }
  | _ => none }
def hashAllRow : OpenClaim := { program := "ytoachfoaknlemaa", sum := "5ff39655bc53aef6151b8a8e6c665d7b1e9ae49294bcfd2ff0529a82ad4bd48b", func := "loess/loesslaw9.HashAll", spec := "hashAll", apart := false }
def HashAllSaid : Prop := hashAllRow.holds Try.pinned (OpenSpec.ofChange hashAllSpec)

/-- ITS FALSE NEIGHBOUR: 'it returns false'. Refute it at one input. -/
def hashAllWrong : ChangeSpec := { name := "hashAll", fn := fun _ => fun
  | [d] => { results := [.lit (.bool false)], args := [d] }
  | _ => none }
def HashAllWrongFalsely : Prop := hashAllRow.holds Try.pinned (OpenSpec.ofChange hashAllWrong)

/-- 'loesslaw9.HashParts': WHATEVER THE INPUT: true; the input reads as it did. -/
def hashPartsSpec : ChangeSpec := { name := "hashParts", fn := fun _ => fun
  | [d1, d2, d3] => { results := [.lit (.bool true)], args := [d1, d2, d3] }
  | _ => none }
def hashPartsRow : OpenClaim := { program := "ytoachfoaknlemaa", sum := "5ff39655bc53aef6151b8a8e6c665d7b1e9ae49294bcfd2ff0529a82ad4bd48b", func := "loess/loesslaw9.HashParts", spec := "hashParts", apart := false }
def HashPartsSaid : Prop := hashPartsRow.holds Try.pinned (OpenSpec.ofChange hashPartsSpec)

/-- ITS FALSE NEIGHBOUR: 'it returns false'. Refute it at one input. -/
def hashPartsWrong : ChangeSpec := { name := "hashParts", fn := fun _ => fun
  | [d1, d2, d3] => { results := [.lit (.bool false)], args := [d1, d2, d3] }
  | _ => none }
def HashPartsWrongFalsely : Prop := hashPartsRow.holds Try.pinned (OpenSpec.ofChange hashPartsWrong)

/-- 'loesslaw9.HashRunes': WHATEVER THE INPUT: true; the input reads as it did. -/
def hashRunesSpec : ChangeSpec := { name := "hashRunes", fn := fun _ => fun
  | [d1, d2, d3] => { results := [.lit (.bool true)], args := [d1, d2, d3] }
  | _ => none }
def hashRunesRow : OpenClaim := { program := "ytoachfoaknlemaa", sum := "5ff39655bc53aef6151b8a8e6c665d7b1e9ae49294bcfd2ff0529a82ad4bd48b", func := "loess/loesslaw9.HashRunes", spec := "hashRunes", apart := false }
def HashRunesSaid : Prop := hashRunesRow.holds Try.pinned (OpenSpec.ofChange hashRunesSpec)

/-- ITS FALSE NEIGHBOUR: 'it returns false'. Refute it at one input. -/
def hashRunesWrong : ChangeSpec := { name := "hashRunes", fn := fun _ => fun
  | [d1, d2, d3] => { results := [.lit (.bool false)], args := [d1, d2, d3] }
  | _ => none }
def HashRunesWrongFalsely : Prop := hashRunesRow.holds Try.pinned (OpenSpec.ofChange hashRunesWrong)

/-- 'loesslaw9.HashPairs': WHATEVER THE INPUT: true; the input reads as it did. -/
def hashPairsSpec : ChangeSpec := { name := "hashPairs", fn := fun _ => fun
  | [d] => { results := [.lit (.bool true)], args := [d] }
  | _ => none }
def hashPairsRow : OpenClaim := { program := "ytoachfoaknlemaa", sum := "5ff39655bc53aef6151b8a8e6c665d7b1e9ae49294bcfd2ff0529a82ad4bd48b", func := "loess/loesslaw9.HashPairs", spec := "hashPairs", apart := false }
def HashPairsSaid : Prop := hashPairsRow.holds Try.pinned (OpenSpec.ofChange hashPairsSpec)

/-- ITS FALSE NEIGHBOUR: 'it returns false'. Refute it at one input. -/
def hashPairsWrong : ChangeSpec := { name := "hashPairs", fn := fun _ => fun
  | [d] => { results := [.lit (.bool false)], args := [d] }
  | _ => none }
def HashPairsWrongFalsely : Prop := hashPairsRow.holds Try.pinned (OpenSpec.ofChange hashPairsWrong)

/-- 'loesslaw9.HashTags': WHATEVER THE INPUT: true; the input reads as it did. -/
def hashTagsSpec : ChangeSpec := { name := "hashTags", fn := fun _ => fun
  | [d1, d2] => { results := [.lit (.bool true)], args := [d1, d2] }
  | _ => none }
def hashTagsRow : OpenClaim := { program := "ytoachfoaknlemaa", sum := "5ff39655bc53aef6151b8a8e6c665d7b1e9ae49294bcfd2ff0529a82ad4bd48b", func := "loess/loesslaw9.HashTags", spec := "hashTags", apart := false }
def HashTagsSaid : Prop := hashTagsRow.holds Try.pinned (OpenSpec.ofChange hashTagsSpec)

/-- ITS FALSE NEIGHBOUR: 'it returns false'. Refute it at one input. -/
def hashTagsWrong : ChangeSpec := { name := "hashTags", fn := fun _ => fun
  | [d1, d2] => { results := [.lit (.bool false)], args := [d1, d2] }
  | _ => none }
def HashTagsWrongFalsely : Prop := hashTagsRow.holds Try.pinned (OpenSpec.ofChange hashTagsWrong)

/-- 'loesslaw9.HashSame': WHATEVER THE INPUT: true; the input reads as it did. -/
def hashSameSpec : ChangeSpec := { name := "hashSame", fn := fun _ => fun
  | [d1, d2] => { results := [.lit (.bool true)], args := [d1, d2] }
  | _ => none }
def hashSameRow : OpenClaim := { program := "ytoachfoaknlemaa", sum := "5ff39655bc53aef6151b8a8e6c665d7b1e9ae49294bcfd2ff0529a82ad4bd48b", func := "loess/loesslaw9.HashSame", spec := "hashSame", apart := false }
def HashSameSaid : Prop := hashSameRow.holds Try.pinned (OpenSpec.ofChange hashSameSpec)

/-- ITS FALSE NEIGHBOUR: 'it returns false'. Refute it at one input. -/
def hashSameWrong : ChangeSpec := { name := "hashSame", fn := fun _ => fun
  | [d1, d2] => { results := [.lit (.bool false)], args := [d1, d2] }
  | _ => none }
def HashSameWrongFalsely : Prop := hashSameRow.holds Try.pinned (OpenSpec.ofChange hashSameWrong)

/- THE SECOND FORM. 'bulk': how many values and letters a reading holds, each counted each time it is reached (what is shared counts as often as it is met; a slice's spare places count too). A statement '..UptoSaid' is the law's where the arguments, and the package variables that the reading takes, are together of bulk at most 1048576: NARROWER than '..Said'. Prove '..Said' where nothing that the law and all that it calls make is longer than what came in: it says more and counts as full. Else prove '..UptoSaid'. A law counts once. -/
mutual
def uptoBulk {H : Type} : DataW H → Nat
  | .lit (.string bytes) => bytes.length + 1
  | .lit _ => 1
  | .nil => 1
  | .ptr d => uptoBulk d + 1
  | .slice elems spare => uptoBulkAll elems + uptoBulkAll spare + 1
  | .agg parts => uptoBulkAll parts + 1
  | .iface _ d => uptoBulk d + 1
  | .map entries => uptoBulkEntries entries + 1
  | .held _ => 1
def uptoBulkAll {H : Type} : List (DataW H) → Nat
  | [] => 0
  | d :: r => uptoBulk d + uptoBulkAll r
def uptoBulkEntries {H : Type} : List (Lit × DataW H) → Nat
  | [] => 0
  | x :: r => uptoBulkEntry x + uptoBulkEntries r
def uptoBulkEntry {H : Type} : Lit × DataW H → Nat
  | (.string bytes, d) => bytes.length + uptoBulk d + 1
  | (_, d) => uptoBulk d + 1
 end
def uptoSmall : (H : Type) → List (DataW H) → Bool := fun _ ds => decide (uptoBulkAll ds ≤ 1048576)
def OpenSpec.upto (s : _root_.Go.ChangeSpec) : _root_.Go.OpenSpec := { _root_.Go.OpenSpec.ofChange s with cond := some uptoSmall }

/-- 'loesslaw9.HashAll', WHERE WHAT IT READS IS OF BULK AT MOST 1048576: true; the input reads as it did. -/
def hashAllUptoRow : OpenClaim := { program := "ytoachfoaknlemaa", sum := "5ff39655bc53aef6151b8a8e6c665d7b1e9ae49294bcfd2ff0529a82ad4bd48b", func := "loess/loesslaw9.HashAll", spec := "hashAll", apart := false, narrowed := true }
def HashAllUptoSaid : Prop := hashAllUptoRow.holds Try.pinned (OpenSpec.upto hashAllSpec)

/-- 'loesslaw9.HashParts', WHERE WHAT IT READS IS OF BULK AT MOST 1048576: true; the input reads as it did. -/
def hashPartsUptoRow : OpenClaim := { program := "ytoachfoaknlemaa", sum := "5ff39655bc53aef6151b8a8e6c665d7b1e9ae49294bcfd2ff0529a82ad4bd48b", func := "loess/loesslaw9.HashParts", spec := "hashParts", apart := false, narrowed := true }
def HashPartsUptoSaid : Prop := hashPartsUptoRow.holds Try.pinned (OpenSpec.upto hashPartsSpec)

/-- 'loesslaw9.HashRunes', WHERE WHAT IT READS IS OF BULK AT MOST 1048576: true; the input reads as it did. -/
def hashRunesUptoRow : OpenClaim := { program := "ytoachfoaknlemaa", sum := "5ff39655bc53aef6151b8a8e6c665d7b1e9ae49294bcfd2ff0529a82ad4bd48b", func := "loess/loesslaw9.HashRunes", spec := "hashRunes", apart := false, narrowed := true }
def HashRunesUptoSaid : Prop := hashRunesUptoRow.holds Try.pinned (OpenSpec.upto hashRunesSpec)

/-- 'loesslaw9.HashPairs', WHERE WHAT IT READS IS OF BULK AT MOST 1048576: true; the input reads as it did. -/
def hashPairsUptoRow : OpenClaim := { program := "ytoachfoaknlemaa", sum := "5ff39655bc53aef6151b8a8e6c665d7b1e9ae49294bcfd2ff0529a82ad4bd48b", func := "loess/loesslaw9.HashPairs", spec := "hashPairs", apart := false, narrowed := true }
def HashPairsUptoSaid : Prop := hashPairsUptoRow.holds Try.pinned (OpenSpec.upto hashPairsSpec)

/-- 'loesslaw9.HashTags', WHERE WHAT IT READS IS OF BULK AT MOST 1048576: true; the input reads as it did. -/
def hashTagsUptoRow : OpenClaim := { program := "ytoachfoaknlemaa", sum := "5ff39655bc53aef6151b8a8e6c665d7b1e9ae49294bcfd2ff0529a82ad4bd48b", func := "loess/loesslaw9.HashTags", spec := "hashTags", apart := false, narrowed := true }
def HashTagsUptoSaid : Prop := hashTagsUptoRow.holds Try.pinned (OpenSpec.upto hashTagsSpec)

/-- 'loesslaw9.HashSame', WHERE WHAT IT READS IS OF BULK AT MOST 1048576: true; the input reads as it did. -/
def hashSameUptoRow : OpenClaim := { program := "ytoachfoaknlemaa", sum := "5ff39655bc53aef6151b8a8e6c665d7b1e9ae49294bcfd2ff0529a82ad4bd48b", func := "loess/loesslaw9.HashSame", spec := "hashSame", apart := false, narrowed := true }
def HashSameUptoSaid : Prop := hashSameUptoRow.holds Try.pinned (OpenSpec.upto hashSameSpec)

end Rows
end Go.Proofs.Ytoachfoaknlemaa
