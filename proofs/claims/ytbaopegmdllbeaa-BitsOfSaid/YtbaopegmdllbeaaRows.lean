/-
  No cell of these rows narrows 'for every input' (looked for: loops, veiled, ifaces, maps, wideKeys, modest, calm, conditions, laid).
  DERIVED. THE GIVEN ROWS OF THIS SEAT. 10 by the template 'for every input the law returns true; each argument reads behind the call as it read before'; 0 by the template 'total and deterministic' (their statements: YtbaopegmdllbeaaTotals.lean).
  GIVEN WITH THE SEED: the statements are not yours to turn. If you find one false, say at which input.
  Laid BY PROGRAM, IN A SANDBOX (cutbox-rows.mjs): the forced cells as the released guide's own fill.sh prints them over the translation aec0edbaab8f5415… (all of the seat's roots in one cut). By AI agents, Wed Nov 11 2026. No macro, syntax, notation, axiom, sorry.
-/
import Derived.Test.YtbaopegmdllbeaaChecked
import GoSem.Claim
import GoSem.ClaimJoined
import GoSem.ClaimMapViews
import Derived.JoinedTies
import Derived.KernelRfl
namespace Go.Proofs.Ytbaopegmdllbeaa
/- THE CELL 'sum', in the pinned program and in every row, IS THE sha256 OF THE DUMP (.gsa) THAT YtbaopegmdllbeaaProg.lean LOADS. Nothing in Lean hashes anything: it is a label: what it is worth is what the hold of that sum in a sandbox is worth. -/
noncomputable def Try.pinned : Pinned := { name := "ytbaopegmdllbeaa", sum := "aec0edbaab8f5415dc8d037bce44be244a8606a0819303ef38d83a2e55db6074", checked := Try.checked }
namespace Rows
def none {H : Type} : Left H := { results := [], args := [] }

/-- 'loesslaw6.BitsOf': WHATEVER THE INPUT: true; the input reads as it did. -/
def bitsOfSpec : ChangeSpec := { name := "bitsOf", fn := fun _ => fun
  | [d1, d2] => { results := [.lit (.bool true)], args := [d1, d2] }
  | _ => none }
def bitsOfRow : OpenClaim := { program := "ytbaopegmdllbeaa", sum := "aec0edbaab8f5415dc8d037bce44be244a8606a0819303ef38d83a2e55db6074", func := "loess/loesslaw6.BitsOf", spec := "bitsOf", apart := false }
def BitsOfSaid : Prop := bitsOfRow.holds Try.pinned (OpenSpec.ofChange bitsOfSpec)

/-- ITS FALSE NEIGHBOUR: 'it returns false'. Refute it at one input. -/
def bitsOfWrong : ChangeSpec := { name := "bitsOf", fn := fun _ => fun
  | [d1, d2] => { results := [.lit (.bool false)], args := [d1, d2] }
  | _ => none }
def BitsOfWrongFalsely : Prop := bitsOfRow.holds Try.pinned (OpenSpec.ofChange bitsOfWrong)

/-- 'loesslaw6.BitsNums': WHATEVER THE INPUT: true; the input reads as it did. -/
def bitsNumsSpec : ChangeSpec := { name := "bitsNums", fn := fun _ => fun
  | [d1, d2] => { results := [.lit (.bool true)], args := [d1, d2] }
  | _ => none }
def bitsNumsRow : OpenClaim := { program := "ytbaopegmdllbeaa", sum := "aec0edbaab8f5415dc8d037bce44be244a8606a0819303ef38d83a2e55db6074", func := "loess/loesslaw6.BitsNums", spec := "bitsNums", apart := false }
def BitsNumsSaid : Prop := bitsNumsRow.holds Try.pinned (OpenSpec.ofChange bitsNumsSpec)

/-- ITS FALSE NEIGHBOUR: 'it returns false'. Refute it at one input. -/
def bitsNumsWrong : ChangeSpec := { name := "bitsNums", fn := fun _ => fun
  | [d1, d2] => { results := [.lit (.bool false)], args := [d1, d2] }
  | _ => none }
def BitsNumsWrongFalsely : Prop := bitsNumsRow.holds Try.pinned (OpenSpec.ofChange bitsNumsWrong)

/-- 'loesslaw6.BitsNone': WHATEVER THE INPUT: true; the input reads as it did. -/
def bitsNoneSpec : ChangeSpec := { name := "bitsNone", fn := fun _ => fun
  | [] => { results := [.lit (.bool true)], args := [] }
  | _ => none }
def bitsNoneRow : OpenClaim := { program := "ytbaopegmdllbeaa", sum := "aec0edbaab8f5415dc8d037bce44be244a8606a0819303ef38d83a2e55db6074", func := "loess/loesslaw6.BitsNone", spec := "bitsNone", apart := false }
def BitsNoneSaid : Prop := bitsNoneRow.holds Try.pinned (OpenSpec.ofChange bitsNoneSpec)

/-- ITS FALSE NEIGHBOUR: 'it returns false'. Refute it at one input. -/
def bitsNoneWrong : ChangeSpec := { name := "bitsNone", fn := fun _ => fun
  | [] => { results := [.lit (.bool false)], args := [] }
  | _ => none }
def BitsNoneWrongFalsely : Prop := bitsNoneRow.holds Try.pinned (OpenSpec.ofChange bitsNoneWrong)

/-- 'loesslaw8.RankAll': WHATEVER THE INPUT: true; the input reads as it did. -/
def rankAllSpec : ChangeSpec := { name := "rankAll", fn := fun _ => fun
  | [d1, d2] => { results := [.lit (.bool true)], args := [d1, d2] }
  | _ => none }
def rankAllRow : OpenClaim := { program := "ytbaopegmdllbeaa", sum := "aec0edbaab8f5415dc8d037bce44be244a8606a0819303ef38d83a2e55db6074", func := "loess/loesslaw8.RankAll", spec := "rankAll", apart := false }
def RankAllSaid : Prop := rankAllRow.holds Try.pinned (OpenSpec.ofChange rankAllSpec)

/-- ITS FALSE NEIGHBOUR: 'it returns false'. Refute it at one input. -/
def rankAllWrong : ChangeSpec := { name := "rankAll", fn := fun _ => fun
  | [d1, d2] => { results := [.lit (.bool false)], args := [d1, d2] }
  | _ => none }
def RankAllWrongFalsely : Prop := rankAllRow.holds Try.pinned (OpenSpec.ofChange rankAllWrong)

/-- 'loesslaw8.RankBack': WHATEVER THE INPUT: true; the input reads as it did. -/
def rankBackSpec : ChangeSpec := { name := "rankBack", fn := fun _ => fun
  | [d1, d2, d3] => { results := [.lit (.bool true)], args := [d1, d2, d3] }
  | _ => none }
def rankBackRow : OpenClaim := { program := "ytbaopegmdllbeaa", sum := "aec0edbaab8f5415dc8d037bce44be244a8606a0819303ef38d83a2e55db6074", func := "loess/loesslaw8.RankBack", spec := "rankBack", apart := false }
def RankBackSaid : Prop := rankBackRow.holds Try.pinned (OpenSpec.ofChange rankBackSpec)

/-- ITS FALSE NEIGHBOUR: 'it returns false'. Refute it at one input. -/
def rankBackWrong : ChangeSpec := { name := "rankBack", fn := fun _ => fun
  | [d1, d2, d3] => { results := [.lit (.bool false)], args := [d1, d2, d3] }
  | _ => none }
def RankBackWrongFalsely : Prop := rankBackRow.holds Try.pinned (OpenSpec.ofChange rankBackWrong)

/-- 'loesslaw8.RankStays': WHATEVER THE INPUT: true; the input reads as it did. -/
def rankStaysSpec : ChangeSpec := { name := "rankStays", fn := fun _ => fun
  | [d1, d2] => { results := [.lit (.bool true)], args := [d1, d2] }
  | _ => none }
def rankStaysRow : OpenClaim := { program := "ytbaopegmdllbeaa", sum := "aec0edbaab8f5415dc8d037bce44be244a8606a0819303ef38d83a2e55db6074", func := "loess/loesslaw8.RankStays", spec := "rankStays", apart := false }
def RankStaysSaid : Prop := rankStaysRow.holds Try.pinned (OpenSpec.ofChange rankStaysSpec)

/-- ITS FALSE NEIGHBOUR: 'it returns false'. Refute it at one input. -/
def rankStaysWrong : ChangeSpec := { name := "rankStays", fn := fun _ => fun
  | [d1, d2] => { results := [.lit (.bool false)], args := [d1, d2] }
  | _ => none }
def RankStaysWrongFalsely : Prop := rankStaysRow.holds Try.pinned (OpenSpec.ofChange rankStaysWrong)

/-- 'loesslaw7.GammaAny': WHATEVER THE INPUT: true; the input reads as it did. -/
def gammaAnySpec : ChangeSpec := { name := "gammaAny", fn := fun _ => fun
  | [d1, d2, d3] => { results := [.lit (.bool true)], args := [d1, d2, d3] }
  | _ => none }
def gammaAnyRow : OpenClaim := { program := "ytbaopegmdllbeaa", sum := "aec0edbaab8f5415dc8d037bce44be244a8606a0819303ef38d83a2e55db6074", func := "loess/loesslaw7.GammaAny", spec := "gammaAny", apart := false }
def GammaAnySaid : Prop := gammaAnyRow.holds Try.pinned (OpenSpec.ofChange gammaAnySpec)

/-- ITS FALSE NEIGHBOUR: 'it returns false'. Refute it at one input. -/
def gammaAnyWrong : ChangeSpec := { name := "gammaAny", fn := fun _ => fun
  | [d1, d2, d3] => { results := [.lit (.bool false)], args := [d1, d2, d3] }
  | _ => none }
def GammaAnyWrongFalsely : Prop := gammaAnyRow.holds Try.pinned (OpenSpec.ofChange gammaAnyWrong)

/-- 'loesslaw7.GammaGrows': WHATEVER THE INPUT: true; the input reads as it did. -/
def gammaGrowsSpec : ChangeSpec := { name := "gammaGrows", fn := fun _ => fun
  | [d1, d2, d3] => { results := [.lit (.bool true)], args := [d1, d2, d3] }
  | _ => none }
def gammaGrowsRow : OpenClaim := { program := "ytbaopegmdllbeaa", sum := "aec0edbaab8f5415dc8d037bce44be244a8606a0819303ef38d83a2e55db6074", func := "loess/loesslaw7.GammaGrows", spec := "gammaGrows", apart := false }
def GammaGrowsSaid : Prop := gammaGrowsRow.holds Try.pinned (OpenSpec.ofChange gammaGrowsSpec)

/-- ITS FALSE NEIGHBOUR: 'it returns false'. Refute it at one input. -/
def gammaGrowsWrong : ChangeSpec := { name := "gammaGrows", fn := fun _ => fun
  | [d1, d2, d3] => { results := [.lit (.bool false)], args := [d1, d2, d3] }
  | _ => none }
def GammaGrowsWrongFalsely : Prop := gammaGrowsRow.holds Try.pinned (OpenSpec.ofChange gammaGrowsWrong)

/-- 'loesslaw7.GammaNone': WHATEVER THE INPUT: true; the input reads as it did. -/
def gammaNoneSpec : ChangeSpec := { name := "gammaNone", fn := fun _ => fun
  | [] => { results := [.lit (.bool true)], args := [] }
  | _ => none }
def gammaNoneRow : OpenClaim := { program := "ytbaopegmdllbeaa", sum := "aec0edbaab8f5415dc8d037bce44be244a8606a0819303ef38d83a2e55db6074", func := "loess/loesslaw7.GammaNone", spec := "gammaNone", apart := false }
def GammaNoneSaid : Prop := gammaNoneRow.holds Try.pinned (OpenSpec.ofChange gammaNoneSpec)

/-- ITS FALSE NEIGHBOUR: 'it returns false'. Refute it at one input. -/
def gammaNoneWrong : ChangeSpec := { name := "gammaNone", fn := fun _ => fun
  | [] => { results := [.lit (.bool false)], args := [] }
  | _ => none }
def GammaNoneWrongFalsely : Prop := gammaNoneRow.holds Try.pinned (OpenSpec.ofChange gammaNoneWrong)

/-- 'loesslaw7.GammaAll': WHATEVER THE INPUT: true; the input reads as it did. -/
def gammaAllSpec : ChangeSpec := { name := "gammaAll", fn := fun _ => fun
  | [d] => { results := [.lit (.bool true)], args := [d] }
  | _ => none }
def gammaAllRow : OpenClaim := { program := "ytbaopegmdllbeaa", sum := "aec0edbaab8f5415dc8d037bce44be244a8606a0819303ef38d83a2e55db6074", func := "loess/loesslaw7.GammaAll", spec := "gammaAll", apart := false }
def GammaAllSaid : Prop := gammaAllRow.holds Try.pinned (OpenSpec.ofChange gammaAllSpec)

/-- ITS FALSE NEIGHBOUR: 'it returns false'. Refute it at one input. -/
def gammaAllWrong : ChangeSpec := { name := "gammaAll", fn := fun _ => fun
  | [d] => { results := [.lit (.bool false)], args := [d] }
  | _ => none }
def GammaAllWrongFalsely : Prop := gammaAllRow.holds Try.pinned (OpenSpec.ofChange gammaAllWrong)

/- THE SECOND FORM. 'bulk': how many values and letters a reading holds, each counted each time it is reached (what is shared counts as often as it is met; a slice's spare places count too). A statement '..UptoSaid' is the law's where the arguments, and the package variables that the reading takes, are together of bulk at most 1048576: NARROWER than '..Said'. Prove '..Said' where nothing that the law and all that it calls make is longer than what came in: it says more and counts as full. Else prove '..UptoSaid'. A law counts once. -/
mutual
def uptoBulk {H : Type} : DataW H → Nat
  | .lit (.string bytes) => bytes.length + 1
  | .lit _ => 1
  | .nil => 1
  | .ptr d => uptoBulk d + 1
  | .slice elems spare => uptoBulkAll elems + uptoBulkAll spare + 1
  | .agg parts => uptoBulkAll parts + 1
  | .iface _ d => uptoBulk d + 1
  | .map entries => uptoBulkEntries entries + 1
  | .held _ => 1
def uptoBulkAll {H : Type} : List (DataW H) → Nat
  | [] => 0
  | d :: r => uptoBulk d + uptoBulkAll r
def uptoBulkEntries {H : Type} : List (Lit × DataW H) → Nat
  | [] => 0
  | x :: r => uptoBulkEntry x + uptoBulkEntries r
def uptoBulkEntry {H : Type} : Lit × DataW H → Nat
  | (.string bytes, d) => bytes.length + uptoBulk d + 1
  | (_, d) => uptoBulk d + 1
 end
def uptoSmall : (H : Type) → List (DataW H) → Bool := fun _ ds => decide (uptoBulkAll ds ≤ 1048576)
def OpenSpec.upto (s : _root_.Go.ChangeSpec) : _root_.Go.OpenSpec := { _root_.Go.OpenSpec.ofChange s with cond := some uptoSmall }

/-- 'loesslaw6.BitsOf', WHERE WHAT IT READS IS OF BULK AT MOST 1048576: true; the input reads as it did. -/
def bitsOfUptoRow : OpenClaim := { program := "ytbaopegmdllbeaa", sum := "aec0edbaab8f5415dc8d037bce44be244a8606a0819303ef38d83a2e55db6074", func := "loess/loesslaw6.BitsOf", spec := "bitsOf", apart := false, narrowed := true }
def BitsOfUptoSaid : Prop := bitsOfUptoRow.holds Try.pinned (OpenSpec.upto bitsOfSpec)

/-- 'loesslaw6.BitsNums', WHERE WHAT IT READS IS OF BULK AT MOST 1048576: true; the input reads as it did. -/
def bitsNumsUptoRow : OpenClaim := { program := "ytbaopegmdllbeaa", sum := "aec0edbaab8f5415dc8d037bce44be244a8606a0819303ef38d83a2e55db6074", func := "loess/loesslaw6.BitsNums", spec := "bitsNums", apart := false, narrowed := true }
def BitsNumsUptoSaid : Prop := bitsNumsUptoRow.holds Try.pinned (OpenSpec.upto bitsNumsSpec)

/-- 'loesslaw6.BitsNone', WHERE WHAT IT READS IS OF BULK AT MOST 1048576: true; the input reads as it did. -/
def bitsNoneUptoRow : OpenClaim := { program := "ytbaopegmdllbeaa", sum := "aec0edbaab8f5415dc8d037bce44be244a8606a0819303ef38d83a2e55db6074", func := "loess/loesslaw6.BitsNone", spec := "bitsNone", apart := false, narrowed := true }
def BitsNoneUptoSaid : Prop := bitsNoneUptoRow.holds Try.pinned (OpenSpec.upto bitsNoneSpec)

/-- 'loesslaw8.RankAll', WHERE WHAT IT READS IS OF BULK AT MOST 1048576: true; the input reads as it did. -/
def rankAllUptoRow : OpenClaim := { program := "ytbaopegmdllbeaa", sum := "aec0edbaab8f5415dc8d037bce44be244a8606a0819303ef38d83a2e55db6074", func := "loess/loesslaw8.RankAll", spec := "rankAll", apart := false, narrowed := true }
def RankAllUptoSaid : Prop := rankAllUptoRow.holds Try.pinned (OpenSpec.upto rankAllSpec)

/-- 'loesslaw8.RankBack', WHERE WHAT IT READS IS OF BULK AT MOST 1048576: true; the input reads as it did. -/
def rankBackUptoRow : OpenClaim := { program := "ytbaopegmdllbeaa", sum := "aec0edbaab8f5415dc8d037bce44be244a8606a0819303ef38d83a2e55db6074", func := "loess/loesslaw8.RankBack", spec := "rankBack", apart := false, narrowed := true }
def RankBackUptoSaid : Prop := rankBackUptoRow.holds Try.pinned (OpenSpec.upto rankBackSpec)

/-- 'loesslaw8.RankStays', WHERE WHAT IT READS IS OF BULK AT MOST 1048576: true; the input reads as it did. -/
def rankStaysUptoRow : OpenClaim := { program := "ytbaopegmdllbeaa", sum := "aec0edbaab8f5415dc8d037bce44be244a8606a0819303ef38d83a2e55db6074", func := "loess/loesslaw8.RankStays", spec := "rankStays", apart := false, narrowed := true }
def RankStaysUptoSaid : Prop := rankStaysUptoRow.holds Try.pinned (OpenSpec.upto rankStaysSpec)

/-- 'loesslaw7.GammaAny', WHERE WHAT IT READS IS OF BULK AT MOST 1048576: true; the input reads as it did. -/
def gammaAnyUptoRow : OpenClaim := { program := "ytbaopegmdllbeaa", sum := "aec0edbaab8f5415dc8d037bce44be244a8606a0819303ef38d83a2e55db6074", func := "loess/loesslaw7.GammaAny", spec := "gammaAny", apart := false, narrowed := true }
def GammaAnyUptoSaid : Prop := gammaAnyUptoRow.holds Try.pinned (OpenSpec.upto gammaAnySpec)

/-- 'loesslaw7.GammaGrows', WHERE WHAT IT READS IS OF BULK AT MOST 1048576: true; the input reads as it did. -/
def gammaGrowsUptoRow : OpenClaim := { program := "ytbaopegmdllbeaa", sum := "aec0edbaab8f5415dc8d037bce44be244a8606a0819303ef38d83a2e55db6074", func := "loess/loesslaw7.GammaGrows", spec := "gammaGrows", apart := false, narrowed := true }
def GammaGrowsUptoSaid : Prop := gammaGrowsUptoRow.holds Try.pinned (OpenSpec.upto gammaGrowsSpec)

/-- 'loesslaw7.GammaNone', WHERE WHAT IT READS IS OF BULK AT MOST 1048576: true; the input reads as it did. -/
def gammaNoneUptoRow : OpenClaim := { program := "ytbaopegmdllbeaa", sum := "aec0edbaab8f5415dc8d037bce44be244a8606a0819303ef38d83a2e55db6074", func := "loess/loesslaw7.GammaNone", spec := "gammaNone", apart := false, narrowed := true }
def GammaNoneUptoSaid : Prop := gammaNoneUptoRow.holds Try.pinned (OpenSpec.upto gammaNoneSpec)

/-- 'loesslaw7.GammaAll', WHERE WHAT IT READS IS OF BULK AT MOST 1048576: true; the input reads as it did. -/
def gammaAllUptoRow : OpenClaim := { program := "ytbaopegmdllbeaa", sum := "aec0edbaab8f5415dc8d037bce44be244a8606a0819303ef38d83a2e55db6074", func := "loess/loesslaw7.GammaAll", spec := "gammaAll", apart := false, narrowed := true }
def GammaAllUptoSaid : Prop := gammaAllUptoRow.holds Try.pinned (OpenSpec.upto gammaAllSpec)

end Rows
end Go.Proofs.Ytbaopegmdllbeaa
