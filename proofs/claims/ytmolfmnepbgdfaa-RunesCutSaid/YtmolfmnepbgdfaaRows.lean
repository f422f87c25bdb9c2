/-
  No cell of these rows narrows 'for every input' (looked for: loops, veiled, ifaces, maps, wideKeys, modest, calm, conditions, laid).
  DERIVED. THE GIVEN ROWS OF THIS SEAT. 6 by the template 'for every input the law returns true; each argument reads behind the call as it read before'; 0 by the template 'total and deterministic' (their statements: YtmolfmnepbgdfaaTotals.lean).
  GIVEN WITH THE SEED: the statements are not yours to turn. If you find one false, say at which input.
  Laid BY PROGRAM, IN A SANDBOX (cutbox-rows.mjs): the forced cells as the released guide's own fill.sh prints them over the translation 48ec0b9517ee2360… (all of the seat's roots in one cut). By AI agents, Wed Nov 11 2026. No macro, syntax, notation, axiom, sorry.
-/
import Derived.Test.YtmolfmnepbgdfaaChecked
import GoSem.Claim
import GoSem.ClaimJoined
import GoSem.ClaimMapViews
import Derived.JoinedTies
import Derived.KernelRfl
namespace Go.Proofs.Ytmolfmnepbgdfaa
/- THE CELL 'sum', in the pinned program and in every row, IS THE sha256 OF THE DUMP (.gsa) THAT YtmolfmnepbgdfaaProg.lean LOADS. Nothing in Lean hashes anything: it is a label: what it is worth is what the hold of that sum in a sandbox is worth. -/
noncomputable def Try.pinned : Pinned := { name := "ytmolfmnepbgdfaa", sum := "48ec0b9517ee236082dfda18a01c1efcb8da57f11d946d530a879a91bb65eec5", checked := Try.checked }
namespace Rows
def none {H : Type} : Left H := { results := [], args := [] }

/-- 'loesslaw3.RunesAll': WHATEVER THE INPUT: true; the input reads as it did. -/
def runesAllSpec : ChangeSpec := { name := "runesAll", fn := fun _ => fun
  | [d1, d2] => { results := [.lit (.bool true)], args := [d1, d2] }
  | _ => none }
def runesAllRow : OpenClaim := { program := "ytmolfmnepbgdfaa", sum := "48ec0b9517ee236082dfda18a01c1efcb8da57f11d946d530a879a91bb65eec5", func := "loess/loesslaw3.RunesAll", spec := "runesAll", apart := false }
def RunesAllSaid : Prop := runesAllRow.holds Try.pinned (OpenSpec.ofChange runesAllSpec)

/-- ITS FALSE NEIGHBOUR: 'it returns false'. Refute it at one input. -/
def runesAllWrong : ChangeSpec := { name := "runesAll", fn := fun _ => fun
  | [d1, d2] => { results := [.lit (.bool false)], args := [d1, d2] }
  | _ => none }
def RunesAllWrongFalsely : Prop := runesAllRow.holds Try.pinned (OpenSpec.ofChange runesAllWrong)

/-- 'loesslaw3.RunesBytes': WHATEVER THE INPUT: true; the input reads as it did. -/
def runesBytesSpec : ChangeSpec := { name := "runesBytes", fn := fun _ => fun
  | [d1, d2, d3, d4] => { results := [.lit (.bool true)], args := [d1, d2, d3, d4] }
  | _ => none }
def runesBytesRow : OpenClaim := { program := "ytmolfmnepbgdfaa", sum := "48ec0b9517ee236082dfda18a01c1efcb8da57f11d946d530a879a91bb65eec5", func := "loess/loesslaw3.RunesBytes", spec := "runesBytes", apart := false }
def RunesBytesSaid : Prop := runesBytesRow.holds Try.pinned (OpenSpec.ofChange runesBytesSpec)

/-- ITS FALSE NEIGHBOUR: 'it returns false'. Refute it at one input. -/
def runesBytesWrong : ChangeSpec := { name := "runesBytes", fn := fun _ => fun
  | [d1, d2, d3, d4] => { results := [.lit (.bool false)], args := [d1, d2, d3, d4] }
  | _ => none }
def RunesBytesWrongFalsely : Prop := runesBytesRow.holds Try.pinned (OpenSpec.ofChange runesBytesWrong)

/-- 'loesslaw3.RunesBack': WHATEVER THE INPUT: true; the input reads as it did. -/
def runesBackSpec : ChangeSpec := { name := "runesBack", fn := fun _ => fun
  | [d] => { results := [.lit (.bool true)], args := [d] }
  | _ => none }
def runesBackRow : OpenClaim := { program := "ytmolfmnepbgdfaa", sum := "48ec0b9517ee236082dfda18a01c1efcb8da57f11d946d530a879a91bb65eec5", func := "loess/loesslaw3.RunesBack", spec := "runesBack", apart := false }
def RunesBackSaid : Prop := runesBackRow.holds Try.pinned (OpenSpec.ofChange runesBackSpec)

/-- ITS FALSE NEIGHBOUR: 'it returns false'. Refute it at one input. -/
def runesBackWrong : ChangeSpec := { name := "runesBack", fn := fun _ => fun
  | [d] => { results := [.lit (.bool false)], args := [d] }
  | _ => none }
def RunesBackWrongFalsely : Prop := runesBackRow.holds Try.pinned (OpenSpec.ofChange runesBackWrong)

/-- 'loesslaw3.RunesJoin': WHATEVER THE INPUT: true; the input reads as it did. -/
def runesJoinSpec : ChangeSpec := { name := "runesJoin", fn := fun _ => fun
  | [d1, d2] => { results := [.lit (.bool true)], args := [d1, d2] }
  | _ => none }
def runesJoinRow : OpenClaim := { program := "ytmolfmnepbgdfaa", sum := "48ec0b9517ee236082dfda18a01c1efcb8da57f11d946d530a879a91bb65eec5", func := "loess/loesslaw3.RunesJoin", spec := "runesJoin", apart := false }
def RunesJoinSaid : Prop := runesJoinRow.holds Try.pinned (OpenSpec.ofChange runesJoinSpec)

/-- ITS FALSE NEIGHBOUR: 'it returns false'. Refute it at one input. -/
def runesJoinWrong : ChangeSpec := { name := "runesJoin", fn := fun _ => fun
  | [d1, d2] => { results := [.lit (.bool false)], args := [d1, d2] }
  | _ => none }
def RunesJoinWrongFalsely : Prop := runesJoinRow.holds Try.pinned (OpenSpec.ofChange runesJoinWrong)

/-- 'loesslaw3.RunesCut': WHATEVER THE INPUT: true; the input reads as it did. -/
def runesCutSpec : ChangeSpec := { name := "runesCut", fn := fun _ => fun
  | [d1, d2, d3] => { results := [.lit (.bool true)], args := [d1, d2, d3] }
  | _ => none }
def runesCutRow : OpenClaim := { program := "ytmolfmnepbgdfaa", sum := "48ec0b9517ee236082dfda18a01c1efcb8da57f11d946d530a879a91bb65eec5", func := "loess/loesslaw3.RunesCut", spec := "runesCut", apart := false }
def RunesCutSaid : Prop := runesCutRow.holds Try.pinned (OpenSpec.ofChange runesCutSpec)

/-- ITS FALSE NEIGHBOUR: 'it returns false'. Refute it at one input. -/
def runesCutWrong : ChangeSpec := { name := "runesCut", fn := fun _ => fun
  | [d1, d2, d3] => { results := [.lit (.bool false)], args := [d1, d2, d3] }
  | _ => none }
def RunesCutWrongFalsely : Prop := runesCutRow.holds Try.pinned (OpenSpec.ofChange runesCutWrong)

/-- 'loesslaw3.RunesOne': WHATEVER THE INPUT: true; the input reads as it did. -/
def runesOneSpec : ChangeSpec := { name := "runesOne", fn := fun _ => fun
  | [d1, d2] => { results := [.lit (.bool true)], args := [d1, d2] }
  | _ => none }
def runesOneRow : OpenClaim := { program := "ytmolfmnepbgdfaa", sum := "48ec0b9517ee236082dfda18a01c1efcb8da57f11d946d530a879a91bb65eec5", func := "loess/loesslaw3.RunesOne", spec := "runesOne", apart := false }
def RunesOneSaid : Prop := runesOneRow.holds Try.pinned (OpenSpec.ofChange runesOneSpec)

/-- ITS FALSE NEIGHBOUR: 'it returns false'. Refute it at one input. -/
def runesOneWrong : ChangeSpec := { name := "runesOne", fn := fun _ => fun
  | [d1, d2] => { results := [.lit (.bool false)], args := [d1, d2] }
  | _ => none }
def RunesOneWrongFalsely : Prop := runesOneRow.holds Try.pinned (OpenSpec.ofChange runesOneWrong)

/- THE SECOND FORM. 'bulk': how many values and letters a reading holds, each counted each time it is reached (what is shared counts as often as it is met; a slice's spare places count too). A statement '..UptoSaid' is the law's where the arguments, and the package variables that the reading takes, are together of bulk at most 1048576: NARROWER than '..Said'. Prove '..Said' where nothing that the law and all that it calls make is longer than what came in: it says more and counts as full. Else prove '..UptoSaid'. A law counts once. -/
mutual
def uptoBulk {H : Type} : DataW H → Nat
  | .lit (.string bytes) => bytes.length + 1
  | .lit _ => 1
  | .nil => 1
  | .ptr d => uptoBulk d + 1
  | .slice elems spare => uptoBulkAll elems + uptoBulkAll spare + 1
  | .agg parts => uptoBulkAll parts + 1
  | .iface _ d => uptoBulk d + 1
  | .map entries => uptoBulkEntries entries + 1
  | .held _ => 1
def uptoBulkAll {H : Type} : List (DataW H) → Nat
  | [] => 0
  | d :: r => uptoBulk d + uptoBulkAll r
def uptoBulkEntries {H : Type} : List (Lit × DataW H) → Nat
  | [] => 0
  | x :: r => uptoBulkEntry x + uptoBulkEntries r
def uptoBulkEntry {H : Type} : Lit × DataW H → Nat
  | (.string bytes, d) => bytes.length + uptoBulk d + 1
  | (_, d) => uptoBulk d + 1
 end
def uptoSmall : (H : Type) → List (DataW H) → Bool := fun _ ds => decide (uptoBulkAll ds ≤ 1048576)
def OpenSpec.upto (s : _root_.Go.ChangeSpec) : _root_.Go.OpenSpec := { _root_.Go.OpenSpec.ofChange s with cond := some uptoSmall }

/-- 'loesslaw3.RunesAll', WHERE WHAT IT READS IS OF BULK AT MOST 1048576: true; the input reads as it did. -/
def runesAllUptoRow : OpenClaim := { program := "ytmolfmnepbgdfaa", sum := "48ec0b9517ee236082dfda18a01c1efcb8da57f11d946d530a879a91bb65eec5", func := "loess/loesslaw3.RunesAll", spec := "runesAll", apart := false, narrowed := true }
def RunesAllUptoSaid : Prop := runesAllUptoRow.holds Try.pinned (OpenSpec.upto runesAllSpec)

/-- 'loesslaw3.RunesBytes', WHERE WHAT IT READS IS OF BULK AT MOST 1048576: true; the input reads as it did. -/
def runesBytesUptoRow : OpenClaim := { program := "ytmolfmnepbgdfaa", sum := "48ec0b9517ee236082dfda18a01c1efcb8da57f11d946d530a879a91bb65eec5", func := "loess/loesslaw3.RunesBytes", spec := "runesBytes", apart := false, narrowed := true }
def RunesBytesUptoSaid : Prop := runesBytesUptoRow.holds Try.pinned (OpenSpec.upto runesBytesSpec)

/-- 'loesslaw3.RunesBack', WHERE WHAT IT READS IS OF BULK AT MOST 1048576: true; the input reads as it did. -/
def runesBackUptoRow : OpenClaim := { program := "ytmolfmnepbgdfaa", sum := "48ec0b9517ee236082dfda18a01c1efcb8da57f11d946d530a879a91bb65eec5", func := "loess/loesslaw3.RunesBack", spec := "runesBack", apart := false, narrowed := true }
def RunesBackUptoSaid : Prop := runesBackUptoRow.holds Try.pinned (OpenSpec.upto runesBackSpec)

/-- 'loesslaw3.RunesJoin', WHERE WHAT IT READS IS OF BULK AT MOST 1048576: true; the input reads as it did. -/
def runesJoinUptoRow : OpenClaim := { program := "ytmolfmnepbgdfaa", sum := "48ec0b9517ee236082dfda18a01c1efcb8da57f11d946d530a879a91bb65eec5", func := "loess/loesslaw3.RunesJoin", spec := "runesJoin", apart := false, narrowed := true }
def RunesJoinUptoSaid : Prop := runesJoinUptoRow.holds Try.pinned (OpenSpec.upto runesJoinSpec)

/-- 'loesslaw3.RunesCut', WHERE WHAT IT READS IS OF BULK AT MOST 1048576: true; the input reads as it did. -/
def runesCutUptoRow : OpenClaim := { program := "ytmolfmnepbgdfaa", sum := "48ec0b9517ee236082dfda18a01c1efcb8da57f11d946d530a879a91bb65eec5", func := "loess/loesslaw3.RunesCut", spec := "runesCut", apart := false, narrowed := true }
def RunesCutUptoSaid : Prop := runesCutUptoRow.holds Try.pinned (OpenSpec.upto runesCutSpec)

/-- 'loesslaw3.RunesOne', WHERE WHAT IT READS IS OF BULK AT MOST 1048576: true; the input reads as it did. -/
def runesOneUptoRow : OpenClaim := { program := "ytmolfmnepbgdfaa", sum := "48ec0b9517ee236082dfda18a01c1efcb8da57f11d946d530a879a91bb65eec5", func := "loess/loesslaw3.RunesOne", spec := "runesOne", apart := false, narrowed := true }
def RunesOneUptoSaid : Prop := runesOneUptoRow.holds Try.pinned (OpenSpec.upto runesOneSpec)

end Rows
end Go.Proofs.Ytmolfmnepbgdfaa
