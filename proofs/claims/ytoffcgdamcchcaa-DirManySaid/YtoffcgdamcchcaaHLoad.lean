/- A struct that is loaded out of a block that is known whole. -/
import Derived.Test.YtoffcgdamcchcaaWWords
import Derived.Laws.Rows
namespace Go.Proofs.Ytoffcgdamcchcaa.HL
open Go Go.RowKit Go.Proofs.YtoffcgdamcchcaaW.PrintWords
variable {P : Program} {ops : Array Oper} {rest : List Oper} {o : Oper} {a : Act} {Q : Exit → Act → World → Prop} {W : World}
theorem load_blk (hgd : o.guard = none) {t : TypeId} {p : Tmp} (ho : o.op = .load t (.tmp p)) (g : Nat) (t0 : TypeId) (cs : Array Value) (fr : Nat × Nat) (fs : Array Field)
    (hp : a.eval (.tmp p) = .pointer (some ⟨g, 0, none⟩)) (hg : W.heap[g]? = some (.cells cs t0 fr)) (hu : P.underlying t = some (.struct fs)) (hi : (P.info? t).map (·.size) = some cs.size)
    (h : wpList P ops Q rest (a.put o.dst (.agg cs)) W) : wpList P ops Q (o :: rest) a W := by
  refine Kd.event_run hgd ?_ h
  simp [execOp, ho, Instr.loadAt, Instr.sureAddr, hp, run_loadVar_row W g t0 t cs fr (.struct fs) hg hu rfl hi]
end Go.Proofs.Ytoffcgdamcchcaa.HL
