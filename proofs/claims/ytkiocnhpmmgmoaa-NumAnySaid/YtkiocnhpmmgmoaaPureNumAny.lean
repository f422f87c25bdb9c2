/- The law NumAny's pure statement, with no condition of its own: of any bytes (as the printed row takes them) the program and the reference tell the same number and the same text. -/
import Derived.Test.YtkiocnhpmmgmoaaQNumBegun
import Derived.Test.YtkiocnhpmmgmoaaQNumRef
import Derived.Test.YtkiocnhpmmgmoaaXNumx13
set_option linter.unusedVariables false
set_option linter.unusedSimpArgs false
namespace Go.Proofs.Ytkiocnhpmmgmoaa.Pure
open Go.RowKit Go.Proofs.YtkiocnhpmmgmoaaW.PrintWords Go.Proofs.YtkiocnhpmmgmoaaW.PrintMore Go.Proofs.Ytkiocnhpmmgmoaa.XNum Go.Proofs.Ytkiocnhpmmgmoaa.Q
theorem NumAny : loesslaw1_NumAny.Pure := by
  intro l hm hl hw
  have hb := Byt.of_wf hw
  refine Ev.rounds ?_
  unfold loesslaw1_NumAny.f
  refine begun_then ?_
  refine Ev.bind (evC (short_eq l 60)) ?_
  have hb2 := hb.take 60
  have hl2 : (l.take 60).length < 9223372036854775800 := by simp only [List.length_take]; omega
  refine Ev.bind (num_Get_ev hb2 hl2) (Ev.bind (ref_Get_ev hb2 hl2) (Ev.bind (num_GetText_ev hb2 hl2) (Ev.bind (ref_GetText_ev hb2 hl2) ?_)))
  refine evC ?_
  simp
end Go.Proofs.Ytkiocnhpmmgmoaa.Pure
