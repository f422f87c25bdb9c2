/- The law NumCut's pure statement, with no condition of its own: a number or a text that is cut off anywhere is told as not all there. -/
import Derived.Test.YtkiocnhpmmgmoaaQNumBegun
import Derived.Test.YtkiocnhpmmgmoaaXNumx16
set_option linter.unusedVariables false
set_option linter.unusedSimpArgs false
namespace Go.Proofs.Ytkiocnhpmmgmoaa.Pure
open Go.RowKit Go.Proofs.YtkiocnhpmmgmoaaW.PrintWords Go.Proofs.YtkiocnhpmmgmoaaW.PrintMore Go.Proofs.Ytkiocnhpmmgmoaa.XNum Go.Proofs.Ytkiocnhpmmgmoaa.Q
theorem NumCut : loesslaw1_NumCut.Pure := by
  intro n s cut hn hs hc
  have hi : I64 n := wfI64 hn
  have hc' := wfI64 hc
  obtain ⟨t, ht, hts, htb⟩ := cut_eq s 100
  have hlt := putN_len hi
  have htl : (putT t).length ≤ 120 := by
    have := putN_len (n := (t.size : Int)) (by unfold I64; omega)
    unfold putT
    rw [List.length_append, bytesOf_length]
    omega
  refine Ev.rounds ?_
  unfold loesslaw1_NumCut.f
  refine begun_then ?_
  refine Ev.bind (evC ht) (Ev.bind (num_Put_ev hi [] (by simp)) (Ev.bind (num_PutText_ev (by omega) [] (by simp)) ?_))
  simp only [List.nil_append]
  by_cases h1 : cut < 1
  · exact Ev.congr (fun k => if_pos h1) (Ev.now _)
  · refine Ev.congr (fun k => if_neg h1) ?_
    have hsnd : cut ≤ ((putT t).length : Int) → Ev (fun k => (num_GetText.f k ((putT t).take (wrap64 (((putT t).length : Int) - cut)).toNat)).bind fun b => if b.2.2 = 2 then (if b.1.toList = ([] : List UInt8) then some (b.2.1 == 0) else some false) else some false) true := by
      intro hle
      rw [w64 (by omega) (by omega)]
      have g := num_GetText_ev (l := (putT t).take (((putT t).length : Int) - cut).toNat) ((putT_byt t).take _) (by simp only [List.length_take]; omega)
      rw [getT_cut (by omega) (by omega)] at g
      refine Ev.bind g (evC ?_)
      rw [if_pos rfl, if_pos (by rw [toList_eq])]
      rfl
    by_cases h2 : cut ≤ ((putN n).length : Int)
    · refine Ev.congr (fun k => if_pos h2) ?_
      rw [w64 (x := ((putN n).length : Int) - cut) (by omega) (by omega)]
      refine Ev.congr (fun k => if_pos (by omega)) (Ev.congr (fun k => if_pos (by omega)) ?_)
      have g := num_Get_ev (l := (putN n).take (((putN n).length : Int) - cut).toNat) ((putN_byt n).take _) (by simp only [List.length_take]; omega)
      rw [getN_cut hi (by omega)] at g
      refine Ev.bind g ?_
      simp only [if_true]
      refine Ev.step (f := fun k => if cut ≤ ((putT t).length : Int) then ((num_GetText.f k ((putT t).take (wrap64 (((putT t).length : Int) - cut)).toNat)).bind fun b => if b.2.2 = 2 then (if b.1.toList = ([] : List UInt8) then some (b.2.1 == 0) else some false) else some false) else some true) (fun k => ?_) ?_
      · simp only [loesslaw1_NumCut.j0]
        rw [if_neg (by simp)]
        split
        · rw [w64 (by omega) (by omega), if_pos (by omega), if_pos (by omega)]
        · rfl
      · by_cases h3 : cut ≤ ((putT t).length : Int)
        · exact Ev.congr (fun k => if_pos h3) (hsnd h3)
        · exact Ev.congr (fun k => if_neg h3) (Ev.now _)
    · refine Ev.congr (fun k => if_neg h2) ?_
      by_cases h3 : cut ≤ ((putT t).length : Int)
      · refine Ev.congr (fun k => if_pos h3) ?_
        have hw := w64 (x := ((putT t).length : Int) - cut) (by omega) (by omega)
        refine Ev.congr (fun k => if_pos (by rw [hw]; omega)) (Ev.congr (fun k => if_pos (by rw [hw]; omega)) (hsnd h3))
      · exact Ev.congr (fun k => if_neg h3) (Ev.now _)
end Go.Proofs.Ytkiocnhpmmgmoaa.Pure
