/- The law NumBack's pure statement, with no condition of its own: any number and text go to their bytes and back, whatever stands ahead and behind. -/
import Derived.Test.YtkiocnhpmmgmoaaQNumBegun
import Derived.Test.YtkiocnhpmmgmoaaQNumRef
import Derived.Test.YtkiocnhpmmgmoaaXNumx10
set_option linter.unusedVariables false
set_option linter.unusedSimpArgs false
namespace Go.Proofs.Ytkiocnhpmmgmoaa.Pure
open Go.RowKit Go.Proofs.YtkiocnhpmmgmoaaW.PrintWords Go.Proofs.YtkiocnhpmmgmoaaW.PrintMore Go.Proofs.Ytkiocnhpmmgmoaa.XNum Go.Proofs.Ytkiocnhpmmgmoaa.Q
theorem NumBack : loesslaw1_NumBack.Pure := by
  intro ahead rest n s hm0 hl0 hw0 hm1 hl1 hw1 hn hs
  have hb0 := Byt.of_wf hw0
  have hb1 := Byt.of_wf hw1
  have hi : I64 n := wfI64 hn
  obtain ⟨t, ht, hts, htb⟩ := cut_eq s 100
  have hlt := putN_len hi
  have htl : (putT t).length ≤ 120 := by
    have := putN_len (n := (t.size : Int)) (by unfold I64; omega)
    unfold putT
    rw [List.length_append, bytesOf_length]
    omega
  refine Ev.rounds ?_
  unfold loesslaw1_NumBack.f
  refine begun_then ?_
  refine Ev.bind (evC (short_eq ahead 20)) (Ev.bind (evC (short_eq rest 20)) (Ev.bind (evC ht) ?_))
  have la : (ahead.take 20).length ≤ 20 := by simp only [List.length_take]; omega
  have lr : (rest.take 20).length ≤ 20 := by simp only [List.length_take]; omega
  have ba := hb0.take 20
  have br := hb1.take 20
  refine Ev.congr (fun k => if_pos (by simp only [List.length_nil]; omega)) ?_
  rw [List.nil_append]
  refine Ev.bind (num_Put_ev hi (ahead.take 20) (by omega)) (Ev.bind (num_PutText_ev (by omega) (ahead.take 20) (by omega)) (Ev.bind (ref_Put_ev hi) ?_))
  refine Ev.congr (fun k => if_pos (str_cat_size _ _ (by omega))) ?_
  refine Ev.congr (fun k => if_pos (by rw [str_append])) ?_
  refine Ev.bind (ref_PutText_ev (by omega)) ?_
  refine Ev.congr (fun k => if_pos (str_cat_size _ _ (by omega))) ?_
  have hne : ((strOfNums (ahead.take 20 ++ putT t)).toList != (strOfNums (ahead.take 20) ++ strOfNums (putT t)).toList) = false := by rw [str_append]; simp
  rw [hne]
  have g1 := num_Get_ev (l := putN n ++ rest.take 20) ((putN_byt n).append br) (by simp only [List.length_append]; omega)
  have g2 := num_GetText_ev (l := putT t ++ rest.take 20) ((putT_byt t).append br) (by simp only [List.length_append]; omega)
  rw [getN_put hi] at g1
  rw [getT_put (by omega)] at g2
  refine Ev.step (f := fun k => (num_Get.f k (putN n ++ rest.take 20)).bind fun b => (num_GetText.f k (putT t ++ rest.take 20)).bind fun c => some (decide (b.2.2 = 0 ∧ b.1 = n ∧ b.2.1 = (putN n).length ∧ c.2.2 = 0 ∧ c.1 = t ∧ c.2.1 = (putT t).length))) (fun k => ?_) ?_
  · simp only [loesslaw1_NumBack.j0]
    have e1 : (ahead.take 20 ++ putN n).drop (((ahead.take 20).length : Int)).toNat = putN n := by rw [Int.toNat_natCast]; exact List.drop_left
    have e2 : (ahead.take 20 ++ putT t).drop (((ahead.take 20).length : Int)).toNat = putT t := by rw [Int.toNat_natCast]; exact List.drop_left
    rw [if_neg (by simp), if_pos (by omega), if_pos (by simp only [List.length_append]; omega), e1, e2]
    simp only [Option.bind_some, List.nil_append, List.length_nil]
    rw [if_pos (by omega), if_pos (by omega)]
    congr 1
    funext b
    rw [if_pos (by simp only [List.length_append]; omega), if_pos (by omega), if_pos (by omega)]
    congr 1
    funext c
    rw [w64 (x := ((ahead.take 20 ++ putN n).length : Int) - ((ahead.take 20).length : Int)) (by simp only [List.length_append]; omega) (by simp only [List.length_append]; omega), w64 (x := ((ahead.take 20 ++ putT t).length : Int) - ((ahead.take 20).length : Int)) (by simp only [List.length_append]; omega) (by simp only [List.length_append]; omega)]
    simp only [toList_iff, List.length_append, Int.natCast_add, show ∀ a b : Int, a + b - a = b from fun a b => by omega]
    split
    · rename_i h1
      split
      · rename_i h2
        split
        · rename_i h3
          split
          · rename_i h4
            split
            · rename_i h5
              simp [h1, h2, h3, h4, h5, Bool.beq_eq_decide_eq]
            · rename_i h5; simp [h5]
          · rename_i h4; simp [h4]
        · rename_i h3; simp [h3]
      · rename_i h2; simp [h2]
    · rename_i h1; simp [h1]
  · refine Ev.bind g1 (Ev.bind g2 (evC ?_))
    simp
end Go.Proofs.Ytkiocnhpmmgmoaa.Pure
