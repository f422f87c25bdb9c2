/- The law RunesCut's pure statement, with no condition of its own: the first runes of the first ones are the first ones; what is cut off goes on. -/
import Derived.Test.YtmolfmnepbgdfaaQRunBegun
import Derived.Test.YtmolfmnepbgdfaaXRunx10
set_option linter.unusedVariables false
set_option linter.unusedSimpArgs false
namespace Go.Proofs.Ytmolfmnepbgdfaa.Pure
open Go.RowKit Go.Proofs.YtmolfmnepbgdfaaW.PrintWords Go.Proofs.YtmolfmnepbgdfaaW.PrintMore Go.Proofs.Ytmolfmnepbgdfaa.G Go.Proofs.Ytmolfmnepbgdfaa.XRun Go.Proofs.Ytmolfmnepbgdfaa.Q
theorem RunesCut : loesslaw3_RunesCut.Pure := by
  intro a n m ha hn hm
  have hn' := wfI64 hn
  have hm' := wfI64 hm
  obtain ⟨s, hs, hs1, hs2⟩ := cut3_eq a 60
  refine Ev.rounds ?_
  unfold loesslaw3_RunesCut.f
  simp only [run_begun, Option.bind_some, if_true]
  rw [show ((60 : Int)) = ((60 : Nat) : Int) from rfl, hs]
  simp only [Option.bind_some]
  have hj : ∀ k, (if n < 0 then loesslaw3_RunesCut.j0 k s n m true else loesslaw3_RunesCut.j0 k s n m (decide (m < 0))) = loesslaw3_RunesCut.j0 k s n m (decide (n < 0 ∨ m < 0)) := by
    intro k
    by_cases h : n < 0
    · rw [if_pos h]; congr 1; simp [h]
    · rw [if_neg h]; congr 1; simp [h]
  refine Ev.congr hj ?_
  by_cases h : n < 0 ∨ m < 0
  · obtain ⟨c, hc, hc2⟩ := rCut (s := s) (by omega) (-1)
    refine Ev.step (f := fun _ => some true) (fun k => ?_) (Ev.now _)
    simp only [loesslaw3_RunesCut.j0]
    rw [if_pos (by simp [h]), hc, Option.bind_some]
    have : c.toList = ([] : List UInt8) := toList_nil_iff.2 (by rw [hc2]; simp [cutB, wd])
    rw [this]
    rfl
  · obtain ⟨c, hc, hc2⟩ := rCut (s := s) (by omega) n
    have hcs : c.size ≤ s.size := by rw [size_of_bytes, hc2, size_of_bytes s]; unfold cutB; rw [List.length_take]; omega
    obtain ⟨e, he, he2⟩ := rCut (s := c) (by omega) m
    obtain ⟨f, hf, hf2⟩ := rCut (s := s) (by omega) (mn n m)
    have hDc : D c = (D s).take n.toNat := by unfold D; rw [hc2]; exact ds_take _ _
    have hmn : (mn n m).toNat = min n.toNat m.toNat := by unfold mn; omega
    have hwle := wd_take_le ((D s).take n.toNat) m.toNat
    have hef : bytesOf e = bytesOf f := by
      rw [he2, hf2]
      unfold cutB
      rw [hDc, hc2, hmn]
      unfold cutB
      rw [List.take_take, List.take_take, Nat.min_eq_left (by rw [List.take_take] at hwle; exact hwle), Nat.min_comm]
    have hcsz : c.size = wd ((D s).take n.toNat) := by
      have := wd_take_le (D s) n.toNat
      rw [D_wd] at this
      rw [size_of_bytes, hc2]
      unfold cutB
      rw [List.length_take, bytesOf_length]
      omega
    have hpre : bytesOf (s.extract 0 c.size) = bytesOf c := by rw [bytesOf_extract, List.drop_zero, hc2, hcsz]; rfl
    have hrest : bytesOf (s.extract c.size s.size) = (bytesOf s).drop c.size := by
      rw [bytesOf_extract, List.take_of_length_le (by rw [bytesOf_length]; omega)]
    have hDr : D (s.extract c.size s.size) = (D s).drop n.toNat := by unfold D; rw [hrest, hcsz]; exact ds_drop _ _
    have hl := D_len s
    have hrs : (s.extract c.size s.size).size ≤ s.size := by rw [ByteArray.size_extract]; omega
    refine Ev.step (f := fun _ => some true) (fun k => ?_) (Ev.now _)
    simp only [loesslaw3_RunesCut.j0]
    rw [if_neg (by simpa using h), hc, Option.bind_some, he, Option.bind_some, hf, Option.bind_some, if_pos (bytes_iff.2 hef), if_pos (by omega), if_pos (by omega), if_pos (bytes_iff.2 hpre)]
    rw [rCount (s := c) (by omega), Option.bind_some, rCount (s := s.extract c.size s.size) (by omega), Option.bind_some, rCount (s := s) (by omega), Option.bind_some, hDc, hDr]
    have e1 : ((((D s).take n.toNat).length : Int) + (((D s).drop n.toNat).length : Int)) = ((D s).length : Int) := by
      rw [List.length_take, List.length_drop]; omega
    rw [e1, w64 (by omega) (by omega), if_pos rfl]
    have e2 : (((D s).take n.toNat).length : Int) = mn n ((D s).length : Int) := by rw [List.length_take]; unfold mn; omega
    simp only [Option.bind_some, e2]
    simp
end Go.Proofs.Ytmolfmnepbgdfaa.Pure
