/- The law RunesAll's pure statement, with no condition of its own: of any text the program and the reference tell the same runes, the same places, the same first ones. -/
import Derived.Test.YtmolfmnepbgdfaaQRunBegun
import Derived.Test.YtmolfmnepbgdfaaQRunesRef
import Derived.Test.YtmolfmnepbgdfaaXRunx6
set_option linter.unusedVariables false
set_option linter.unusedSimpArgs false
namespace Go.Proofs.Ytmolfmnepbgdfaa.Pure
open Go.RowKit Go.Proofs.YtmolfmnepbgdfaaW.PrintWords Go.Proofs.YtmolfmnepbgdfaaW.PrintMore Go.Proofs.Ytmolfmnepbgdfaa.G Go.Proofs.Ytmolfmnepbgdfaa.XRun Go.Proofs.Ytmolfmnepbgdfaa.Q
theorem pos_le (s : ByteArray) (i : Nat) : wd ((D s).take i) ≤ s.size := by rw [← D_wd]; exact wd_take_le _ _
theorem rd_begins {s : ByteArray} {i : Nat} (h : i < (D s).length) : rd (begins (D s) 0) (i : Int) = (wd ((D s).take i) : Int) := by
  have := begins_get (D s) 0 i h
  simp only [rd, Int.toNat_natCast]
  rw [this, Nat.zero_add]
theorem rd_runes {s : ByteArray} {i : Nat} (h : i < (D s).length) : rd ((D s).map (·.1)) (i : Int) = ((D s)[i]'h).1 := by
  simp [rd, List.getD_eq_getElem?_getD, h]
theorem cut_is {s : ByteArray} (hs : s.size ≤ 100) {i : Nat} (h : i < (D s).length) : ∃ c, runes_Cut.f s (i : Int) = some c ∧ c.toList = (s.extract 0 (wd ((D s).take i))).toList := by
  obtain ⟨c, hc, hc2⟩ := rCut (s := s) (by omega) (i : Int)
  refine ⟨c, hc, bytes_iff.2 ?_⟩
  rw [hc2, bytesOf_extract, List.drop_zero]
  unfold cutB
  rw [Int.toNat_natCast]
theorem all_j3 (s : ByteArray) (hs : s.size ≤ 100) (n : Int) : Ev (fun k => loesslaw3_RunesAll.j3 k s n ((D s).map (·.1)) (begins (D s) 0) false) true := by
  have hl := D_len s
  obtain ⟨c, hc, hc2⟩ := rCut (s := s) (by omega) n
  refine Ev.step (f := fun _ => some true) (fun k => ?_) (Ev.now _)
  simp only [loesslaw3_RunesAll.j3]
  rw [if_neg (by simp), hc, Option.bind_some]
  unfold cutB at hc2
  by_cases h1 : n < 0
  · rw [if_pos h1]
    have : c.toList = ([] : List UInt8) := toList_nil_iff.2 (by rw [hc2, show n.toNat = 0 by omega]; simp [wd])
    rw [this]
    rfl
  · rw [if_neg h1]
    by_cases h2 : n ≥ (((D s).map (·.1)).length : Int)
    · rw [if_pos h2]
      rw [List.length_map] at h2
      have : c.toList = s.toList := bytes_iff.2 (by rw [hc2, List.take_of_length_le (by omega : (D s).length ≤ n.toNat), D_wd, List.take_of_length_le (by rw [bytesOf_length]; omega)])
      rw [this]
      simp
    · rw [if_neg h2]
      rw [List.length_map] at h2
      have hi : n.toNat < (D s).length := by omega
      have hp := pos_le s n.toNat
      have e1 : rd (begins (D s) 0) n = (wd ((D s).take n.toNat) : Int) := by
        have := rd_begins hi
        rwa [show ((n.toNat : Nat) : Int) = n by omega] at this
      rw [if_pos (by omega), if_pos (by rw [begins_len]; omega), e1, if_pos (by omega), if_pos (by omega), Int.toNat_natCast]
      have : c.toList = (s.extract 0 (wd ((D s).take n.toNat))).toList := bytes_iff.2 (by rw [hc2, bytesOf_extract, List.drop_zero])
      rw [this]
      simp
theorem all_l (s : ByteArray) (hs : s.size ≤ 100) (n : Int) : ∀ (d i : Nat), i + d = (D s).length →
    Ev (fun k => loesslaw3_RunesAll.l0 k s n ((D s).map (·.1)) (begins (D s) 0) ((D s).map (·.1)) (i : Int)) true := by
  have hl := D_len s
  intro d
  induction d with
  | zero =>
    intro i hi
    refine Ev.step (fun k => ?_) (all_j3 s hs n)
    simp only [loesslaw3_RunesAll.l0]
    rw [if_neg (by rw [List.length_map]; omega), rAt (s := s) (by omega) n, Option.bind_some]
    by_cases h1 : n < 0
    · rw [dif_neg (by omega), if_pos h1]
      simp
    · rw [if_neg h1]
      by_cases h2 : n ≥ (((D s).map (·.1)).length : Int)
      · rw [List.length_map] at h2
        rw [dif_neg (by omega), if_pos (by rw [List.length_map]; omega)]
        simp
      · rw [if_neg h2]
  | succ d ih =>
    intro i hi
    have hi2 : i < (D s).length := by omega
    have hp := pos_le s i
    have hat := rAt (s := s) (by omega) (i : Int)
    rw [dif_pos ⟨by omega, by rw [Int.toNat_natCast]; exact hi2⟩] at hat
    simp only [Int.toNat_natCast] at hat
    obtain ⟨c, hc, hc2⟩ := cut_is hs hi2
    refine Ev.step (f := fun k => loesslaw3_RunesAll.j2 k s n ((D s).map (·.1)) (begins (D s) 0) ((D s).map (·.1)) (i : Int) false) (fun k => ?_) (Ev.step (fun k => ?_) (ih (i + 1) (by omega)))
    · simp only [loesslaw3_RunesAll.l0]
      rw [if_pos (by rw [List.length_map]; omega), hat, Option.bind_some, if_pos (by omega), if_pos (by rw [List.length_map]; omega), if_pos trivial, rd_runes hi2, if_pos rfl, if_pos (by rw [begins_len]; omega), rd_begins hi2, if_pos rfl, if_pos rfl, hc, Option.bind_some, if_pos (by omega), if_pos (by omega), Int.toNat_natCast, hc2]
      simp
    · simp only [loesslaw3_RunesAll.j2]
      rw [if_neg (by simp), w64 (by omega) (by omega)]
      rfl
theorem RunesAll : loesslaw3_RunesAll.Pure := by
  intro a n ha hn
  obtain ⟨s, hs, hs1, hs2⟩ := cut3_eq a 100
  refine Ev.rounds ?_
  unfold loesslaw3_RunesAll.f
  simp only [run_begun, Option.bind_some, if_true]
  rw [show ((100 : Int)) = ((100 : Nat) : Int) from rfl, hs]
  simp only [Option.bind_some]
  refine Ev.bind (refRunes_ev (s := s) (by omega)) ?_
  simp only [rOf (s := s) (by omega), rCount (s := s) (by omega), rValid (s := s) (by omega), Option.bind_some]
  refine Ev.congr (fun k => if_pos (by simp [D])) (Ev.congr (fun k => if_pos (by simp [D])) ?_)
  refine Ev.bind (refValid_ev (s := s) (by omega)) ?_
  have hne : (vld s != (ds (bytesOf s)).all (·.2.2)) = false := by unfold vld D; simp
  rw [hne]
  refine Ev.step (fun k => ?_) (all_l s hs1 n _ 0 (Nat.zero_add _))
  simp only [loesslaw3_RunesAll.j0]
  rw [if_neg (by simp)]
  rfl
end Go.Proofs.Ytmolfmnepbgdfaa.Pure
