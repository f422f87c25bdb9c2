/- The law KeyFold's pure statement, with no condition of its own: folded twice is folded once; no length is turned; what has no great letter stays. -/
import Derived.Test.YtbjkednhoanloaaQKeyFn
import Derived.Test.YtbjkednhoanloaaXKeyx17
set_option linter.unusedVariables false
set_option linter.unusedSimpArgs false
namespace Go.Proofs.Ytbjkednhoanloaa.Pure
open Go.RowKit Go.Proofs.YtbjkednhoanloaaW.PrintWords Go.Proofs.YtbjkednhoanloaaW.PrintMore Go.Proofs.Ytbjkednhoanloaa.G Go.Proofs.Ytbjkednhoanloaa.XKey Go.Proofs.Ytbjkednhoanloaa.Q
def grt (x : Int) : Bool := decide (65 ≤ x ∧ x ≤ 90)
theorem fold_grt (x : Int) : foldB x = x ↔ grt x = false := by
  unfold foldB grt
  by_cases h : 65 ≤ x ∧ x ≤ 90
  · rw [if_pos h, decide_eq_true h]
    constructor
    · intro e; omega
    · intro e; cases e
  · rw [if_neg h, decide_eq_false h]
    simp
theorem fold_twice (x : Int) : foldB (foldB x) = foldB x := by
  unfold foldB
  split
  · rw [if_neg (by omega)]
  · rfl
theorem map_fold (l : List Int) : l.map foldB = l ↔ l.any grt = false := by
  induction l with
  | nil => simp
  | cons x l ih =>
    simp only [List.map_cons, List.cons.injEq, List.any_cons, Bool.or_eq_false_iff, ih, fold_grt]
theorem nil_iff (s : ByteArray) : s.toList = ([] : List UInt8) ↔ s.size = 0 := by
  rw [toList_eq]
  have := data_length s
  constructor
  · intro e
    rw [e] at this
    simpa using this.symm
  · intro h
    exact List.eq_nil_of_length_eq_zero (by omega)
theorem may_size {s t : ByteArray} (h : s.size = t.size) : key_May.f s = key_May.f t := by
  have h0 := nil_iff
  unfold key_May.f
  by_cases h1 : s.size = 0
  · rw [if_pos ((h0 s).2 h1), if_pos ((h0 t).2 (by omega))]
  · rw [if_neg (fun e => h1 ((h0 s).1 e)), if_neg (fun e => h1 (by rw [h]; exact (h0 t).1 e)), h]
theorem may_some (s : ByteArray) : ∃ b, key_May.f s = some b := by
  unfold key_May.f
  split
  · exact ⟨_, rfl⟩
  · exact ⟨_, rfl⟩
theorem fold_l (s f : ByteArray) (hs : s.size ≤ 40) (hf : bytesOf f = (bytesOf s).map foldB) (hfs : f.size = s.size) : ∀ (d i : Nat), s.size ≤ i + d → i ≤ s.size →
    Ev (fun k => loesslaw5_KeyFold.l0 k s f (((bytesOf s).take i).any grt) (i : Int)) true := by
  have hlen := bytesOf_length s
  intro d
  induction d with
  | zero =>
    intro i h1 h2
    have hi : ¬ (i : Int) < s.size := by omega
    obtain ⟨m, hm⟩ := may_some s
    have hm2 : key_May.f f = some m := by rw [may_size hfs]; exact hm
    have hff : key_Fold.f f = some f := by
      obtain ⟨g, hg, hg1, hg2⟩ := fold_bytes (s := f) (by omega)
      rw [hg]
      congr 1
      apply bytesOf_inj
      rw [hg1, hf, List.map_map]
      apply List.map_congr_left
      intro x _
      exact fold_twice x
    have hall : (bytesOf s).take i = bytesOf s := List.take_of_length_le (by omega)
    have hbe : (f.toList == s.toList) = (!(bytesOf s).any grt) := by
      by_cases hg : (bytesOf s).any grt = true
      · have : ¬ f.toList = s.toList := by
          intro e
          have e2 : bytesOf f = bytesOf s := by rw [toList_inj e]
          rw [hf, map_fold] at e2
          rw [e2] at hg
          cases hg
        rw [hg]
        simpa using this
      · have hg' := Bool.eq_false_iff.2 hg
        have : f = s := bytesOf_inj (by rw [hf]; exact (map_fold _).2 hg')
        rw [hg', this]
        simp
    refine Ev.step (f := fun _ => some true) (fun k => ?_) (Ev.now _)
    simp only [loesslaw5_KeyFold.l0]
    rw [if_neg hi, hff, Option.bind_some, if_pos rfl, if_pos (by omega), hall, hbe, beq_self_eq_true, if_pos rfl, hm, hm2, Option.bind_some, Option.bind_some, beq_self_eq_true]
  | succ d ih =>
    intro i h1 h2
    by_cases hi : (i : Int) < s.size
    · have hrec := ih (i + 1) (by omega) (by omega)
      have hb := bt_bytes s i
      have hbl : i < (bytesOf s).length := by omega
      have htk : ((bytesOf s).take (i + 1)).any grt = (((bytesOf s).take i).any grt || grt (bt s (i : Int))) := by
        rw [List.take_succ_eq_append_getElem hbl, List.any_append, hb, List.getD_eq_getElem?_getD, List.getElem?_eq_getElem hbl]
        simp
      rw [htk] at hrec
      refine Ev.step (fun k => ?_) hrec
      simp only [loesslaw5_KeyFold.l0]
      rw [if_pos hi, w64 (by omega) (by omega)]
      by_cases hg : ((bytesOf s).take i).any grt = true
      · rw [hg, if_pos rfl, Bool.true_or]
        rfl
      · have hg' := Bool.eq_false_iff.2 hg
        rw [hg', if_neg (by simp), if_pos (by omega), Bool.false_or]
        by_cases h65 : bt s (i : Int) ≥ 65
        · rw [if_pos h65]
          have : grt (bt s (i : Int)) = decide (bt s (i : Int) ≤ 90) := by unfold grt; simp; omega
          rw [this]
          rfl
        · rw [if_neg h65]
          have : grt (bt s (i : Int)) = false := by unfold grt; simp; omega
          rw [this]
          rfl
    · exact ih i (by omega) h2
theorem KeyFold : loesslaw5_KeyFold.Pure := by
  intro a ha
  obtain ⟨s, hs, hs1, hs2⟩ := cut3_eq a 40
  obtain ⟨f, hf, hf1, hf2⟩ := fold_bytes (s := s) (by omega)
  refine Ev.rounds ?_
  unfold loesslaw5_KeyFold.f
  refine key_then ?_
  rw [show ((40 : Int)) = ((40 : Nat) : Int) from rfl, hs]
  simp only [Option.bind_some, hf]
  have := fold_l s f hs1 hf1 hf2 s.size 0 (by omega) (by omega)
  simpa using this
end Go.Proofs.Ytbjkednhoanloaa.Pure
