/- The law KeyAll's pure statement, with no condition of its own: which keys may be; their order by bytes, by runes; folded. -/
import Derived.Test.YtbjkednhoanloaaQKeyFn
import Derived.Test.YtbjkednhoanloaaXKeyx13
set_option linter.unusedVariables false
set_option linter.unusedSimpArgs false
namespace Go.Proofs.Ytbjkednhoanloaa.Pure
open Go.RowKit Go.Proofs.YtbjkednhoanloaaW.PrintWords Go.Proofs.YtbjkednhoanloaaW.PrintMore Go.Proofs.Ytbjkednhoanloaa.G Go.Proofs.Ytbjkednhoanloaa.XKey Go.Proofs.Ytbjkednhoanloaa.Q
theorem nil_iff (s : ByteArray) : s.toList = ([] : List UInt8) ↔ s.size = 0 := by
  rw [toList_eq]
  have := data_length s
  constructor
  · intro e
    rw [e] at this
    simpa using this.symm
  · intro h
    exact List.eq_nil_of_length_eq_zero (by omega)
theorem may_eq (s : ByteArray) : key_May.f s = loessref1_MayKey.f s := by
  unfold key_May.f loessref1_MayKey.f
  have h0 := nil_iff s
  by_cases h : s.size = 0
  · rw [if_pos (h0.2 h), if_neg (by omega)]
  · rw [if_neg (fun e => h (h0.1 e)), if_pos (by omega)]
theorem may_some (s : ByteArray) : ∃ b, loessref1_MayKey.f s = some b := by
  unfold loessref1_MayKey.f
  split
  · exact ⟨_, rfl⟩
  · exact ⟨_, rfl⟩
theorem KeyAll : loesslaw5_KeyAll.Pure := by
  intro a b ha hb
  obtain ⟨s, hs, hs1, hs2⟩ := cut3_eq a 20
  obtain ⟨t, ht, ht1, ht2⟩ := cut3_eq b 20
  obtain ⟨f, hf, hf1, hf2⟩ := fold_bytes (s := s) (by omega)
  obtain ⟨m, hm⟩ := may_some s
  have hrf : loessref1_Fold.f s = some f := by rw [← hf]; rfl
  refine Ev.rounds ?_
  unfold loesslaw5_KeyAll.f
  refine key_then ?_
  rw [show ((20 : Int)) = ((20 : Nat) : Int) from rfl, hs, ht]
  unfold key_Less.f
  simp only [Option.bind_some, may_eq, hm, beq_self_eq_true, if_true, hf, hrf]
  refine Ev.bind (runes_ev (by omega) (by omega)) (Ev.bind (refRunesCmp_ev (by omega) (by omega)) ?_)
  refine Ev.congr (fun k => if_pos rfl) (evC ?_)
  rfl
end Go.Proofs.Ytbjkednhoanloaa.Pure
