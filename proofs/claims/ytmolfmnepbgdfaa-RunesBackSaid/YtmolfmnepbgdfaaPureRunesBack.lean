/- The law RunesBack's pure statement, with no condition of its own: of a text that is valid the runes, written one by one, are the text; of others too, but for what is none. -/
import Derived.Test.YtmolfmnepbgdfaaQRunBegun
import Derived.Test.YtmolfmnepbgdfaaQRunesEnc
import Derived.Test.YtmolfmnepbgdfaaXRunx8
set_option linter.unusedVariables false
set_option linter.unusedSimpArgs false
namespace Go.Proofs.Ytmolfmnepbgdfaa.Pure
open Go.RowKit Go.Proofs.YtmolfmnepbgdfaaW.PrintWords Go.Proofs.YtmolfmnepbgdfaaW.PrintMore Go.Proofs.Ytmolfmnepbgdfaa.G Go.Proofs.Ytmolfmnepbgdfaa.XRun Go.Proofs.Ytmolfmnepbgdfaa.Q
theorem encAll_snoc (a : List Int) (x : Int) : encAll (a ++ [x]) = encAll a ++ encL x.toNat := by simp [encAll]
theorem encAll_len (a : List Int) : (encAll a).length ≤ 4 * a.length := by
  induction a with
  | nil => simp [encAll]
  | cons x r ih => have := (encL_len x.toNat).2; simp only [encAll, List.flatMap_cons, List.length_append, List.length_cons] at ih ⊢; omega
theorem back_end (s t : ByteArray) (hs : s.size ≤ 100) (ht : bytesOf t = encAll ((D s).map (·.1))) :
    ((runes_Valid.f s).bind fun t179 => if ((t.toList == s.toList) == t179) = true then ((runes_Valid.f t).bind fun t180 => if t180 = true then ((runes_Count.f t).bind fun t181 => some (t181 == (((D s).map (·.1)).length : Int))) else some false) else some false) = some true := by
  have hv := ds_vrs _ (bytesOf s) (Nat.le_refl _) (byt_bytesOf s)
  have hl := D_len s
  have htl : t.size ≤ 400 := by
    rw [size_of_bytes, ht]
    have := encAll_len ((D s).map (·.1))
    rw [List.length_map] at this
    omega
  have hDt : D t = ((D s).map (·.1)).map fun x => (x, (encL x.toNat).length, true) := by unfold D at ht ⊢; rw [ht]; exact ds_encAll _ hv
  have hvt : vld t = true := by unfold vld; rw [hDt]; simp
  rw [rValid (s := s) (by omega), Option.bind_some, rValid (s := t) (by omega), Option.bind_some, rCount (s := t) (by omega), Option.bind_some, hvt]
  have h1 : ((t.toList == s.toList) == vld s) = true := by
    rw [beq_iff_eq]
    cases hvs : vld s
    · rw [beq_eq_false_iff_ne]
      intro hh
      rw [toList_inj hh, hvs] at hvt
      cases hvt
    · rw [beq_iff_eq]
      exact bytes_iff.2 (by rw [ht]; exact encAll_ds _ _ (Nat.le_refl _) (byt_bytesOf s) hvs)
  rw [if_pos h1, if_pos rfl, hDt]
  simp
theorem back_l (s : ByteArray) (hs : s.size ≤ 100) : ∀ (r pre : List Int) (t : ByteArray), (D s).map (·.1) = pre ++ r → bytesOf t = encAll pre → Ev (fun k => loesslaw3_RunesBack.l0 k s t ((D s).map (·.1)) (pre.length : Int)) true := by
  have hv := ds_vrs _ (bytesOf s) (Nat.le_refl _) (byt_bytesOf s)
  have hl := D_len s
  intro r
  induction r with
  | nil =>
    intro pre t e ht
    refine Ev.step (f := fun _ => some true) (fun k => ?_) (Ev.now _)
    simp only [loesslaw3_RunesBack.l0]
    rw [if_neg (by rw [e]; simp)]
    exact back_end s t hs (by rw [e, List.append_nil]; exact ht)
  | cons x r ih =>
    intro pre t e ht
    have hlen : (D s).length = pre.length + r.length + 1 := by
      have := congrArg List.length e
      simp only [List.length_map, List.length_append, List.length_cons] at this
      omega
    have hx : 0 ≤ x ∧ Vc x.toNat := hv x (by unfold D at e; rw [e]; simp)
    have htl : t.size ≤ 400 := by
      rw [size_of_bytes, ht]
      have := encAll_len pre
      omega
    have hel : (Utf8.encode x).size ≤ 4 := by rw [size_of_bytes, enc_eq]; exact (encL_len _).2
    have hrec := ih (pre ++ [x]) (t ++ Utf8.encode x) (by rw [e]; simp) (by rw [bytesOf_append, ht, enc_eq, encAll_snoc, vrune_of hx])
    refine Ev.step (fun k => ?_) hrec
    simp only [loesslaw3_RunesBack.l0]
    have e1 : rd ((D s).map (·.1)) (pre.length : Int) = x := by rw [e]; exact rd_append pre r x
    rw [if_pos (by rw [List.length_map]; omega), if_pos (by omega), e1, if_pos (by omega), w64 (by omega) (by omega)]
    simp
theorem RunesBack : loesslaw3_RunesBack.Pure := by
  intro a ha
  obtain ⟨s, hs, hs1, hs2⟩ := cut3_eq a 100
  refine Ev.rounds ?_
  unfold loesslaw3_RunesBack.f
  simp only [run_begun, Option.bind_some, if_true]
  rw [show ((100 : Int)) = ((100 : Nat) : Int) from rfl, hs]
  simp only [Option.bind_some, rOf (s := s) (by omega)]
  exact back_l s hs1 ((D s).map (·.1)) [] ⟨#[]⟩ (by simp) rfl
end Go.Proofs.Ytmolfmnepbgdfaa.Pure
