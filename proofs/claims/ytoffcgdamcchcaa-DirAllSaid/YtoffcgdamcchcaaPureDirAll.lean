/- The law DirAll in plain Lean: which lists may be; those go to bytes and back; where a name stands; two lists have one text just if they are the same. -/
import Derived.Test.YtoffcgdamcchcaaQDirLaw
import Derived.Test.YtoffcgdamcchcaaXDirx24
set_option linter.unusedVariables false
set_option linter.unusedSimpArgs false
namespace Go.Proofs.Ytoffcgdamcchcaa.Pure
open Go.RowKit Go.Proofs.YtoffcgdamcchcaaW.PrintWords Go.Proofs.YtoffcgdamcchcaaW.PrintMore Go.Proofs.Ytoffcgdamcchcaa.XDir Go.Proofs.Ytoffcgdamcchcaa.GL Go.Proofs.Ytoffcgdamcchcaa.Q
theorem encD_inj {a b : List Ent} (ha : mayD a = true) (hb : mayD b = true) (h : encD a = encD b) : a = b := by
  have h1 := decD_enc ha
  rw [h, decD_enc hb] at h1
  exact (Prod.mk.inj h1).1.symm
theorem all_end (A M : List Ent) (s : ByteArray) (hA : mayD A = true) (lM : M.length ≤ 34) (sA : ∀ x ∈ A, SmE x) : Ev (fun k => (dir_Decode.f (encO A)).bind fun bt280 => ((loesslaw14_bytes.f k A).bind fun t284 => (if (strOfNums (encO A)).toList = (strOfNums t284).toList then (if bt280.2 = 0 then ((loesslaw14_eq.f k bt280.1 A).bind fun t287 => (if t287 = true then ((dir_Find.f A s).bind fun t288 => (if t288 = findFrom s A 0 then ((loesslaw14_may.f k M).bind fun t289 => (if t289 = true then ((dir_Encode.f M).bind fun t290 => ((loesslaw14_eq.f k A M).bind fun t293 => (some (((strOfNums t290).toList == (strOfNums (encO A)).toList) == t293)))) else (some true))) else (none))) else (none))) else (none)) else (none)))) true := by
  have hle := ((mayD_iff A).1 hA).1
  refine Ev.bind (evC (decF_enc hA)) (Ev.bind (bytes_ev A (by omega) sA) ?_)
  refine Ev.congr (fun k => if_pos (by rw [encO_of hA])) (Ev.congr (fun k => if_pos rfl) ?_)
  refine Ev.bind (eq_ev A A (by omega)) (Ev.congr (fun k => if_pos (by simp)) ?_)
  refine Ev.bind (evC (show dir_Find.f A s = some (findFrom s A 0) from rfl)) (Ev.congr (fun k => if_pos rfl) ?_)
  refine Ev.bind (lmay_ev M (by omega)) ?_
  by_cases hM : mayD M = true
  · refine Ev.congr (fun k => if_pos hM) ?_
    refine Ev.bind (evC (show dir_Encode.f M = some (encO M) from rfl)) (Ev.bind (eq_ev A M (by omega)) (evC ?_))
    rw [encO_of hA, encO_of hM]
    by_cases e : A = M
    · subst e; simp
    · have : ¬ (strOfNums (encD M)).toList = (strOfNums (encD A)).toList := fun h => e (encD_inj hM hA (str_inj (encD_byt M) (encD_byt A) (toList_inj h))).symm
      simp [e, this]
  · exact Ev.congr (fun k => if_neg hM) (Ev.now _)
theorem all_l (A M : List Ent) (s : ByteArray) (hA : mayD A = true) (lM : M.length ≤ 34) (sA : ∀ x ∈ A, SmE x) : ∀ (d i : Nat), i + d = A.length → Ev (fun k => loesslaw14_DirAll.l0 k A M s (encO A) (findFrom s (A.take i) 0) (i : Int)) true := by
  have hle := ((mayD_iff A).1 hA).1
  intro d
  induction d with
  | zero =>
    intro i h
    refine Ev.step (fun k => by unfold loesslaw14_DirAll.l0; rfl) (Ev.congr (fun k => if_neg (by omega)) ?_)
    rw [List.take_of_length_le (by omega)]
    exact all_end A M s hA lM sA
  | succ d ih =>
    intro i h
    have hrec := ih (i + 1) (by omega)
    rw [find_next hA s (by omega)] at hrec
    refine Ev.step (fun k => by unfold loesslaw14_DirAll.l0; rfl) (Ev.congr (fun k => if_pos (by omega)) (Ev.congr (fun k => if_pos (by omega)) ?_))
    rw [w64 (x := (i : Int) + 1) (by omega) (by omega)]
    by_cases c : (ra A i).f0.toList = s.toList
    · rw [if_pos c] at hrec
      exact Ev.congr (fun k => if_pos c) hrec
    · rw [if_neg c] at hrec
      exact Ev.congr (fun k => if_neg c) hrec
theorem DirAll (l m : List Ent) (name : ByteArray) (hl : ∀ y ∈ l, I64 y.f1 ∧ I64 y.f2.f0 ∧ I64 y.f2.f1) : ∃ k, loesslaw14_DirAll.f k l m name = some true := by
  refine Ev.rounds ?_
  unfold loesslaw14_DirAll.f
  refine dir_then ?_
  refine Ev.bind (cut_ev l) (Ev.bind (cut_ev m) (Ev.bind (evC (cutS_eq name)) ?_))
  have lA := cutL_len l
  have lM := cutL_len m
  have sA := cutL_sm hl
  obtain ⟨A, hA⟩ : ∃ A, A = cutL l := ⟨_, rfl⟩
  obtain ⟨M, hM⟩ : ∃ M, M = cutL m := ⟨_, rfl⟩
  obtain ⟨s, hs⟩ : ∃ s, s = cutS name := ⟨_, rfl⟩
  rw [← hA] at lA sA ⊢
  rw [← hM] at lM ⊢
  rw [← hs]
  clear hA hM hs
  refine Ev.bind (evC (show dir_Encode.f A = some (encO A) from rfl)) (Ev.bind (dir_May_ev A (by omega)) (Ev.bind (lmay_ev A (by omega)) (Ev.congr (fun k => if_neg (by simp)) (Ev.bind (lmay_ev A (by omega)) ?_))))
  by_cases h : mayD A = true
  · refine Ev.congr (fun k => if_pos h) ?_
    refine Ev.step (fun k => by unfold loesslaw14_DirAll.j0; rfl) (Ev.congr (fun k => if_neg (by decide)) ?_)
    refine Ev.bind (lmay_ev A (by omega)) (Ev.congr (fun k => if_pos h) ?_)
    exact all_l A M s h lM sA A.length 0 (by omega)
  · refine Ev.congr (fun k => if_neg h) ?_
    have h0 : encO A = [] := if_neg h
    rw [h0]
    refine Ev.step (fun k => by unfold loesslaw14_DirAll.j0; rfl) (Ev.congr (fun k => if_neg (by decide)) ?_)
    exact Ev.bind (lmay_ev A (by omega)) (Ev.congr (fun k => if_neg h) (Ev.now _))
end Go.Proofs.Ytoffcgdamcchcaa.Pure
