/- The law DirMany in plain Lean: a list has at most thirty-two entries, by rising names; each is found where it stands. -/
import Derived.Test.YtoffcgdamcchcaaQDirLaw
import Derived.Test.YtoffcgdamcchcaaXDirx17
set_option linter.unusedVariables false
set_option linter.unusedSimpArgs false
namespace Go.Proofs.Ytoffcgdamcchcaa.Pure
open Go.RowKit Go.Proofs.YtoffcgdamcchcaaW.PrintWords Go.Proofs.YtoffcgdamcchcaaW.PrintMore Go.Proofs.Ytoffcgdamcchcaa.XDir Go.Proofs.Ytoffcgdamcchcaa.GL Go.Proofs.Ytoffcgdamcchcaa.Q
def nmL (i : Nat) : List UInt8 := [102, UInt8.ofNat (48 + i / 10), UInt8.ofNat (48 + i % 10)]
def nm (i : Nat) : ByteArray := strOfNums [102, ((48 + i / 10 : Nat) : Int), ((48 + i % 10 : Nat) : Int)]
theorem nm_list (i : Nat) : (nm i).toList = nmL i := by
  rw [toList_eq]
  show [UInt8.ofNat (102 : Int).toNat, UInt8.ofNat (((48 + i / 10 : Nat) : Int)).toNat, UInt8.ofNat (((48 + i % 10 : Nat) : Int)).toNat] = _
  rw [Int.toNat_natCast, Int.toNat_natCast]
  rfl
theorem nm_size (i : Nat) : (nm i).size = 3 := by
  unfold nm
  rw [strOfNums_size]
  rfl
theorem nm_rise : (List.range 40).all (fun i => i == 0 || Op.bytesLess (nmL (i - 1)) (nmL i)) = true := by decide +kernel
theorem nm_apart : (List.range 40).all (fun i => (List.range 40).all fun j => i == j || !(nmL i == nmL j)) = true := by decide +kernel
theorem nm_less {i : Nat} (h0 : i ≠ 0) (h : i < 40) : Op.bytesLess (nmL (i - 1)) (nmL i) = true := by
  have := List.all_eq_true.1 nm_rise i (List.mem_range.2 h)
  simpa [h0] using this
theorem nm_inj {i j : Nat} (hi : i < 40) (hj : j < 40) (h : nmL i = nmL j) : i = j := by
  have := List.all_eq_true.1 (List.all_eq_true.1 nm_apart i (List.mem_range.2 hi)) j (List.mem_range.2 hj)
  simpa [h] using this
/-- The i-th entry. -/
def entM (size : Int) (i : Nat) : Ent := ⟨nm i, size, ⟨if size = 0 then 0 else (i : Int) + 1, (size + 63) / 64⟩⟩
def lisM (size : Int) (n : Nat) : List Ent := (List.range n).map (entM size)
theorem lisM_len (size : Int) (n : Nat) : (lisM size n).length = n := by unfold lisM; simp
theorem lisM_succ (size : Int) (n : Nat) : lisM size (n + 1) = lisM size n ++ [entM size n] := by unfold lisM; rw [List.range_succ, List.map_append]; rfl
theorem ra_lisM (size : Int) {n i : Nat} (h : i < n) : ra (lisM size n) i = entM size i := by
  simp [rd_T32, lisM, h]
theorem ok_entM {size : Int} (h0 : 0 ≤ size) (h1 : size ≤ 65536) {i : Nat} (hi : i < 40) : OkE (entM size i) := by
  have : (entM size i).f0.size = 3 := nm_size i
  unfold OkE
  rw [this]
  show 1 ≤ 3 ∧ 3 ≤ 20 ∧ 0 ≤ size ∧ size ≤ 65536 ∧ (size + 63) / 64 = (size + 63) / 64 ∧ 0 ≤ (if size = 0 then (0 : Int) else (i : Int) + 1) ∧ (if size = 0 then (0 : Int) else (i : Int) + 1) ≤ 2048 ∧ (0 < size ∨ (if size = 0 then (0 : Int) else (i : Int) + 1) = 0)
  split <;> omega
theorem may_lisM {size : Int} (h0 : 0 ≤ size) (h1 : size ≤ 65536) {n : Nat} (hn : n ≤ 40) : mayD (lisM size n) = decide (n ≤ 32) := by
  by_cases c : n ≤ 32
  · rw [decide_eq_true c, mayD_iff]
    refine ⟨by rw [lisM_len]; exact c, fun i hi => ?_⟩
    rw [lisM_len] at hi
    unfold stepE
    rw [ra_lisM size hi, decide_eq_true (ok_entM h0 h1 (by omega)), Bool.true_and]
    by_cases e : i = 0
    · simp [e]
    · rw [ra_lisM size (show i - 1 < n by omega)]
      have := nm_less e (by omega)
      have h2 : (entM size (i - 1)).f0.toList = nmL (i - 1) := nm_list _
      have h3 : (entM size i).f0.toList = nmL i := nm_list _
      rw [h2, h3, this]
      simp
  · rw [decide_eq_false c]
    refine Bool.eq_false_iff.2 (fun h => c ?_)
    have := ((mayD_iff _).1 h).1
    rw [lisM_len] at this
    exact this
theorem find_lisM (size : Int) {i : Nat} (hi : i < 40) : ∀ (d a : Nat), a ≤ i → i < a + d → a + d ≤ 40 → findFrom (nm i) ((List.range' a d).map (entM size)) (a : Int) = (i : Int) := by
  intro d
  induction d with
  | zero => intro a h1 h2; omega
  | succ d ih =>
    intro a h1 h2 h3
    rw [List.range'_succ, List.map_cons]
    unfold findFrom
    have e : (entM size a).f0.toList = nmL a := nm_list _
    rw [e, nm_list]
    by_cases c : a = i
    · subst c; rw [if_pos rfl]
    · rw [if_neg (fun h => c (nm_inj (by omega) hi h))]
      have := ih (a + 1) (by omega) (by omega) (by omega)
      rw [Int.natCast_add, Int.natCast_one] at this
      exact this
theorem find_f (size : Int) (n : Nat) : findFrom (⟨#[102]⟩ : ByteArray) (lisM size n) 0 = -1 := by
  refine find_none _ _ _ ?_
  rintro ⟨y, hy, e⟩
  obtain ⟨i, _, rfl⟩ := List.mem_map.1 hy
  have h1 : (entM size i).f0.toList = nmL i := nm_list _
  rw [h1, toList_eq] at e
  have := congrArg List.length e
  simp [nmL] at this
theorem many_find (size : Int) {n : Nat} (hn : n ≤ 32) : ∀ (d i : Nat), i + d = n → Ev (fun k => loesslaw14_DirMany.l1 k (n : Int) (lisM size n) (lisM size n) (i : Int)) true := by
  intro d
  induction d with
  | zero =>
    intro i h
    refine Ev.step (fun k => by unfold loesslaw14_DirMany.l1; rfl) (Ev.congr (fun k => if_neg (by omega)) ?_)
    refine Ev.bind (evC (show dir_Find.f (lisM size n) (⟨#[102]⟩ : ByteArray) = some (-1) by unfold dir_Find.f; rw [find_f])) (Ev.now _)
  | succ d ih =>
    intro i h
    have hrec := ih (i + 1) (by omega)
    refine Ev.step (fun k => by unfold loesslaw14_DirMany.l1; rfl) (Ev.congr (fun k => if_pos (by omega)) (Ev.congr (fun k => if_pos (by omega)) (Ev.congr (fun k => if_pos (by rw [lisM_len]; omega)) ?_)))
    have e : rd_T32 (lisM size n) (i : Int) = entM size i := ra_lisM size (by omega)
    have hf : dir_Find.f (lisM size n) (nm i) = some (i : Int) := by
      unfold dir_Find.f lisM
      rw [List.range_eq_range']
      exact congrArg some (find_lisM size (show i < 40 by omega) n 0 (Nat.zero_le _) (by omega) (by omega))
    rw [e, w64 (x := (i : Int) + 1) (by omega) (by omega)]
    refine Ev.bind (evC hf) (Ev.congr (fun k => if_pos rfl) ?_)
    exact hrec
theorem many_build {size : Int} (h0 : 0 ≤ size) (h1 : size ≤ 65536) {n : Nat} (hn : n ≤ 40) : ∀ (d i : Nat), i + d = n → Ev (fun k => loesslaw14_DirMany.l0 k (n : Int) size (lisM size i) (i : Int)) true := by
  intro d
  induction d with
  | zero =>
    intro i h
    obtain rfl : i = n := by omega
    refine Ev.step (fun k => by unfold loesslaw14_DirMany.l0; rfl) (Ev.congr (fun k => if_neg (by omega)) ?_)
    have hm := may_lisM h0 h1 hn
    refine Ev.bind (evC (show dir_Encode.f (lisM size i) = some (encO (lisM size i)) from rfl)) ?_
    by_cases c : i ≤ 32
    · rw [decide_eq_true c] at hm
      refine Ev.congr (fun k => if_neg (by omega)) (Ev.bind (evC (decF_enc hm)) (Ev.congr (fun k => if_pos rfl) (Ev.bind (eq_ev _ _ (by rw [lisM_len]; omega)) ?_)))
      rw [show (!decide ((lisM size i) = (lisM size i))) = false by simp]
      refine Ev.step (fun k => by unfold loesslaw14_DirMany.j2; rfl) (Ev.congr (fun k => if_neg (by decide)) ?_)
      exact many_find size c i 0 (by omega)
    · rw [decide_eq_false c] at hm
      refine Ev.congr (fun k => if_pos (by omega)) (Ev.bind (dir_May_ev _ (by rw [lisM_len]; omega)) (Ev.congr (fun k => if_neg (by rw [hm]; decide)) (evC ?_)))
      have : encO (lisM size i) = [] := if_neg (by rw [hm]; decide)
      rw [this]
      rfl
  | succ d ih =>
    intro i h
    have hrec := ih (i + 1) (by omega)
    rw [lisM_succ] at hrec
    have hlt : (i : Int) < (n : Int) := by omega
    have hwi : wrap64 ((i : Int) + 1) = (i : Int) + 1 := w64 (by omega) (by omega)
    have hlen : (lisM size i).length < 3518437208883 := by rw [lisM_len]; omega
    have hw : wrap64 (Int.tdiv (wrap64 (size + 63)) 64) = (size + 63) / 64 := by
      rw [w64 (x := size + 63) (by omega) (by omega), Int.tdiv_eq_ediv_of_nonneg (by omega), w64 (by omega) (by omega)]
    have hd : (wrap64 (48 + (wrap64 (Int.tdiv (i : Int) 10)))) % 256 = ((48 + i / 10 : Nat) : Int) := by
      rw [Int.tdiv_eq_ediv_of_nonneg (by omega), w64 (x := (i : Int) / 10) (by omega) (by omega), w64 (x := 48 + (i : Int) / 10) (by omega) (by omega)]
      omega
    have hr : (wrap64 (48 + (Int.tmod (i : Int) 10))) % 256 = ((48 + i % 10 : Nat) : Int) := by
      rw [Int.tmod_eq_emod_of_nonneg (by omega), w64 (x := 48 + (i : Int) % 10) (by omega) (by omega)]
      omega
    refine Ev.step (fun k => by apply loesslaw14_DirMany.l0.eq_2) (Ev.congr (fun k => if_pos hlt) ?_)
    rw [hw, hd, hr, hwi]
    simp only [Option.bind_some]
    by_cases c : size = 0
    · refine Ev.congr (fun k => if_pos c) (Ev.congr (fun k => if_pos hlen) ?_)
      have e : entM size i = ⟨nm i, size, ⟨0, (size + 63) / 64⟩⟩ := by unfold entM; rw [if_pos c]
      rw [e] at hrec
      exact hrec
    · refine Ev.congr (fun k => if_neg c) (Ev.congr (fun k => if_pos hlen) ?_)
      have e : entM size i = ⟨nm i, size, ⟨(i : Int) + 1, (size + 63) / 64⟩⟩ := by unfold entM; rw [if_neg c]
      rw [e] at hrec
      exact hrec
theorem DirMany : loesslaw14_DirMany.Pure := by
  intro a b ha hb
  have ha := wfI64 ha
  have hb := wfI64 hb
  refine Ev.rounds ?_
  unfold loesslaw14_DirMany.f
  refine dir_then ?_
  have hout : Ev (fun k => loesslaw14_DirMany.j0 k a b true) true := Ev.step (fun k => by unfold loesslaw14_DirMany.j0; rfl) (Ev.congr (fun k => if_pos rfl) (Ev.now _))
  by_cases h1 : a < 0
  · exact Ev.congr (fun k => if_pos h1) hout
  refine Ev.congr (fun k => if_neg h1) ?_
  by_cases h2 : a > 40
  · exact Ev.congr (fun k => if_pos h2) hout
  refine Ev.congr (fun k => if_neg h2) ?_
  by_cases h3 : b < 0
  · exact Ev.congr (fun k => if_pos h3) hout
  refine Ev.congr (fun k => if_neg h3) ?_
  by_cases h4 : b > 65536
  · rw [decide_eq_true h4]; exact hout
  rw [decide_eq_false h4]
  obtain ⟨n, rfl⟩ := Int.eq_ofNat_of_zero_le (show 0 ≤ a by omega)
  refine Ev.step (fun k => by unfold loesslaw14_DirMany.j0; rfl) (Ev.congr (fun k => if_neg (by decide)) ?_)
  exact many_build (by omega) (by omega) (by omega) n 0 (by omega)
end Go.Proofs.Ytoffcgdamcchcaa.Pure
