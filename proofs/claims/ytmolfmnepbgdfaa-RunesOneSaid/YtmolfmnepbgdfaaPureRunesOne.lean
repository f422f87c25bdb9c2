/- The law RunesOne's pure statement, with no condition of its own: each rune that can be written is one rune, and itself again. -/
import Derived.Test.YtmolfmnepbgdfaaQRunBegun
import Derived.Test.YtmolfmnepbgdfaaQRunesEnc
import Derived.Test.YtmolfmnepbgdfaaXRunx11
set_option linter.unusedVariables false
set_option linter.unusedSimpArgs false
namespace Go.Proofs.Ytmolfmnepbgdfaa.Pure
open Go.RowKit Go.Proofs.YtmolfmnepbgdfaaW.PrintWords Go.Proofs.YtmolfmnepbgdfaaW.PrintMore Go.Proofs.Ytmolfmnepbgdfaa.G Go.Proofs.Ytmolfmnepbgdfaa.XRun Go.Proofs.Ytmolfmnepbgdfaa.Q
def rep (n : Nat) (c : Nat) : List Int := encAll (List.replicate n (c : Int))
theorem rep_succ (n c : Nat) : rep (n + 1) c = rep n c ++ encL c := by
  unfold rep encAll
  rw [List.replicate_succ']
  simp
theorem rep_vrs (n c : Nat) (h : Vc c) : Vrs (List.replicate n (c : Int)) := by
  intro x hx
  rw [(List.mem_replicate.1 hx).2]
  exact ⟨by omega, by rw [Int.toNat_natCast]; exact h⟩
theorem D_rep {s : ByteArray} {n c : Nat} (h : Vc c) (hs : bytesOf s = rep n c) : D s = List.replicate n ((c : Int), (encL c).length, true) := by
  unfold D
  rw [hs]
  unfold rep
  rw [ds_encAll _ (rep_vrs n c h), List.map_replicate, Int.toNat_natCast]
theorem wd_rep (n : Nat) (x : Int) (w : Nat) (b : Bool) : wd (List.replicate n (x, w, b)) = n * w := by
  induction n with
  | zero => simp [wd]
  | succ n ih => simp only [wd, List.replicate_succ, List.map_cons, List.sum_cons] at ih ⊢; rw [ih, Nat.succ_mul]; omega
theorem one_end (n : Nat) (one s : ByteArray) (c : Nat) (hn : n ≤ 10) (h : Vc c) (h1 : bytesOf one = encL c) (hs : bytesOf s = rep n c) : ∀ (d i : Nat), i + d = n →
    Ev (fun k => loesslaw3_RunesOne.l1 k (n : Int) one s (c : Int) (List.replicate n (c : Int)) (i : Int)) true := by
  have hD := D_rep h hs
  have hw := encL_len c
  have hsz : s.size ≤ 40 := by
    have := D_wd s
    rw [hD, wd_rep] at this
    have := Nat.mul_le_mul hn hw.2
    omega
  have hone : (one.size : Int) = ((encL c).length : Int) := by rw [size_of_bytes, h1]
  intro d
  induction d with
  | zero =>
    intro i hi
    refine Ev.step (f := fun _ => some true) (fun k => ?_) (Ev.now _)
    simp only [loesslaw3_RunesOne.l1]
    rw [if_neg (by omega)]
  | succ d ih =>
    intro i hi
    refine Ev.step (fun k => ?_) (ih (i + 1) (by omega))
    have hi2 : i < (D s).length := by rw [hD, List.length_replicate]; omega
    have hat := rAt (s := s) (by omega) (i : Int)
    rw [dif_pos ⟨by omega, by rw [Int.toNat_natCast]; exact hi2⟩] at hat
    have e1 : ((D s)[((i : Int)).toNat]'(by rw [Int.toNat_natCast]; exact hi2)).1 = (c : Int) := by
      simp only [hD, List.getElem_replicate]
    have e2 : wd ((D s).take ((i : Int)).toNat) = i * (encL c).length := by
      rw [hD, Int.toNat_natCast, List.take_replicate, wd_rep, Nat.min_eq_left (by omega)]
    rw [e1, e2] at hat
    have e3 : rd (List.replicate n (c : Int)) (i : Int) = (c : Int) := by simp [rd, List.getD_eq_getElem?_getD, show i < n by omega]
    have hle : i * (encL c).length ≤ 40 := Nat.le_trans (Nat.mul_le_mul (show i ≤ 10 by omega) hw.2) (by decide)
    simp only [loesslaw3_RunesOne.l1]
    rw [if_pos (by omega), hat, Option.bind_some, if_pos (by omega), if_pos (by rw [List.length_replicate]; omega), e3, if_pos rfl, if_pos rfl, hone, ← Int.natCast_mul, w64 (by omega) (by omega), if_pos rfl, if_pos rfl, w64 (by omega) (by omega)]
    rfl
theorem one_l (r : Int) (n : Nat) (hn : 1 ≤ n ∧ n ≤ 10) (hr : -2147483648 ≤ r ∧ r < 2147483648) : ∀ (d i : Nat) (s : ByteArray), i + d = n → bytesOf s = rep i (vrune r) →
    Ev (fun k => loesslaw3_RunesOne.l0 k r (n : Int) (Utf8.encode r) s (i : Int)) true := by
  have hv := vrune_ok r
  have hw := encL_len (vrune r)
  have h1 := enc_eq r
  have hsz1 : (Utf8.encode r).size ≤ 4 := by rw [size_of_bytes, h1]; exact hw.2
  intro d
  induction d with
  | zero =>
    intro i s hi hs
    obtain rfl : i = n := by omega
    have hD := D_rep hv hs
    have hsz : s.size ≤ 40 := by
      have := D_wd s
      rw [hD, wd_rep] at this
      have := Nat.mul_le_mul hn.2 hw.2
      omega
    have hend := one_end i (Utf8.encode r) s (vrune r) hn.2 hv h1 hs i 0 (by omega)
    have hvl : vld s = true := by unfold vld; rw [hD]; simp
    have hj3 : Ev (fun k => loesslaw3_RunesOne.j3 k (i : Int) (Utf8.encode r) s (vrune r : Int)) true := by
      refine Ev.step (f := fun k => loesslaw3_RunesOne.j4 k (i : Int) (Utf8.encode r) s (vrune r : Int) (List.replicate i (vrune r : Int)) false) (fun k => ?_) (Ev.step (fun k => ?_) hend)
      · simp only [loesslaw3_RunesOne.j3]
        rw [rOf (s := s) (by omega), Option.bind_some, hD, List.map_replicate, if_pos (by rw [List.length_replicate]), rValid (s := s) (by omega), Option.bind_some, hvl]
        rfl
      · simp only [loesslaw3_RunesOne.j4]
        rw [if_neg (by simp)]
        rfl
    have hj2 : ∀ b : Bool, (b = true ↔ Utf8.valid r = false) → Ev (fun k => loesslaw3_RunesOne.j2 k (i : Int) (Utf8.encode r) s r b) true := by
      intro b hb
      refine Ev.step (fun k => ?_) hj3
      simp only [loesslaw3_RunesOne.j2]
      by_cases h : Utf8.valid r = true
      · have hvi := (valid_iff r).1 h
        rw [if_neg (fun hh => by rw [hb.1 hh] at h; cases h), vrune_of hvi]
        congr 1
        omega
      · rw [if_pos (hb.2 (by simpa using h))]
        unfold vrune
        rw [if_neg h]
        rfl
    have hval : Utf8.valid r = false ↔ (r < 0 ∨ r > 1114111 ∨ (r ≥ 55296 ∧ r < 57344)) := by
      have := valid_iff r
      unfold Vc at this
      constructor
      · intro h
        rw [h] at this
        simp only [Bool.false_eq_true, false_iff] at this
        omega
      · intro h
        cases hh : Utf8.valid r
        · rfl
        · have := this.1 hh
          omega
    refine Ev.step (f := fun k => loesslaw3_RunesOne.j2 k (i : Int) (Utf8.encode r) s r (decide (r < 0 ∨ r > 1114111 ∨ (r ≥ 55296 ∧ r < 57344)))) (fun k => ?_) (hj2 _ (by rw [hval]; simp))
    simp only [loesslaw3_RunesOne.l0]
    rw [if_neg (by omega)]
    by_cases h1 : r < 0
    · rw [if_pos h1]; congr 1; simp [h1]
    · rw [if_neg h1]
      by_cases h2 : r > 1114111
      · rw [if_pos h2]; congr 1; simp [h2]
      · rw [if_neg h2]
        by_cases h3 : r ≥ 55296
        · rw [if_pos h3]; congr 1; simp [h1, h2, h3]
        · rw [if_neg h3]; congr 1; simp [h1, h2, h3]
  | succ d ih =>
    intro i s hi hs
    have hD := D_rep hv hs
    have hsz : s.size ≤ 40 := by
      have := D_wd s
      rw [hD, wd_rep] at this
      have := Nat.mul_le_mul (show i ≤ 10 by omega) hw.2
      omega
    refine Ev.step (fun k => ?_) (ih (i + 1) (s ++ Utf8.encode r) (by omega) (by rw [bytesOf_append, hs, h1, rep_succ]))
    simp only [loesslaw3_RunesOne.l0]
    rw [if_pos (by omega), if_pos (by omega), w64 (by omega) (by omega)]
    rfl
theorem RunesOne : loesslaw3_RunesOne.Pure := by
  intro r n hr hn
  have hr' := wfI32 hr
  have hn' := wfI64 hn
  refine Ev.rounds ?_
  unfold loesslaw3_RunesOne.f
  simp only [run_begun, Option.bind_some, if_true]
  have hj : ∀ k, (if n < 1 then loesslaw3_RunesOne.j0 k r n true else loesslaw3_RunesOne.j0 k r n (decide (n > 10))) = loesslaw3_RunesOne.j0 k r n (decide (n < 1 ∨ n > 10)) := by
    intro k
    by_cases h : n < 1
    · rw [if_pos h]; congr 1; simp [h]
    · rw [if_neg h]; congr 1; simp [h]
  refine Ev.congr hj ?_
  by_cases h : n < 1 ∨ n > 10
  · refine Ev.step (f := fun _ => some true) (fun k => ?_) (Ev.now _)
    simp only [loesslaw3_RunesOne.j0]
    rw [if_pos (by simp [h])]
  · obtain ⟨m, rfl⟩ := Int.eq_ofNat_of_zero_le (show 0 ≤ n by omega)
    refine Ev.step (fun k => ?_) (one_l r m (by omega) hr' m 0 ⟨#[]⟩ (by omega) rfl)
    simp only [loesslaw3_RunesOne.j0]
    rw [if_neg (by simpa using h)]
    rfl
end Go.Proofs.Ytmolfmnepbgdfaa.Pure
