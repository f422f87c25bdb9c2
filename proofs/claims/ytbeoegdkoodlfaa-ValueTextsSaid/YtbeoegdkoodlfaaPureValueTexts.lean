/- The law ValueTexts' pure statement, with no condition of its own: a text has at most twenty-four bytes, each of its runes whole. -/
import Derived.Test.YtbeoegdkoodlfaaQValFn
import Derived.Test.YtbeoegdkoodlfaaQRunesEnc
import Derived.Test.YtbeoegdkoodlfaaXVatx8
set_option linter.unusedVariables false
set_option linter.unusedSimpArgs false
namespace Go.Proofs.Ytbeoegdkoodlfaa.Pure
open Go.RowKit Go.Proofs.YtbeoegdkoodlfaaW.PrintWords Go.Proofs.YtbeoegdkoodlfaaW.PrintMore Go.Proofs.Ytbeoegdkoodlfaa.G Go.Proofs.Ytbeoegdkoodlfaa.XVat Go.Proofs.Ytbeoegdkoodlfaa.Q
theorem ds_xs (n : Nat) : (ds (List.replicate n 120)).all (·.2.2) = true := by
  have h : encAll (List.replicate n (120 : Int)) = List.replicate n 120 := by
    induction n with
    | zero => rfl
    | succ n ih => rw [List.replicate_succ, encAll, List.flatMap_cons]; unfold encAll at ih; rw [ih]; rfl
  have hv : Vrs (List.replicate n (120 : Int)) := fun x hx => by
    rw [List.eq_of_mem_replicate hx]
    exact ⟨by decide, .inl (by decide)⟩
  rw [← h, ds_encAll _ hv]
  simp
theorem xs_byt (n : Nat) : Byt (List.replicate n 120) := fun x hx => by rw [List.eq_of_mem_replicate hx]; decide
theorem texts_end (s : ByteArray) (hs : s.size ≤ 30) (n : Nat) (hn : n ≤ 40) : Ev (fun k => (value_Of.f k 2 0 (strOfNums (List.replicate n 120) ++ s)).bind fun bt180 => (if ((strOfNums (List.replicate n 120) ++ s).size : Int) ≤ 24 then ((loessref1_Valid.f k s).bind fun t183 => (some ((bt180.2 == 0) == t183))) else (some ((bt180.2 == 0) == false)))) true := by
  have hz : (strOfNums (List.replicate n (120 : Int)) ++ s).size = n + s.size := by
    rw [size_of_bytes, bytesOf_append, List.length_append, bytesOf_str (xs_byt n), List.length_replicate, bytesOf_length]
  have hv : vld (strOfNums (List.replicate n (120 : Int)) ++ s) = vld s := by
    unfold vld D
    rw [bytesOf_append, bytesOf_str (xs_byt n), ds_append _ _ _ (Nat.le_refl _) (ds_xs n), List.all_append, ds_xs n, Bool.true_and]
  refine Ev.bind (value_Of_ev 2 0 (by omega)) ?_
  unfold ofV
  rw [if_neg (by omega), hv, hz]
  by_cases h : n + s.size ≤ 24
  · refine Ev.congr (fun k => if_pos (by omega)) (Ev.bind (refValid_ev (s := s) (by omega)) (evC ?_))
    by_cases h2 : vld s = true
    · rw [if_pos ⟨rfl, rfl, h, h2⟩]
      have : (ds (bytesOf s)).all (·.2.2) = true := h2
      rw [this]
      rfl
    · rw [if_neg (fun h3 => h2 h3.2.2.2)]
      have : (ds (bytesOf s)).all (·.2.2) = false := Bool.eq_false_iff.2 h2
      rw [this]
      rfl
  · refine Ev.congr (fun k => if_neg (by omega)) (evC ?_)
    rw [if_neg (fun h3 => h h3.2.2.1)]
    rfl
theorem texts_l (s : ByteArray) (hs : s.size ≤ 30) (n : Nat) (hn : n ≤ 40) : ∀ (d i : Nat), i + d = n → Ev (fun k => loesslaw4_ValueTexts.l0 k s (List.replicate i 120 ++ List.replicate d 0) (n : Int) (i : Int)) true := by
  intro d
  induction d with
  | zero =>
    intro i hi
    obtain rfl : i = n := by omega
    have hz : (strOfNums (List.replicate i (120 : Int))).size = i := by rw [strOfNums_size, List.length_replicate]
    refine Ev.step (fun k => ?_) (texts_end s hs i hn)
    simp only [loesslaw4_ValueTexts.l0, List.replicate_zero, List.append_nil]
    rw [if_neg (by omega), if_pos (by rw [hz]; omega)]
  | succ d ih =>
    intro i hi
    have hrec := ih (i + 1) (by omega)
    refine Ev.step (fun k => ?_) hrec
    simp only [loesslaw4_ValueTexts.l0]
    have hset : (List.replicate i (120 : Int) ++ List.replicate (d + 1) 0).set ((i : Int)).toNat 120 = List.replicate (i + 1) 120 ++ List.replicate d 0 := by
      rw [Int.toNat_natCast, List.set_append_right _ _ (by simp), List.length_replicate, Nat.sub_self, List.replicate_succ (n := d), List.set_cons_zero, List.replicate_succ' (n := i), List.append_assoc]
      rfl
    rw [if_pos (by omega), if_pos (by omega), if_pos (by simp; omega), hset, w64 (by omega) (by omega)]
    rfl
theorem ValueTexts : loesslaw4_ValueTexts.Pure := by
  intro a n ha hn
  obtain ⟨s, hs, hs1, hs2⟩ := cut3_eq a 30
  refine Ev.rounds ?_
  unfold loesslaw4_ValueTexts.f
  refine val_then ?_
  rw [show ((30 : Int)) = ((30 : Nat) : Int) from rfl, hs]
  simp only [Option.bind_some]
  have hout : Ev (fun k => loesslaw4_ValueTexts.j0 k s n true) true := by
    refine Ev.step (f := fun _ => some true) (fun k => ?_) (Ev.now _)
    simp only [loesslaw4_ValueTexts.j0]
    rw [if_pos trivial]
  by_cases h1 : n < 0
  · exact Ev.congr (fun k => if_pos h1) hout
  · refine Ev.congr (fun k => if_neg h1) ?_
    by_cases h2 : n > 40
    · rw [decide_eq_true h2]
      exact hout
    · rw [decide_eq_false h2]
      obtain ⟨m, rfl⟩ := Int.eq_ofNat_of_zero_le (show 0 ≤ n by omega)
      have hl := texts_l s hs1 m (by omega) m 0 (by omega)
      refine Ev.step (fun k => ?_) hl
      simp only [loesslaw4_ValueTexts.j0, Option.bind_some]
      rw [if_neg (by simp), if_pos (by omega), if_pos (by omega), Int.toNat_natCast, List.length_replicate, List.replicate_zero, List.nil_append]
      rfl
end Go.Proofs.Ytbeoegdkoodlfaa.Pure
