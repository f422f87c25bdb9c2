/- A value's bytes in plain Lean: what is written of it is read again; what is cut off is not all there. -/
import Derived.Test.YtbeoegdkoodlfaaQValFn
import Derived.Test.YtbeoegdkoodlfaaXVabx13
set_option linter.unusedVariables false
set_option linter.unusedSimpArgs false
namespace Go.Proofs.Ytbeoegdkoodlfaa.Q
open Go.RowKit Go.Proofs.YtbeoegdkoodlfaaW.PrintWords Go.Proofs.YtbeoegdkoodlfaaW.PrintMore Go.Proofs.Ytbeoegdkoodlfaa.G Go.Proofs.Ytbeoegdkoodlfaa.XVab
def putV (a b : Int) (s : ByteArray) : List Int := putN a ++ (if a = 1 then putN b else putT s)
theorem putV_byt (a b : Int) (s : ByteArray) : Byt (putV a b s) := by
  unfold putV
  refine (putN_byt a).append ?_
  split
  · exact putN_byt b
  · exact putT_byt s
theorem putT_len {s : ByteArray} {n : Nat} (h : s.size ≤ n) (hn : n ≤ 4611686018427387904) : (putT s).length ≤ n + 10 := by
  have := putN_len (n := (s.size : Int)) (by unfold I64; omega)
  unfold putT
  rw [List.length_append, bytesOf_length]
  omega
theorem putV_len {a b : Int} {s : ByteArray} (ha : I64 a) (hb : I64 b) {n : Nat} (h : s.size ≤ n) (hn : n ≤ 4611686018427387904) : (putV a b s).length ≤ n + 20 := by
  have h1 := putN_len ha
  have h2 := putN_len hb
  have h3 := putT_len h hn
  unfold putV
  rw [List.length_append]
  split <;> omega
theorem value_Put_ev {a b : Int} {s : ByteArray} (ha : I64 a) (hb : I64 b) (h : s.size ≤ 17592186044416) (l : List Int) (hl : l.length + 10 ≤ 35184372088832) : Ev (fun k => value_Put.f k l a b s) (l ++ putV a b s) := by
  have h1 := putN_len ha
  unfold value_Put.f putV
  refine Ev.bind (num_Put_ev ha l (by omega)) ?_
  by_cases e : a = 1
  · refine Ev.congr (fun k => if_pos e) ?_
    rw [if_pos e, ← List.append_assoc]
    exact Ev.bind (num_Put_ev hb (l ++ putN a) (by rw [List.length_append]; omega)) (Ev.now _)
  · refine Ev.congr (fun k => if_neg e) ?_
    rw [if_neg e, ← List.append_assoc]
    exact Ev.bind (num_PutText_ev (s := s) (by omega) (l ++ putN a) (by rw [List.length_append]; omega)) (Ev.now _)
theorem mayV_i64 {a b : Int} {s : ByteArray} (h : mayV a b s = true) : I64 a := by
  unfold I64
  rcases mayV_a h with h1 | h1 <;> omega
theorem getV_put {a b : Int} {s : ByteArray} (h : mayV a b s = true) (hb : I64 b) (rest : List Int) : getV (putV a b s ++ rest) = (a, b, s, ((putV a b s).length : Int), 0) := by
  have hi := mayV_i64 h
  unfold getV
  have e0 : getN (putV a b s ++ rest) = (a, ((putN a).length : Int), 0) := by
    unfold putV; rw [List.append_assoc]; exact getN_put hi _
  have e1 : (putV a b s ++ rest).drop ((putN a).length : Int).toNat = (if a = 1 then putN b else putT s) ++ rest := by
    unfold putV; rw [List.append_assoc, Int.toNat_natCast]; exact List.drop_left
  simp only [e0, e1, if_true]
  rcases mayV_cases h with ⟨h1, h2⟩ | ⟨h1, h2, h3, h4⟩
  · rw [if_pos h1]
    have e2 : getN ((if a = 1 then putN b else putT s) ++ rest) = (b, ((putN b).length : Int), 0) := by rw [if_pos h1]; exact getN_put hb _
    simp only [e2, if_true]
    unfold putV
    rw [if_pos h1, List.length_append, h1, h2]
    simp
  · subst h1; subst h2
    rw [if_neg (show ¬ ((2 : Int) = 1) by decide), if_pos rfl]
    have e2 : getT ((if (2 : Int) = 1 then putN 0 else putT s) ++ rest) = (s, ((putT s).length : Int), 0) := by rw [if_neg (show ¬ ((2 : Int) = 1) by decide)]; exact getT_put (by omega) _
    simp only [e2, if_true]
    unfold putV
    rw [if_pos h, if_neg (show ¬ ((2 : Int) = 1) by decide), List.length_append]
    simp
theorem getV_cut {a b : Int} {s : ByteArray} (h : mayV a b s = true) (hb : I64 b) {m : Nat} (hm : m < (putV a b s).length) : getV ((putV a b s).take m) = (0, 0, ⟨#[]⟩, 0, 2) := by
  have hi := mayV_i64 h
  unfold getV
  by_cases hc : m < (putN a).length
  · have e0 : getN ((putV a b s).take m) = (0, 0, 2) := by
      unfold putV; rw [List.take_append_of_le_length (by omega)]; exact getN_cut hi hc
    simp only [e0]
    rw [if_neg (by decide)]
  · have e3 : (putV a b s).take m = putN a ++ (if a = 1 then putN b else putT s).take (m - (putN a).length) := by
      unfold putV; rw [List.take_append, List.take_of_length_le (by omega)]
    have e0 : getN ((putV a b s).take m) = (a, ((putN a).length : Int), 0) := by rw [e3]; exact getN_put hi _
    have e1 : ((putV a b s).take m).drop ((putN a).length : Int).toNat = (if a = 1 then putN b else putT s).take (m - (putN a).length) := by
      rw [e3, Int.toNat_natCast]; exact List.drop_left
    simp only [e0, e1, if_true]
    unfold putV at hm
    rw [List.length_append] at hm
    rcases mayV_cases h with ⟨h1, h2⟩ | ⟨h1, h2, h3, h4⟩
    · rw [if_pos h1] at hm ⊢
      have e2 : getN ((if a = 1 then putN b else putT s).take (m - (putN a).length)) = (0, 0, 2) := by rw [if_pos h1]; exact getN_cut hb (by omega)
      simp only [e2]
      rw [if_neg (by decide)]
    · subst h1; subst h2
      rw [if_neg (show ¬ ((2 : Int) = 1) by decide)] at hm
      rw [if_neg (show ¬ ((2 : Int) = 1) by decide), if_pos rfl]
      have e2 : getT ((if (2 : Int) = 1 then putN 0 else putT s).take (m - (putN 2).length)) = (⟨#[]⟩, 0, 2) := by rw [if_neg (show ¬ ((2 : Int) = 1) by decide)]; exact getT_cut (by omega) (by omega)
      simp only [e2]
      rw [if_neg (by decide)]
end Go.Proofs.Ytbeoegdkoodlfaa.Q
