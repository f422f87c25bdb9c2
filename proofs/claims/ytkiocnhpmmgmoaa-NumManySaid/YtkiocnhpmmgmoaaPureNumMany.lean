/- The law NumMany's pure statement, with no condition of its own: numbers one behind the other are told one by one. -/
import Derived.Test.YtkiocnhpmmgmoaaQNumBegun
import Derived.Test.YtkiocnhpmmgmoaaXNumx15
set_option linter.unusedVariables false
set_option linter.unusedSimpArgs false
namespace Go.Proofs.Ytkiocnhpmmgmoaa.Pure
open Go.RowKit Go.Proofs.YtkiocnhpmmgmoaaW.PrintWords Go.Proofs.YtkiocnhpmmgmoaaW.PrintMore Go.Proofs.Ytkiocnhpmmgmoaa.XNum Go.Proofs.Ytkiocnhpmmgmoaa.Q
def putAll (l : List Int) : List Int := l.flatMap putN
theorem putAll_len : ∀ {l : List Int}, (∀ x ∈ l, I64 x) → (putAll l).length ≤ 10 * l.length := by
  intro l
  induction l with
  | nil => intro _; simp [putAll]
  | cons x r ih =>
    intro h
    have h1 := putN_len (h x List.mem_cons_self)
    have h2 := ih (fun y hy => h y (List.mem_cons_of_mem _ hy))
    simp only [putAll, List.flatMap_cons, List.length_append, List.length_cons] at h2 ⊢
    omega
theorem putAll_byt : ∀ l : List Int, Byt (putAll l) := by
  intro l
  induction l with
  | nil => exact Byt.nil
  | cons x r ih => exact (putN_byt x).append ih
theorem many_get (l : List Int) (hl : l.length ≤ 40) (hx : ∀ x ∈ l, I64 x) : ∀ (r pre : List Int), l = pre ++ r → Ev (fun k => loesslaw1_NumMany.l1 k l (putAll r) (pre.length : Int)) true := by
  intro r
  induction r with
  | nil =>
    intro pre e
    refine Ev.step (f := fun _ => some true) (fun k => ?_) (Ev.now _)
    simp only [loesslaw1_NumMany.l1]
    rw [if_neg (by rw [e]; simp)]
    rfl
  | cons x r ih =>
    intro pre e
    have hxi : I64 x := hx x (by rw [e]; simp)
    have hlen : l.length = pre.length + r.length + 1 := by rw [e]; simp; omega
    have hr := putAll_len (l := r) (fun y hy => hx y (by rw [e]; simp [hy]))
    have hpl := putN_len hxi
    have g := num_Get_ev (l := putN x ++ putAll r) ((putN_byt x).append (putAll_byt r)) (by simp only [List.length_append]; omega)
    rw [getN_put hxi] at g
    have hrec := ih (pre ++ [x]) (by rw [e]; simp)
    refine Ev.step (f := fun k => (num_Get.f k (putN x ++ putAll r)).bind fun b => if b.2.2 = 0 then (if b.1 = x then (if 0 ≤ b.2.1 then (if b.2.1 ≤ ((putN x ++ putAll r).length : Int) then loesslaw1_NumMany.l1 k l ((putN x ++ putAll r).drop b.2.1.toNat) (pre.length + 1 : Int) else none) else none) else some false) else some false) (fun k => ?_) ?_
    · simp only [loesslaw1_NumMany.l1]
      rw [if_pos (by omega)]
      have e1 : rd l (pre.length : Int) = x := by rw [e]; exact rd_append pre r x
      have e2 : wrap64 ((pre.length : Int) + 1) = pre.length + 1 := w64 (by omega) (by omega)
      show (num_Get.f k (putN x ++ putAll r)).bind _ = _
      congr 1
      funext b
      rw [e1, e2, if_pos (show (0 : Int) ≤ (pre.length : Int) by omega)]
      rfl
    · refine Ev.bind g ?_
      simp only [if_true]
      refine Ev.congr (fun k => if_pos (by omega)) (Ev.congr (fun k => if_pos (by simp only [List.length_append]; omega)) ?_)
      rw [Int.toNat_natCast, List.drop_left]
      simp only [List.length_append, List.length_cons, List.length_nil, Int.natCast_add, Nat.zero_add, Int.natCast_one] at hrec
      exact hrec
theorem many_put (l : List Int) (hl : l.length ≤ 40) (hx : ∀ x ∈ l, I64 x) : ∀ (r pre : List Int), l = pre ++ r → Ev (fun k => loesslaw1_NumMany.l0 k l (putAll pre) (pre.length : Int)) true := by
  intro r
  induction r with
  | nil =>
    intro pre e
    have h := many_get l hl hx l [] (by simp)
    refine Ev.step (fun k => ?_) h
    simp only [loesslaw1_NumMany.l0]
    rw [if_neg (by rw [e]; simp), e, List.append_nil]
    rfl
  | cons x r ih =>
    intro pre e
    have hxi : I64 x := hx x (by rw [e]; simp)
    have hlen : l.length = pre.length + r.length + 1 := by rw [e]; simp; omega
    have hr := putAll_len (l := pre) (fun y hy => hx y (by rw [e]; simp [hy]))
    have hrec := ih (pre ++ [x]) (by rw [e]; simp)
    have e3 : putAll (pre ++ [x]) = putAll pre ++ putN x := by simp [putAll]
    rw [e3] at hrec
    refine Ev.step (f := fun k => (num_Put.f k (putAll pre) x).bind fun t => loesslaw1_NumMany.l0 k l t (pre.length + 1 : Int)) (fun k => ?_) ?_
    · simp only [loesslaw1_NumMany.l0]
      have e1 : rd l (pre.length : Int) = x := by rw [e]; exact rd_append pre r x
      rw [if_pos (by omega), if_pos (by omega), e1, w64 (by omega) (by omega)]
    · refine Ev.bind (num_Put_ev hxi (putAll pre) (by omega)) ?_
      simp only [List.length_append, List.length_cons, List.length_nil, Int.natCast_add, Nat.zero_add, Int.natCast_one] at hrec
      exact hrec
theorem same_l1 (k : Nat) : ∀ a b c, loesslaw1_NumMany.l503 k a b c = loesslaw1_NumMany.l1 k a b c := by
  induction k with
  | zero => intro a b c; rfl
  | succ k ih => intro a b c; simp only [loesslaw1_NumMany.l503, loesslaw1_NumMany.l1, ih]
theorem same_l0 (k : Nat) : ∀ a b c, loesslaw1_NumMany.l502 k a b c = loesslaw1_NumMany.l0 k a b c := by
  induction k with
  | zero => intro a b c; rfl
  | succ k ih => intro a b c; simp only [loesslaw1_NumMany.l502, loesslaw1_NumMany.l0, ih, same_l1]
theorem NumMany : loesslaw1_NumMany.Pure := by
  intro l hm hl hw
  have hx : ∀ x ∈ l, I64 x := fun x h => wfI64 (hw x h)
  refine Ev.rounds ?_
  unfold loesslaw1_NumMany.f
  refine begun_then ?_
  by_cases h : (l.length : Int) > 40
  · refine Ev.congr (fun k => if_pos h) (Ev.congr (fun k => if_pos (by omega)) ?_)
    have := many_put (l.take 40) (by simp only [List.length_take]; omega) (fun x hh => hx x (List.mem_of_mem_take hh)) (l.take 40) [] (by simp)
    exact this
  · refine Ev.congr (fun k => if_neg h) ?_
    have := many_put l (by omega) hx l [] (by simp)
    exact Ev.congr (fun k => same_l0 k _ _ _) this
end Go.Proofs.Ytkiocnhpmmgmoaa.Pure
