/- Values in plain Lean: the printed functions of package value and of its reference. -/
import Derived.Test.YtbeoegdkoodlfaaQRunesFn
import Derived.Test.YtbeoegdkoodlfaaQRunesRef
import Derived.Test.YtbeoegdkoodlfaaQNumFn
import Derived.Test.YtbeoegdkoodlfaaGValue
import Derived.KernelRfl
import Derived.Test.YtbeoegdkoodlfaaXVabx2
import Derived.Test.YtbeoegdkoodlfaaXVabx3
import Derived.Test.YtbeoegdkoodlfaaXVabx4
import Derived.Test.YtbeoegdkoodlfaaXVabx11
import Derived.Test.YtbeoegdkoodlfaaXVabx13
import Derived.Test.YtbeoegdkoodlfaaXVabx7
import Derived.Test.YtbeoegdkoodlfaaXVabx14
import Derived.Test.YtbeoegdkoodlfaaXVabx5
set_option linter.unusedVariables false
set_option linter.unusedSimpArgs false
namespace Go.Proofs.Ytbeoegdkoodlfaa.Q
open Go.RowKit Go.Proofs.YtbeoegdkoodlfaaW.PrintWords Go.Proofs.YtbeoegdkoodlfaaW.PrintMore Go.Proofs.Ytbeoegdkoodlfaa.G Go.Proofs.Ytbeoegdkoodlfaa.XVab
theorem nil_iff (s : ByteArray) : s.toList = ([] : List UInt8) ↔ s.size = 0 := by
  rw [toList_eq]
  have := data_length s
  constructor
  · intro e
    rw [e] at this
    simpa using this.symm
  · intro h
    exact List.eq_nil_of_length_eq_zero (by omega)
theorem size0 {s : ByteArray} (h : s.size = 0) : s = ⟨#[]⟩ := by
  apply bytesOf_inj
  rw [bytes_empty]
  apply List.eq_nil_of_length_eq_zero
  rw [bytesOf_length, h]
/-- May a raw value be one; what it is then. -/
def mayV (a b : Int) (s : ByteArray) : Bool := decide ((a = 1 ∧ s.size = 0) ∨ (a = 2 ∧ b = 0 ∧ s.size ≤ 24 ∧ vld s = true))
def ofV (a b : Int) (s : ByteArray) : VX × Int := if a = 1 ∧ s.size = 0 then (VX.num b, 0) else if a = 2 ∧ b = 0 ∧ s.size ≤ 24 ∧ vld s = true then (VX.txt s, 0) else (VX.none, 1)
theorem mayV_cases {a b : Int} {s : ByteArray} (h : mayV a b s = true) : (a = 1 ∧ s = ⟨#[]⟩) ∨ (a = 2 ∧ b = 0 ∧ s.size ≤ 24 ∧ vld s = true) := by
  rcases of_decide_eq_true h with ⟨h1, h2⟩ | h1
  · exact .inl ⟨h1, size0 h2⟩
  · exact .inr h1
theorem mayV_size {a b : Int} {s : ByteArray} (h : mayV a b s = true) : s.size ≤ 24 := by
  rcases mayV_cases h with ⟨h1, h2⟩ | h1
  · rw [h2]; decide
  · exact h1.2.2.1
theorem mayV_a {a b : Int} {s : ByteArray} (h : mayV a b s = true) : a = 1 ∨ a = 2 := by
  rcases mayV_cases h with h1 | h1
  · exact .inl h1.1
  · exact .inr h1.1
theorem ofV_j (a b : Int) (s : ByteArray) (hs : s.size < 35184372088832) (x : Bool) : Ev (fun k => value_Of.j0 k x a b s) (if x = true then (VX.num b, 0) else if a = 2 ∧ b = 0 ∧ s.size ≤ 24 ∧ vld s = true then (VX.txt s, 0) else (VX.none, 1)) := by
  refine Ev.step (f := fun _ => some (if x = true then (VX.num b, 0) else if a = 2 ∧ b = 0 ∧ s.size ≤ 24 ∧ vld s = true then (VX.txt s, 0) else (VX.none, 1))) (fun k => ?_) (Ev.now _)
  simp only [value_Of.j0, rValid hs, Option.bind_some]
  by_cases hx : x = true
  · rw [if_pos hx, if_pos hx]
  · rw [if_neg hx, if_neg hx]
    by_cases h1 : a = 2
    · rw [if_pos h1]
      by_cases h2 : b = 0
      · rw [if_pos h2]
        by_cases h3 : (s.size : Int) ≤ 24
        · rw [if_pos h3]
          by_cases h4 : vld s = true
          · rw [if_pos h4, if_pos ⟨h1, h2, by omega, h4⟩]
          · rw [if_neg h4, if_neg (fun h => h4 h.2.2.2)]
        · rw [if_neg h3, if_neg (fun h => h3 (by omega))]
      · rw [if_neg h2, if_neg (fun h => h2 h.2.1)]
    · rw [if_neg h1, if_neg (fun h => h1 h.1)]
theorem value_Of_ev (a b : Int) {s : ByteArray} (hs : s.size < 35184372088832) : Ev (fun k => value_Of.f k a b s) (ofV a b s) := by
  unfold value_Of.f ofV
  by_cases h1 : a = 1
  · refine Ev.congr (fun k => if_pos h1) (evEq (ofV_j a b s hs _) ?_)
    by_cases h2 : s.size = 0
    · have := (nil_iff s).2 h2
      rw [if_pos (by rw [this]; rfl), if_pos ⟨h1, h2⟩]
    · have : ¬ s.toList = ([] : List UInt8) := fun h => h2 ((nil_iff s).1 h)
      rw [if_neg (by simpa using this), if_neg (show ¬ (a = 1 ∧ s.size = 0) from fun h => h2 h.2)]
  · refine Ev.congr (fun k => if_neg h1) (evEq (ofV_j a b s hs _) ?_)
    rw [if_neg (show ¬ (a = 1 ∧ s.size = 0) from fun h => h1 h.1)]
    rfl
theorem ofV_two {a : Int} (ha : a = 2) (s : ByteArray) : ofV a 0 s = if mayV 2 0 s = true then (VX.txt s, 0) else (VX.none, 1) := by
  subst ha
  unfold ofV mayV
  rw [if_neg (show ¬ ((2 : Int) = 1 ∧ s.size = 0) from fun h => by cases h.1)]
  by_cases h : s.size ≤ 24 ∧ vld s = true
  · rw [if_pos ⟨rfl, rfl, h.1, h.2⟩, if_pos (decide_eq_true (.inr ⟨rfl, rfl, h.1, h.2⟩))]
  · rw [if_neg (show ¬ ((2 : Int) = 2 ∧ (0 : Int) = 0 ∧ s.size ≤ 24 ∧ vld s = true) from fun h2 => h ⟨h2.2.2.1, h2.2.2.2⟩), decide_eq_false (fun h2 => h2.elim (fun h3 => by cases h3.1) (fun h3 => h ⟨h3.2.2.1, h3.2.2.2⟩))]
    rfl
theorem may_ev (a b : Int) {s : ByteArray} (hs : s.size < 17592186044416) : Ev (fun k => loessref1_MayVal.f k a b s) (mayV a b s) := by
  unfold loessref1_MayVal.f mayV
  by_cases h1 : a = 1
  · refine Ev.congr (fun k => if_pos h1) (evC ?_)
    congr 1
    by_cases h2 : s.size = 0
    · have := (nil_iff s).2 h2
      rw [this]
      simp [h1, h2]
    · have : ¬ s.toList = ([] : List UInt8) := fun h => h2 ((nil_iff s).1 h)
      rw [decide_eq_false (by omega)]
      simpa using this
  · refine Ev.congr (fun k => if_neg h1) ?_
    by_cases h2 : a = 2
    · refine Ev.congr (fun k => if_pos h2) ?_
      by_cases h3 : b = 0
      · refine Ev.congr (fun k => if_pos h3) ?_
        by_cases h4 : (s.size : Int) ≤ 24
        · refine Ev.congr (fun k => if_pos h4) (Ev.bind (refValid_ev hs) (evC ?_))
          have h5 : s.size ≤ 24 := by omega
          rw [show (ds (bytesOf s)).all (·.2.2) = vld s from rfl]
          cases hv : vld s with
          | true => rw [decide_eq_true (.inr ⟨h2, h3, h5, rfl⟩)]
          | false => rw [decide_eq_false (fun h => h.elim (fun h => h1 h.1) (fun h => by cases h.2.2.2))]
        · refine Ev.congr (fun k => if_neg h4) (evC ?_)
          rw [decide_eq_false (by omega)]
      · refine Ev.congr (fun k => if_neg h3) (evC ?_)
        rw [decide_eq_false (by omega)]
    · refine Ev.congr (fun k => if_neg h2) (evC ?_)
      rw [decide_eq_false (by omega)]
theorem kind_eq (x : VX) : value_Value_Kind.f x = some x.k := by cases x <;> rfl
theorem raw_eq (x : VX) : value_Raw.f x = some (x.k, x.n, x.s) := by cases x <;> rfl
theorem eq_eq (x y : VX) : value_Eq.f x y = some (x.k == y.k && (x.n == y.n && (x.s.toList == y.s.toList))) := by
  unfold value_Eq.f
  rw [raw_eq, raw_eq]
  rfl
theorem eqVal_eq (a b : Int) (s : ByteArray) (c d : Int) (t : ByteArray) : loessref1_EqVal.f a b s c d t = some (decide (a = c ∧ b = d ∧ s = t)) := by
  unfold loessref1_EqVal.f
  by_cases h1 : a = c
  · rw [if_pos h1]
    by_cases h2 : b = d
    · rw [if_pos h2]
      congr 1
      by_cases h3 : s = t
      · subst h3; simp [h1, h2]
      · have : ¬ s.toList = t.toList := fun h => h3 (toList_inj h)
        simp [h1, h2, h3, this]
    · rw [if_neg h2, decide_eq_false (fun h => h2 h.2.1)]
  · rw [if_neg h1, decide_eq_false (fun h => h1 h.1)]
/-- A value read. -/
def getV (l : List Int) : Int × Int × ByteArray × Int × Int :=
  if (getN l).2.2 = 0 then
    if (getN l).1 = 1 then
      if (getN (l.drop (getN l).2.1.toNat)).2.2 = 0 then (1, (getN (l.drop (getN l).2.1.toNat)).1, ⟨#[]⟩, (getN l).2.1 + (getN (l.drop (getN l).2.1.toNat)).2.1, 0) else (0, 0, ⟨#[]⟩, 0, (getN (l.drop (getN l).2.1.toNat)).2.2)
    else if (getN l).1 = 2 then
      if (getT (l.drop (getN l).2.1.toNat)).2.2 = 0 then
        if mayV 2 0 (getT (l.drop (getN l).2.1.toNat)).1 = true then (2, 0, (getT (l.drop (getN l).2.1.toNat)).1, (getN l).2.1 + (getT (l.drop (getN l).2.1.toNat)).2.1, 0) else (0, 0, ⟨#[]⟩, 0, 1)
      else (0, 0, ⟨#[]⟩, 0, (getT (l.drop (getN l).2.1.toNat)).2.2)
    else (0, 0, ⟨#[]⟩, 0, 1)
  else (0, 0, ⟨#[]⟩, 0, (getN l).2.2)
theorem getT_size (l : List Int) (hb : Byt l) : (getT l).1.size ≤ 65536 := by
  by_cases h : (getT l).2.2 = 0
  · exact (getT_canon hb h).2.2
  · rw [((getT_bound l).2.2.2 h).1]
    decide
theorem get_ev {l : List Int} (hb : Byt l) (hl : l.length < 4611686018427387904) : Ev (fun k => value_Get.f k l) (getV l) := by
  have b1 := getN_bound l
  have hbd : Byt (l.drop (getN l).2.1.toNat) := hb.drop _
  have hld : (l.drop (getN l).2.1.toNat).length ≤ l.length := by rw [List.length_drop]; omega
  unfold value_Get.f getV
  refine Ev.bind (num_Get_ev hb (by omega)) ?_
  by_cases h0 : (getN l).2.2 = 0
  · refine Ev.congr (fun k => if_pos h0) ?_
    rw [if_pos h0]
    by_cases h1 : (getN l).1 = 1
    · have b2 := getN_bound (l.drop (getN l).2.1.toNat)
      refine Ev.congr (fun k => if_pos h1) ?_
      rw [if_pos h1]
      refine Ev.congr (fun k => if_pos b1.1) (Ev.congr (fun k => if_pos b1.2.1) (Ev.bind (num_Get_ev hbd (by omega)) ?_))
      by_cases h2 : (getN (l.drop (getN l).2.1.toNat)).2.2 = 0
      · rw [if_pos h2]
        refine Ev.step (f := fun k => (value_Of.f k (getN l).1 (getN (l.drop (getN l).2.1.toNat)).1 ⟨#[]⟩).bind fun bt248 => if bt248.2 = 0 then some ((getN l).1, (getN (l.drop (getN l).2.1.toNat)).1, ⟨#[]⟩, wrap64 ((getN l).2.1 + (getN (l.drop (getN l).2.1.toNat)).2.1), 0) else some (0, 0, ⟨#[]⟩, 0, bt248.2)) (fun k => ?_) ?_
        · simp only [value_Get.j0]
          rw [if_pos h2]
        · refine Ev.bind (value_Of_ev _ _ (by decide)) (evC ?_)
          have e : ofV (getN l).1 (getN (l.drop (getN l).2.1.toNat)).1 ⟨#[]⟩ = (VX.num (getN (l.drop (getN l).2.1.toNat)).1, 0) := by unfold ofV; rw [if_pos ⟨h1, rfl⟩]
          rw [e, if_pos rfl, h1, w64 (by omega) (by omega)]
      · rw [if_neg h2]
        refine Ev.step (f := fun _ => some (0, 0, ⟨#[]⟩, 0, (getN (l.drop (getN l).2.1.toNat)).2.2)) (fun k => ?_) (Ev.now _)
        simp only [value_Get.j0]
        rw [if_neg h2]
    · refine Ev.congr (fun k => if_neg h1) ?_
      rw [if_neg h1]
      by_cases h2 : (getN l).1 = 2
      · have b2 := getT_bound (l.drop (getN l).2.1.toNat)
        refine Ev.congr (fun k => if_pos h2) ?_
        rw [if_pos h2]
        refine Ev.congr (fun k => if_pos b1.1) (Ev.congr (fun k => if_pos b1.2.1) (Ev.bind (num_GetText_ev hbd (by omega)) ?_))
        have hts := getT_size _ hbd
        by_cases h3 : (getT (l.drop (getN l).2.1.toNat)).2.2 = 0
        · rw [if_pos h3]
          refine Ev.step (f := fun k => (value_Of.f k (getN l).1 0 (getT (l.drop (getN l).2.1.toNat)).1).bind fun bt248 => if bt248.2 = 0 then some ((getN l).1, 0, (getT (l.drop (getN l).2.1.toNat)).1, wrap64 ((getN l).2.1 + (getT (l.drop (getN l).2.1.toNat)).2.1), 0) else some (0, 0, ⟨#[]⟩, 0, bt248.2)) (fun k => ?_) ?_
          · simp only [value_Get.j0]
            rw [if_pos h3]
          · refine Ev.bind (value_Of_ev _ _ (by omega)) (evC ?_)
            rw [ofV_two h2]
            by_cases h4 : mayV 2 0 (getT (l.drop (getN l).2.1.toNat)).1 = true
            · rw [if_pos h4, if_pos h4, if_pos rfl, h2, w64 (by omega) (by omega)]
            · rw [if_neg h4, if_neg h4, if_neg (by simp)]
        · rw [if_neg h3]
          refine Ev.step (f := fun _ => some (0, 0, ⟨#[]⟩, 0, (getT (l.drop (getN l).2.1.toNat)).2.2)) (fun k => ?_) (Ev.now _)
          simp only [value_Get.j0]
          rw [if_neg h3]
      · refine Ev.congr (fun k => if_neg h2) ?_
        rw [if_neg h2]
        refine Ev.step (f := fun _ => some (0, 0, ⟨#[]⟩, 0, 1)) (fun k => ?_) (Ev.now _)
        simp only [value_Get.j0]
        rw [if_neg (by omega)]
  · refine Ev.congr (fun k => if_neg h0) (evC ?_)
    rw [if_neg h0]
theorem val_begun : Ev (fun k => loesslaw4_begun.f k) true := Ev.of loesslaw4_begun.mono (k := 60) (by kernel_rfl)
theorem val_then {g : Nat → Option Bool} {r : Bool} (h : Ev g r) : Ev (fun k => (loesslaw4_begun.f k).bind fun t => if t = true then g k else some false) r :=
  Ev.bind val_begun (Ev.congr (fun k => by rw [if_pos rfl]) h)
theorem cut3_eq (s : ByteArray) (n : Nat) : ∃ t : ByteArray, loesslaw3_Cut.f s (n : Int) = some t ∧ t.size ≤ n ∧ bytesOf t = (bytesOf s).take n := by
  unfold loesslaw3_Cut.f
  split
  · rw [if_pos (by omega), if_pos (by omega)]
    refine ⟨_, rfl, ?_, ?_⟩
    · simp only [ByteArray.size_extract]; omega
    · rw [bytesOf_extract]; simp
  · refine ⟨_, rfl, by omega, ?_⟩
    rw [List.take_of_length_le (by rw [bytesOf_length]; omega)]
end Go.Proofs.Ytbeoegdkoodlfaa.Q
