/- Keys in plain Lean: rows of numbers held against one another; folded texts; the printed functions of package key and of its reference. -/
import Derived.Test.YtbjkednhoanloaaQRunesFn
import Derived.Test.YtbjkednhoanloaaQRunesRef
import Derived.Test.YtbjkednhoanloaaQRunesEnc
import Derived.Test.YtbjkednhoanloaaGKey
import Derived.KernelRfl
import Derived.Test.YtbjkednhoanloaaXKeyx6
import Derived.Test.YtbjkednhoanloaaXKeyx5
import Derived.Test.YtbjkednhoanloaaXKeyx4
import Derived.Test.YtbjkednhoanloaaXKeyx3
import Derived.Test.YtbjkednhoanloaaXKeyx12
import Derived.Test.YtbjkednhoanloaaXKeyx1
import Derived.Test.YtbjkednhoanloaaXKeyx2
import Derived.Test.YtbjkednhoanloaaXKeyx9
import Derived.Test.YtbjkednhoanloaaXKeyx7
import Derived.Test.YtbjkednhoanloaaXKeyx8
set_option linter.unusedVariables false
set_option linter.unusedSimpArgs false
namespace Go.Proofs.Ytbjkednhoanloaa.Q
open Go.RowKit Go.Proofs.YtbjkednhoanloaaW.PrintWords Go.Proofs.YtbjkednhoanloaaW.PrintMore Go.Proofs.Ytbjkednhoanloaa.G Go.Proofs.Ytbjkednhoanloaa.XKey
/-- Two rows of numbers: -1, 0 or 1. -/
def cmpL : List Int → List Int → Int
  | [], [] => 0
  | [], _ :: _ => -1
  | _ :: _, [] => 1
  | x :: a, y :: b => if x < y then -1 else if x > y then 1 else cmpL a b
theorem cmpL_range : ∀ a b, cmpL a b = -1 ∨ cmpL a b = 0 ∨ cmpL a b = 1
  | [], [] => by simp [cmpL]
  | [], _ :: _ => by simp [cmpL]
  | _ :: _, [] => by simp [cmpL]
  | x :: a, y :: b => by
    unfold cmpL
    split
    · simp
    · split
      · simp
      · exact cmpL_range a b
theorem cmpL_self : ∀ a, cmpL a a = 0
  | [] => rfl
  | x :: a => by
    unfold cmpL
    rw [if_neg (by omega), if_neg (by omega)]
    exact cmpL_self a
theorem cmpL_swap : ∀ a b, cmpL b a = - cmpL a b
  | [], [] => rfl
  | [], _ :: _ => rfl
  | _ :: _, [] => rfl
  | x :: a, y :: b => by
    unfold cmpL
    have ih := cmpL_swap a b
    split <;> split <;> (try split) <;> omega
theorem cmpL_trans : ∀ a b c, cmpL a b ≤ 0 → cmpL b c ≤ 0 → cmpL a c ≤ 0 ∧ ((cmpL a c < 0) ↔ (cmpL a b < 0 ∨ cmpL b c < 0))
  | [], [], [] => by simp [cmpL]
  | [], [], _ :: _ => by simp [cmpL]
  | [], _ :: _, [] => by simp [cmpL]
  | [], _ :: _, _ :: _ => by intro h1 h2; simp [cmpL]
  | _ :: _, [], [] => by simp [cmpL]
  | _ :: _, [], _ :: _ => by simp [cmpL]
  | _ :: _, _ :: _, [] => by simp [cmpL]
  | x :: a, y :: b, z :: c => by
    intro h1 h2
    have ih := cmpL_trans a b c
    unfold cmpL at h1 h2 ⊢
    by_cases hxy : x < y <;> by_cases hyx : x > y <;> by_cases hyz : y < z <;> by_cases hzy : y > z <;> by_cases hxz : x < z <;> by_cases hzx : x > z <;> simp only [hxy, hyx, hyz, hzy, hxz, hzx, if_true, if_false] at h1 h2 ⊢ <;> first | omega | (exact ih h1 h2)
/-- Two numbers. -/
def sg (x y : Int) : Int := if x < y then -1 else if x > y then 1 else 0
theorem sg_eq {x y : Int} (h : x = y) : sg x y = 0 := by unfold sg; rw [if_neg (by omega), if_neg (by omega)]
theorem sg_ne {x y : Int} (h : x ≠ y) : sg x y ≠ 0 := by unfold sg; split <;> (try split) <;> omega
theorem cmp_rune (x y : Int) : cmp_Compare_rune.f x y = some (sg x y) := by
  unfold cmp_Compare_rune.f cmp_isNaN_rune.f sg
  simp only [Option.bind_some, bne_self_eq_false]
  rw [if_neg (by simp), if_neg (by simp)]
  split
  · rfl
  · split <;> rfl
theorem cmpL_cons (x y : Int) (a b : List Int) : cmpL (x :: a) (y :: b) = if sg x y = 0 then cmpL a b else sg x y := by
  unfold sg
  rw [cmpL]
  by_cases h1 : x < y
  · rw [if_pos h1, if_pos h1, if_neg (by omega)]
  · rw [if_neg h1, if_neg h1]
    by_cases h2 : x > y
    · rw [if_pos h2, if_pos h2, if_neg (by omega)]
    · rw [if_neg h2, if_neg h2, if_pos rfl]
theorem dec_and {p q : Prop} [Decidable p] [Decidable q] (h : p) : decide (p ∧ q) = decide q := by simp [h]
theorem dec_nand {p q : Prop} [Decidable p] [Decidable q] (h : ¬ p) : decide (p ∧ q) = false := by simp [h]
theorem drop_nil {l : List Int} {i : Nat} (h : ¬ (i : Int) < l.length) : l.drop i = [] := List.drop_of_length_le (by omega)
theorem drop_at {l : List Int} {i : Nat} (h : (i : Int) < l.length) : l.drop i = rd l (i : Int) :: l.drop (i + 1) := by
  have := rd_at (l := l) (i := (i : Int)) (by omega) h
  rwa [Int.toNat_natCast] at this
theorem compare_l (a b : List Int) (ha : a.length < 9223372036854775807) : ∀ (d i : Nat), a.length ≤ i + d → i ≤ a.length → i ≤ b.length →
    Ev (fun k => slices_Compare_rune_rune.l0 k a b a (a.length : Int) (i : Int)) (cmpL (a.drop i) (b.drop i)) := by
  intro d
  induction d with
  | zero =>
    intro i h1 h2 h3
    have hi : ¬ (i : Int) < a.length := by omega
    refine Ev.step (f := fun _ => some (cmpL (a.drop i) (b.drop i))) (fun k => ?_) (Ev.now _)
    simp only [slices_Compare_rune_rune.l0]
    rw [if_neg hi, drop_nil hi]
    by_cases hb : (a.length : Int) < b.length
    · rw [if_pos hb, drop_at (l := b) (i := i) (by omega)]
      rfl
    · rw [if_neg hb, drop_nil (l := b) (i := i) (by omega)]
      rfl
  | succ d ih =>
    intro i h1 h2 h3
    by_cases hi : (i : Int) < a.length
    · by_cases hb : (i : Int) < b.length
      · by_cases he : rd a i = rd b i
        · have hrec := ih (i + 1) (by omega) (by omega) (by omega)
          refine evEq (Ev.step (fun k => ?_) hrec) ?_
          · simp only [slices_Compare_rune_rune.l0, cmp_rune, Option.bind_some]
            rw [if_pos hi, if_pos (by omega), if_pos (by omega), if_neg (by omega), if_pos hb, if_pos (sg_eq he), w64 (by omega) (by omega)]
            rfl
          · rw [drop_at hi, drop_at hb, cmpL, if_neg (by omega), if_neg (by omega)]
        · refine Ev.step (f := fun _ => some (cmpL (a.drop i) (b.drop i))) (fun k => ?_) (Ev.now _)
          simp only [slices_Compare_rune_rune.l0, cmp_rune, Option.bind_some]
          rw [if_pos hi, if_pos (by omega), if_pos (by omega), if_neg (by omega), if_pos hb, if_neg (sg_ne he), drop_at hi, drop_at hb, cmpL_cons, if_neg (sg_ne he)]
      · refine Ev.step (f := fun _ => some (cmpL (a.drop i) (b.drop i))) (fun k => ?_) (Ev.now _)
        simp only [slices_Compare_rune_rune.l0]
        rw [if_pos hi, if_pos (by omega), if_pos (by omega), if_pos (by omega), drop_at hi, drop_nil hb]
        rfl
    · exact ih i (by omega) h2 h3
theorem refCompare_l (a b : List Int) (ha : a.length < 9223372036854775807) : ∀ (d i : Nat), a.length ≤ i + d → i ≤ a.length → i ≤ b.length →
    Ev (fun k => loessref1_CompareRunes.l0 k a b (i : Int)) (cmpL (a.drop i) (b.drop i)) := by
  intro d i
  suffices H : ∀ (d i : Nat), a.length ≤ i + d → i ≤ a.length → i ≤ b.length → Ev (fun k => loessref1_CompareRunes.j1 k a b (i : Int) (decide ((i : Int) < a.length ∧ (i : Int) < b.length))) (cmpL (a.drop i) (b.drop i)) by
    intro h1 h2 h3
    refine Ev.step (fun k => ?_) (H d i h1 h2 h3)
    simp only [loessref1_CompareRunes.l0]
    by_cases hi : (i : Int) < a.length
    · rw [if_pos hi, dec_and hi]
    · rw [if_neg hi, dec_nand hi]
  clear d i
  intro d
  induction d with
  | zero =>
    intro i h1 h2 h3
    have hi : ¬ (i : Int) < a.length := by omega
    refine Ev.step (f := fun _ => some (cmpL (a.drop i) (b.drop i))) (fun k => ?_) (Ev.now _)
    simp only [loessref1_CompareRunes.j1]
    rw [if_neg (by simp; omega), drop_nil hi]
    by_cases hb : (a.length : Int) < b.length
    · rw [if_pos hb, drop_at (l := b) (i := i) (by omega)]
      rfl
    · rw [if_neg hb, if_neg (by omega), drop_nil (l := b) (i := i) (by omega)]
      rfl
  | succ d ih =>
    intro i h1 h2 h3
    by_cases hi : (i : Int) < a.length
    · by_cases hb : (i : Int) < b.length
      · have hd : decide ((i : Int) < a.length ∧ (i : Int) < b.length) = true := decide_eq_true ⟨hi, hb⟩
        rw [hd]
        by_cases he : rd a i = rd b i
        · have hrec := ih (i + 1) (by omega) (by omega) (by omega)
          have hrec2 : Ev (fun k => loessref1_CompareRunes.l0 k a b ((i + 1 : Nat) : Int)) (cmpL (a.drop (i + 1)) (b.drop (i + 1))) := by
            refine Ev.step (fun k => ?_) hrec
            simp only [loessref1_CompareRunes.l0]
            by_cases hi : ((i + 1 : Nat) : Int) < a.length
            · rw [if_pos hi, dec_and hi]
            · rw [if_neg hi, dec_nand hi]
          refine evEq (Ev.step (fun k => ?_) hrec2) ?_
          · simp only [loessref1_CompareRunes.j1]
            rw [if_pos trivial, if_pos (by omega), if_pos hi, if_pos hb, if_neg (by omega), if_neg (by omega), w64 (by omega) (by omega)]
            rfl
          · rw [drop_at hi, drop_at hb, cmpL, if_neg (by omega), if_neg (by omega)]
        · refine Ev.step (f := fun _ => some (cmpL (a.drop i) (b.drop i))) (fun k => ?_) (Ev.now _)
          simp only [loessref1_CompareRunes.j1]
          rw [if_pos trivial, if_pos (by omega), if_pos hi, if_pos hb, drop_at hi, drop_at hb, cmpL]
          by_cases hlt : rd a i < rd b i
          · rw [if_pos hlt, if_pos hlt]
          · rw [if_neg hlt, if_neg hlt, if_pos (by omega), if_pos (by omega)]
      · have hd : decide ((i : Int) < a.length ∧ (i : Int) < b.length) = false := decide_eq_false (fun h => hb h.2)
        rw [hd]
        refine Ev.step (f := fun _ => some (cmpL (a.drop i) (b.drop i))) (fun k => ?_) (Ev.now _)
        simp only [loessref1_CompareRunes.j1]
        rw [if_neg (by simp), if_neg (by omega), if_pos (by omega), drop_at hi, drop_nil hb]
        rfl
    · exact ih i (by omega) h2 h3
/-- The order by runes. -/
def R (a b : ByteArray) : Int := cmpL ((D a).map (·.1)) ((D b).map (·.1))
theorem runes_ev {a b : ByteArray} (ha : a.size < 17592186044416) (hb : b.size < 17592186044416) : Ev (fun k => key_Runes.f k a b) (R a b) := by
  have hl := D_len a
  unfold key_Runes.f
  simp only [rOf (s := a) (by omega), rOf (s := b) (by omega), Option.bind_some]
  refine Ev.bind (a := R a b) ?_ (Ev.now _)
  exact compare_l _ _ (by rw [List.length_map]; omega) ((D a).map (·.1)).length 0 (by omega) (by omega) (by omega)
theorem refRunesCmp_ev {a b : ByteArray} (ha : a.size < 17592186044416) (hb : b.size < 17592186044416) : Ev (fun k => loessref1_CompareRunes.f k a b) (R a b) := by
  have hl := D_len a
  unfold loessref1_CompareRunes.f
  refine Ev.bind (refRunes_ev ha) (Ev.bind (refRunes_ev hb) ?_)
  exact refCompare_l ((D a).map (·.1)) ((D b).map (·.1)) (by rw [List.length_map]; omega) ((D a).map (·.1)).length 0 (by omega) (by omega) (by omega)
/-- The order by bytes. -/
theorem less_cmp (a b : List UInt8) : Op.bytesLess a b = decide (cmpL (a.map fun x => (x.toNat : Int)) (b.map fun x => (x.toNat : Int)) = -1) := by
  induction a generalizing b with
  | nil => cases b <;> simp [Op.bytesLess, cmpL]
  | cons x a ih =>
    cases b with
    | nil => simp [Op.bytesLess, cmpL]
    | cons y b =>
      simp only [Op.bytesLess, List.map_cons, cmpL, ih b]
      by_cases h1 : x < y
      · have : (x.toNat : Int) < y.toNat := by have := UInt8.lt_iff_toNat_lt.1 h1; omega
        simp [h1, this]
      · have h2 : ¬ (x.toNat : Int) < y.toNat := by
          intro h
          exact h1 (UInt8.lt_iff_toNat_lt.2 (by omega))
        by_cases h3 : x = y
        · subst h3
          simp
        · have h4 : (x.toNat : Int) > y.toNat := by
            have : x.toNat ≠ y.toNat := fun h => h3 (UInt8.toNat_inj.1 h)
            omega
          simp [h1, h3, h2, h4]
theorem less_bytes (a b : ByteArray) : Op.bytesLess a.toList b.toList = decide (cmpL (bytesOf a) (bytesOf b) = -1) := by
  rw [less_cmp, toList_eq, toList_eq]
  rfl
theorem cmpL_append (p u v : List Int) : cmpL (p ++ u) (p ++ v) = cmpL u v := by
  induction p with
  | nil => rfl
  | cons x p ih =>
    rw [List.cons_append, List.cons_append, cmpL, if_neg (by omega), if_neg (by omega), ih]
theorem cmpL_enc {x y : Nat} (h : x < y) (hy : y ≤ 1114111) (u v : List Int) : cmpL (encL x ++ u) (encL y ++ v) = -1 := by
  unfold encL
  split <;> split <;> (try split) <;> (try split) <;> (try split) <;> (try split) <;> simp only [List.cons_append, List.nil_append, cmpL] <;> (repeat' split) <;> first | rfl | omega
theorem cmpL_encAll : ∀ (r s : List Int), Vrs r → Vrs s → cmpL (encAll r) (encAll s) = cmpL r s
  | [], [], _, _ => rfl
  | [], y :: s, _, _ => by
    have := encL_ne y.toNat
    rw [encAll, encAll, List.flatMap_cons]
    cases h : encL y.toNat with
    | nil => exact absurd h this
    | cons => rfl
  | x :: r, [], _, _ => by
    have := encL_ne x.toNat
    rw [encAll, encAll, List.flatMap_cons]
    cases h : encL x.toNat with
    | nil => exact absurd h this
    | cons => rfl
  | x :: r, y :: s, hr, hs => by
    have hx := hr x (by simp)
    have hy := hs y (by simp)
    have ih := cmpL_encAll r s (fun z hz => hr z (by simp [hz])) (fun z hz => hs z (by simp [hz]))
    unfold Vc at hx hy
    rw [encAll, encAll, List.flatMap_cons, List.flatMap_cons, cmpL]
    by_cases h1 : x < y
    · rw [if_pos h1]
      exact cmpL_enc (by omega) (by omega) _ _
    · rw [if_neg h1]
      by_cases h2 : x > y
      · rw [if_pos h2, cmpL_swap, cmpL_enc (by omega) (by omega)]
        rfl
      · rw [if_neg h2]
        obtain rfl : x = y := by omega
        rw [cmpL_append]
        exact ih
theorem R_valid {a b : ByteArray} (ha : vld a = true) (hb : vld b = true) : R a b = cmpL (bytesOf a) (bytesOf b) := by
  have h1 := encAll_ds _ _ (Nat.le_refl _) (byt_bytesOf a) ha
  have h2 := encAll_ds _ _ (Nat.le_refl _) (byt_bytesOf b) hb
  conv => rhs; rw [← h1, ← h2]
  rw [cmpL_encAll _ _ (ds_vrs _ _ (Nat.le_refl _) (byt_bytesOf a)) (ds_vrs _ _ (Nat.le_refl _) (byt_bytesOf b))]
  rfl
theorem fold_bytes {s : ByteArray} (h : s.size ≤ 9223372036854775800) : ∃ t, key_Fold.f s = some t ∧ bytesOf t = (bytesOf s).map foldB ∧ t.size = s.size := by
  have hb : Byt ((bytesOf s).map foldB) := by
    intro x hx
    obtain ⟨y, hy, rfl⟩ := List.mem_map.1 hx
    have := byt_bytesOf s y hy
    unfold foldB
    split <;> omega
  refine ⟨_, by unfold key_Fold.f; rw [if_pos h], bytesOf_str hb, ?_⟩
  rw [size_of_bytes, bytesOf_str hb, List.length_map, bytesOf_length]
theorem key_begun : Ev (fun k => loesslaw5_begun.f k) true := Ev.of loesslaw5_begun.mono (k := 60) (by kernel_rfl)
theorem key_then {g : Nat → Option Bool} {r : Bool} (h : Ev g r) : Ev (fun k => (loesslaw5_begun.f k).bind fun t => if t = true then g k else some false) r :=
  Ev.bind key_begun (Ev.congr (fun k => by rw [if_pos rfl]) h)
theorem cut3_eq (s : ByteArray) (n : Nat) : ∃ t : ByteArray, loesslaw3_Cut.f s (n : Int) = some t ∧ t.size ≤ n ∧ bytesOf t = (bytesOf s).take n := by
  unfold loesslaw3_Cut.f
  split
  · rw [if_pos (by omega), if_pos (by omega)]
    refine ⟨_, rfl, ?_, ?_⟩
    · simp only [ByteArray.size_extract]; omega
    · rw [bytesOf_extract]; simp
  · refine ⟨_, rfl, by omega, ?_⟩
    rw [List.take_of_length_le (by rw [bytesOf_length]; omega)]
end Go.Proofs.Ytbjkednhoanloaa.Q
