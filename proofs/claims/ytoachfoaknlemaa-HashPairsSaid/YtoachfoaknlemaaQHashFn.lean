/- The functions of package hash, and of its reference, in plain Lean. -/
import Derived.Test.YtoachfoaknlemaaQRunesFn
import Derived.Test.YtoachfoaknlemaaQRunesRef
import Derived.KernelRfl
import Derived.Test.YtoachfoaknlemaaXHashx1
import Derived.Test.YtoachfoaknlemaaXHashx5
import Derived.Test.YtoachfoaknlemaaXHashx6
import Derived.Test.YtoachfoaknlemaaXHashx7
import Derived.Test.YtoachfoaknlemaaXHashx4
set_option linter.unusedVariables false
set_option linter.unusedSimpArgs false
namespace Go.Proofs.Ytoachfoaknlemaa.Q
open Go.RowKit Go.Proofs.YtoachfoaknlemaaW.PrintWords Go.Proofs.YtoachfoaknlemaaW.PrintMore Go.Proofs.Ytoachfoaknlemaa.G Go.Proofs.Ytoachfoaknlemaa.XHash
/-- One rune mixed in; the end of the mixing. -/
def mixR (h x : Int) : Int := IntKind.u64.wrap (Go.bits .xor .u64 h (IntKind.u64.wrap x) * 1099511628211)
def mixE (h : Int) : Int := Go.bits .xor .u64 (IntKind.u64.wrap ((Go.bits .xor .u64 h (h / 4294967296)) * 11400714819323198485)) ((IntKind.u64.wrap ((Go.bits .xor .u64 h (h / 4294967296)) * 11400714819323198485)) / 536870912)
def hashR (rs : List Int) : Int := mixE (rs.foldl mixR 14695981039346656037)
/-- A text's hash. -/
def H (s : ByteArray) : Int := hashR ((D s).map (·.1))
theorem hash_l (rs : List Int) (hn : rs.length < 9223372036854775807) : ∀ (r pre : List Int) (h : Int), rs = pre ++ r → Ev (fun k => hash_Of.l0 k h rs (rs.length : Int) (pre.length : Int)) (mixE (r.foldl mixR h)) := by
  intro r
  induction r with
  | nil =>
    intro pre h e
    refine Ev.step (f := fun _ => some (mixE h)) (fun k => ?_) (Ev.now _)
    simp only [hash_Of.l0]
    rw [if_neg (by rw [e]; simp)]
    rfl
  | cons x r ih =>
    intro pre h e
    have hlen : rs.length = pre.length + r.length + 1 := by rw [e]; simp; omega
    have hrec := ih (pre ++ [x]) (mixR h x) (by rw [e]; simp)
    refine Ev.step (fun k => ?_) hrec
    simp only [hash_Of.l0]
    have e1 : rd rs (pre.length : Int) = x := by rw [e]; exact rd_append pre r x
    rw [if_pos (by omega), if_pos (by omega), if_pos (by omega), e1, w64 (by omega) (by omega)]
    simp only [List.length_append, List.length_cons, List.length_nil, Int.natCast_add, Nat.zero_add, Int.natCast_one]
    rfl
theorem refHash_l (rs : List Int) (hn : rs.length < 9223372036854775807) : ∀ (r pre : List Int) (h : Int), rs = pre ++ r → Ev (fun k => loessref6_Hash.l0 k h rs (pre.length : Int)) (mixE (r.foldl mixR h)) := by
  intro r
  induction r with
  | nil =>
    intro pre h e
    refine Ev.step (f := fun _ => some (mixE h)) (fun k => ?_) (Ev.now _)
    simp only [loessref6_Hash.l0]
    rw [if_neg (by rw [e]; simp)]
    rfl
  | cons x r ih =>
    intro pre h e
    have hlen : rs.length = pre.length + r.length + 1 := by rw [e]; simp; omega
    have hrec := ih (pre ++ [x]) (mixR h x) (by rw [e]; simp)
    refine Ev.step (fun k => ?_) hrec
    simp only [loessref6_Hash.l0]
    have e1 : rd rs (pre.length : Int) = x := by rw [e]; exact rd_append pre r x
    rw [if_pos (by omega), if_pos (by omega), e1, w64 (by omega) (by omega)]
    simp only [List.length_append, List.length_cons, List.length_nil, Int.natCast_add, Nat.zero_add, Int.natCast_one]
    rfl
theorem hash_ev {s : ByteArray} (h : s.size < 17592186044416) : Ev (fun k => hash_Of.f k s) (H s) := by
  have hl := D_len s
  unfold hash_Of.f
  simp only [rOf (s := s) (by omega), Option.bind_some]
  exact hash_l ((D s).map (·.1)) (by rw [List.length_map]; omega) ((D s).map (·.1)) [] _ (by simp)
theorem refHash_ev {s : ByteArray} (h : s.size < 17592186044416) : Ev (fun k => loessref6_Hash.f k s) (H s) := by
  have hl := D_len s
  unfold loessref6_Hash.f
  refine Ev.bind (refRunes_ev h) ?_
  exact refHash_l ((D s).map (·.1)) (by rw [List.length_map]; omega) ((D s).map (·.1)) [] _ (by simp)
theorem xor_range (x y : Int) : 0 ≤ Go.bits .xor .u64 x y ∧ Go.bits .xor .u64 x y < 18446744073709551616 := by
  show 0 ≤ IntKind.u64.wrap _ ∧ IntKind.u64.wrap _ < 18446744073709551616
  rw [u64_mod]
  omega
theorem H_range (s : ByteArray) : 0 ≤ H s ∧ H s < 18446744073709551616 := xor_range _ _
/-- Bucket, tag, other bucket. -/
def fst8 (h : Int) : Int := h % 8
def tag8 (h : Int) : Int := h / 256 % 32768
theorem first_eq {h : Int} (h0 : 0 ≤ h) : hash_First.f h = some (fst8 h) := by
  unfold hash_First.f fst8
  rw [Int.tmod_eq_emod_of_nonneg h0, w64 (by omega) (by omega)]
theorem tag_eq {h : Int} (h0 : 0 ≤ h) : hash_Tag.f h = some (tag8 h) := by
  unfold hash_Tag.f tag8
  rw [Int.tmod_eq_emod_of_nonneg (by omega), w64 (by omega) (by omega)]
def oth (b t : Int) : Int := if b < 0 ∨ b ≥ 8 ∨ t < 0 ∨ t ≥ 32768 then -1 else Go.bits .xor .i64 b (1 + t % 7)
theorem other_eq (b t : Int) : hash_Other.f b t = some (oth b t) := by
  unfold hash_Other.f oth
  by_cases h1 : b < 0
  · rw [if_pos h1, if_pos (.inl h1)]
  rw [if_neg h1]
  by_cases h2 : b ≥ 8
  · rw [if_pos h2, if_pos (.inr (.inl h2))]
  rw [if_neg h2]
  by_cases h3 : t < 0
  · rw [if_pos h3, if_pos (.inr (.inr (.inl h3)))]
  rw [if_neg h3]
  by_cases h4 : t ≥ 32768
  · rw [if_pos h4, if_pos (.inr (.inr (.inr h4)))]
  rw [if_neg h4, if_neg (by omega), Int.tmod_eq_emod_of_nonneg (by omega), w64 (by omega) (by omega)]
/-- The other one's other one is it, and another one. -/
theorem oth_all : ∀ b : Fin 8, ∀ t : Fin 7, 0 ≤ Go.bits .xor .i64 (b : Int) (1 + (t : Int)) ∧ Go.bits .xor .i64 (b : Int) (1 + (t : Int)) ≤ 7 ∧ Go.bits .xor .i64 (b : Int) (1 + (t : Int)) ≠ (b : Int) ∧ Go.bits .xor .i64 (Go.bits .xor .i64 (b : Int) (1 + (t : Int))) (1 + (t : Int)) = (b : Int) := by
  decide +kernel
theorem oth_back {b t : Int} (hb0 : 0 ≤ b) (hb : b < 8) (ht0 : 0 ≤ t) (ht : t < 32768) : 0 ≤ oth b t ∧ oth b t ≤ 7 ∧ oth b t ≠ b ∧ oth (oth b t) t = b := by
  have h := oth_all ⟨b.toNat, by omega⟩ ⟨(t % 7).toNat, by omega⟩
  simp only [show ((b.toNat : Nat) : Int) = b by omega, show (((t % 7).toNat : Nat) : Int) = t % 7 by omega] at h
  have e : oth b t = Go.bits .xor .i64 b (1 + t % 7) := by unfold oth; rw [if_neg (by omega)]
  refine ⟨by omega, by omega, by rw [e]; exact h.2.2.1, ?_⟩
  rw [e]
  unfold oth
  rw [if_neg (by omega)]
  exact h.2.2.2
end Go.Proofs.Ytoachfoaknlemaa.Q
