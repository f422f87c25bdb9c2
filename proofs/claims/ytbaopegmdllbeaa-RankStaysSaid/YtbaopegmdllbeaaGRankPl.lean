/- slices.BinarySearch over numbers that rise; rank.Place by hand. -/
import Derived.Test.YtbaopegmdllbeaaGRankRd
import Derived.Test.YtbaopegmdllbeaaXBitx22
import Derived.Test.YtbaopegmdllbeaaXBitx20
import Derived.Test.YtbaopegmdllbeaaXBitx19
import Derived.Test.YtbaopegmdllbeaaXBitx21
namespace Go.Proofs.Ytbaopegmdllbeaa.GL
open Go.RowKit Go.Proofs.YtbaopegmdllbeaaW.PrintWords Go.Proofs.YtbaopegmdllbeaaW.PrintLast Go.Proofs.YtbaopegmdllbeaaW.PrintMore Go.Proofs.Ytbaopegmdllbeaa.Q Go.Proofs.Ytbaopegmdllbeaa.XBit
set_option linter.unusedVariables false
set_option linter.unusedSimpArgs false
theorem less_int (a b : Int) : cmp_Less_int.f a b = some (decide (a < b)) := by
  unfold cmp_Less_int.f cmp_isNaN_int.f
  rw [Option.bind_some, if_neg (by simp)]
def bsFound (R : List Int) (t : Int) (p : Nat) : Bool := decide (p < R.length) && decide (rd R p = t)
theorem bs_ev (R : List Int) (t : Int) (p : Nat) (hl : R.length < 1000000000) (hlo : ∀ i : Nat, i < p → rd R i < t) (hhi : ∀ i : Nat, p ≤ i → i < R.length → t ≤ rd R i) :
    ∀ (d lo hi : Nat), hi = lo + d → lo ≤ p → p ≤ hi → hi ≤ R.length → Ev (fun k => slices_BinarySearch_int_int.l0 k R t R.length lo hi) ((p : Int), bsFound R t p) := by
  intro d
  induction d using Nat.strongRecOn with
  | ind d ih =>
    intro lo hi hd h1 h2 h3
    by_cases hz : lo < hi
    · obtain ⟨m, hm⟩ : ∃ m, m = (lo + hi) / 2 := ⟨_, rfl⟩
      have hmid : wrap64 (IntKind.u64.wrap (wrap64 ((lo : Int) + (hi : Int))) / 2) = (m : Int) := by
        rw [w64 (x := (lo : Int) + hi) (by omega) (by omega), u64 (by omega) (by omega), w64 (by omega) (by omega)]
        omega
      have hlt : ((lo : Int) < (hi : Int)) := by omega
      have hm0 : (0 : Int) ≤ (m : Int) := by omega
      have hml : (m : Int) < (R.length : Int) := by omega
      by_cases hmp : m < p
      · refine Ev.step (f := fun k => slices_BinarySearch_int_int.l0 k R t R.length ((m + 1 : Nat) : Int) hi) (fun k => ?_) (ih (hi - (m + 1)) (by omega) (m + 1) hi (by omega) (by omega) h2 h3)
        have hw : wrap64 ((m : Int) + 1) = ((m + 1 : Nat) : Int) := by rw [w64 (by omega) (by omega)]; rfl
        simp only [slices_BinarySearch_int_int.l0]
        rw [if_pos hlt, hmid, if_pos hm0, if_pos hml, less_int, Option.bind_some, if_pos (decide_eq_true (hlo m hmp)), hw]
      · refine Ev.step (f := fun k => slices_BinarySearch_int_int.l0 k R t R.length lo (m : Int)) (fun k => ?_) (ih (m - lo) (by omega) lo m (by omega) h1 (by omega) (by omega))
        have hge := hhi m (by omega) (by omega)
        simp only [slices_BinarySearch_int_int.l0]
        rw [if_pos hlt, hmid, if_pos hm0, if_pos hml, less_int, Option.bind_some, if_neg (by simp; omega)]
    · have e1 : lo = p := by omega
      have e2 : hi = p := by omega
      rw [e1, e2]
      refine Ev.step (f := fun _ => some ((p : Int), bsFound R t p)) (fun k => ?_) (Ev.now _)
      simp only [slices_BinarySearch_int_int.l0]
      rw [if_neg (by omega)]
      by_cases hpl : p < R.length
      · rw [if_pos (by omega), if_pos (by omega), if_pos (by omega)]
        by_cases he : rd R p = t
        · rw [if_pos he]
          simp [bsFound, hpl, he]
        · rw [if_neg he]
          unfold slices_isNaN_int.f
          rw [Option.bind_some, if_neg (by simp)]
          simp [bsFound, he]
      · rw [if_neg (by omega)]
        simp [bsFound, hpl]
theorem bs_f (R : List Int) (t : Int) (p : Nat) (hl : R.length < 1000000000) (hp : p ≤ R.length) (hlo : ∀ i : Nat, i < p → rd R i < t) (hhi : ∀ i : Nat, p ≤ i → i < R.length → t ≤ rd R i) :
    ∃ k, slices_BinarySearch_int_int.f k R t = some ((p : Int), bsFound R t p) := by
  obtain ⟨k, hk⟩ := (bs_ev R t p hl hlo hhi R.length 0 R.length (by omega) (Nat.zero_le _) hp (Nat.le_refl _)).rounds
  exact ⟨k, hk⟩
theorem counts_rd (L : List Bool) (n i : Nat) (h : i ≤ n) : rd (counts L n) (i : Int) = (cnt L i : Int) := counts_get L n i h
/-- Where a count is reached. -/
theorem place_bs (L : List Bool) (j n : Nat) (hl : L.length < 100000000) (hj : j < L.length) (hb : L.getD j false = true) (hn : cnt L j = n) :
    ∃ k b, slices_BinarySearch_int_int.f k (counts L L.length) ((n : Int) + 1) = some (((j + 1 : Nat) : Int), b) := by
  have hs := cnt_succ L j
  rw [if_pos hb] at hs
  obtain ⟨k, hk⟩ := bs_f (counts L L.length) ((n : Int) + 1) (j + 1) (by rw [counts_len]; omega) (by rw [counts_len]; omega)
    (fun i hi => by rw [counts_rd L _ _ (by omega)]; have := cnt_mono L (show i ≤ j by omega); omega)
    (fun i hi hil => by rw [counts_len] at hil; rw [counts_rd L _ _ (by omega)]; have := cnt_mono L hi; omega)
  exact ⟨k, _, hk⟩
theorem clampN_len (n : Nat) : clampN (n : Int) n = n := by unfold clampN; rw [if_neg (by omega)]; omega
set_option maxRecDepth 1000000 in
set_option maxHeartbeats 8000000 in
theorem rank_Place_none {w : World} {p : Nat} {L : List Bool} (n : Int) (h : RankR w p (counts L L.length)) (hl : L.length < 100000000) (hn : n < 0 ∨ (cnt L L.length : Int) ≤ n) :
    Calls Try.prog 26 #[.pointer (some ⟨p, 0, none⟩), .int .i64 n] w fun e w' => e = .returned (.int .i64 (-1)) ∧ Drawn0 w w' := by
  have hu := Try.underlying66
  have HR := Aside0.mk h
  have HL := Aside0.mk (show L.length < 1000000000 by omega)
  by_cases h0 : n < 0
  · have h1 := decide_eq_true h0
    clear h hl hn
    go_enter Try.func26, Try.ntmps26
    go_wp2
    go_ret
    exact ⟨rfl, Drawn0.refl _⟩
  · have h1 := decide_eq_false h0
    have h2 : decide ((cnt L L.length : Int) ≤ n) = true := decide_eq_true (by omega)
    clear h hl hn
    go_enter Try.func26, Try.ntmps26
    go_wp2_with (first
      | (go_at_call 27; refine (rank_Len HR.out HL.out).mono ?_; rintro e w' ⟨rfl, rfl⟩)
      | (go_at_call 25; refine (rank_Ones _ HR.out HL.out).mono ?_; rw [clampN_len]; rintro e w' ⟨rfl, ⟨nd, rfl⟩⟩))
    go_ret
    exact ⟨rfl, ⟨nd, rfl⟩⟩
set_option maxRecDepth 1000000 in
set_option maxHeartbeats 8000000 in
theorem rank_Place_some {w : World} {p : Nat} {L : List Bool} (j n : Nat) (h : RankR w p (counts L L.length)) (hl : L.length < 100000000) (hj : j < L.length) (hb : L.getD j false = true) (hn : cnt L j = n) :
    Calls Try.prog 26 #[.pointer (some ⟨p, 0, none⟩), .int .i64 n] w fun e w' => e = .returned (.int .i64 j) ∧ Drawn0 w w' := by
  have hu := Try.underlying66
  have HR := Aside0.mk h
  have HL := Aside0.mk (show L.length < 1000000000 by omega)
  obtain ⟨k, b, hbs⟩ := place_bs L j n hl hj hb hn
  have HBS := Aside0.mk hbs
  obtain ⟨A, c, hBK, hlc, hC⟩ := h
  have BK := Aside0.mk hBK
  have HLC := Aside0.mk hlc
  have HC := Aside0.mk hC
  have h1 : decide ((n : Int) < 0) = false := decide_eq_false (by omega)
  have hs := cnt_succ L j
  rw [if_pos hb] at hs
  have hm := cnt_mono L (show j + 1 ≤ L.length by omega)
  have h2 : decide ((cnt L L.length : Int) ≤ (n : Int)) = false := decide_eq_false (by omega)
  have h3 : decide (cnt L L.length ≤ n) = false := decide_eq_false (by omega)
  have hnb : (n : Int) < 100000000 := by have := cnt_le L j; omega
  have hc0 : w.cell? ⟨p, 0, none⟩ = some (.slice A (counts L L.length).length c) := (blk_cell hBK 0).trans rfl
  have hj1 : ((j + 1 : Nat) : Int) - 1 = (j : Int) := by omega
  have hjb : ((j + 1 : Nat) : Int) < 1000000000 := by omega
  clear hBK hlc hC hl hj hb hn hs hm hbs
  go_enter Try.func26, Try.ntmps26
  go_wp2_with (first
    | (go_at_call 27; refine (rank_Len HR.out HL.out).mono ?_; rintro e w' ⟨rfl, rfl⟩)
    | (go_at_call 25; refine (rank_Ones _ HR.out HL.out).mono ?_; rw [clampN_len]; rintro e w' ⟨rfl, ⟨nd, rfl⟩⟩)
    | (go_at_call 38; refine (slices_BinarySearch_int_int.calls k A c (counts L L.length) ((n : Int) + 1) _ _ _ (Kd.C_drewN HC.out nd) HLC.out HBS.out).mono ?_; rintro e w' ⟨rfl, ⟨nd2, rfl⟩⟩))
  go_ret
  exact ⟨rfl, ⟨_, rfl⟩⟩
theorem rank_Place_at {w : World} {p : Nat} {L : List Bool} (j : Nat) (i n : Int) (h : RankR w p (counts L L.length)) (hl : L.length < 100000000) (hj : j < L.length) (hb : L.getD j false = true) (hn : n = (cnt L j : Int)) (hi : i = (j : Int)) :
    Calls Try.prog 26 #[.pointer (some ⟨p, 0, none⟩), .int .i64 n] w fun e w' => e = .returned (.int .i64 i) ∧ Drawn0 w w' := by
  subst hn hi
  exact rank_Place_some j (cnt L j) h hl hj hb rfl
end Go.Proofs.Ytbaopegmdllbeaa.GL
