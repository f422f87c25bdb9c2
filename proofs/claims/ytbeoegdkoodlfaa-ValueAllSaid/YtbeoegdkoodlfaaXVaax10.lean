-- Written by wip/xprint.py, this session's wrapper round the kit's print program. Not trusted: Lean checks it.
import Derived.Test.YtbeoegdkoodlfaaXVaax0
import Derived.Test.YtbeoegdkoodlfaaXVaax9
namespace Go.Proofs.Ytbeoegdkoodlfaa.XVaa
open Go.RowKit Go.Proofs.Ytbeoegdkoodlfaa.G Go.Proofs.YtbeoegdkoodlfaaW.PrintWords Go.Proofs.YtbeoegdkoodlfaaW.PrintLast Go.Proofs.YtbeoegdkoodlfaaW.PrintMore
attribute [local go_sem] max2_int min2_int max_two min_two max_three min_three max_four min_four   -- for this text's walks alone
set_option linter.unusedVariables false
set_option linter.unusedSimpArgs false

/-! ### loessref1_GetText: function 36 -/
def loessref1_GetText.j0 : Nat → List Int → Int → Int → Bool → Option (ByteArray × Int × Int)
  | 0, _, _, _, _ => none
  | k + 1, x0, x5, x6, x22 => if x22 = true then (some ((⟨#[]⟩ : ByteArray), 0, 1)) else (if (wrap64 ((x0.length : Int) - x6)) < x5 then (some ((⟨#[]⟩ : ByteArray), 0, 2)) else (if 0 ≤ x6 then (if x6 ≤ (wrap64 (x6 + x5)) then (if (wrap64 (x6 + x5)) ≤ (x0.length : Int) then (some (strOfNums ((x0.take ((wrap64 (x6 + x5)) : Int).toNat).drop (x6 : Int).toNat), wrap64 (x6 + x5), 0)) else (none)) else (none)) else (none)))
def loessref1_GetText.f (k : Nat) (l0 : List Int) : Option (ByteArray × Int × Int) := (loessref1_Get.f k l0).bind fun bt179 => (if bt179.2.2 = 0 then (if bt179.1 < 0 then (loessref1_GetText.j0 k l0 bt179.1 bt179.2.1 true) else (loessref1_GetText.j0 k l0 bt179.1 bt179.2.1 (decide (bt179.1 > 65536)))) else (some ((⟨#[]⟩ : ByteArray), 0, bt179.2.2)))
theorem loessref1_GetText.mono_l : ∀ k, (∀ y0 y1 y2 y3, LeO (loessref1_GetText.j0 k y0 y1 y2 y3) (loessref1_GetText.j0 (k + 1) y0 y1 y2 y3))
  | 0 => fun _ _ _ _ r h => by simp [loessref1_GetText.j0] at h
  | k + 1 => by
    have ih0 := loessref1_GetText.mono_l k
    · intro y0 y1 y2 y3
      unfold loessref1_GetText.j0
      repeat' first
      | (with_reducible exact ih0 _ _ _ _)
      | (with_reducible exact loessref1_Get.mono _ _)
      | (with_reducible exact LeO.refl _)
      | (with_reducible exact LeO.none _)
      | (with_reducible refine LeO.ite ?_ ?_)
      | (with_reducible refine LeO.bind ?_ (fun _ => ?_))
      | exact ih0 _ _ _ _
      | exact loessref1_Get.mono _ _
      | exact LeO.none _
      | refine LeO.ite ?_ ?_
      | refine LeO.bind ?_ (fun _ => ?_)
theorem loessref1_GetText.mono : ∀ a0 k, LeO (loessref1_GetText.f k a0) (loessref1_GetText.f (k + 1) a0) := by
  intro a0 k
  have ih0 := loessref1_GetText.mono_l k
  unfold loessref1_GetText.f
  repeat' first
      | (with_reducible exact ih0 _ _ _ _)
      | (with_reducible exact loessref1_Get.mono _ _)
      | (with_reducible exact LeO.refl _)
      | (with_reducible exact LeO.none _)
      | (with_reducible refine LeO.ite ?_ ?_)
      | (with_reducible refine LeO.bind ?_ (fun _ => ?_))
      | exact ih0 _ _ _ _
      | exact loessref1_Get.mono _ _
      | exact LeO.none _
      | refine LeO.ite ?_ ?_
      | refine LeO.bind ?_ (fun _ => ?_)
set_option maxHeartbeats 8000000 in
set_option maxRecDepth 100000 in
theorem loessref1_GetText.calls (k : Nat) (A0 : Option Addr) (c0 : Nat) (l0 : List Int) (r1 : ByteArray) (r2 : Int) (r3 : Int) (w : World) (hr0 : Kd.C (Kd.int .u8) w A0 l0.length l0) (hc0 : l0.length ≤ c0) (h : loessref1_GetText.f k l0 = some (r1, r2, r3)) :
    Calls Try.prog 36 #[.slice A0 l0.length c0] w fun e w' => e = .returned (.tuple #[.string r1, .int .i64 r2, .int .i64 r3]) ∧ Drawn0 w w' := by
  have HR0 := Aside0.mk hr0
  have HC0 := Aside0.mk hc0
  clear hr0 hc0
  have H : ((loessref1_Get.f k l0).bind fun bt179 => (if bt179.2.2 = 0 then (if bt179.1 < 0 then (loessref1_GetText.j0 k l0 bt179.1 bt179.2.1 true) else (loessref1_GetText.j0 k l0 bt179.1 bt179.2.1 (decide (bt179.1 > 65536)))) else (some ((⟨#[]⟩ : ByteArray), 0, bt179.2.2)))) = some (r1, r2, r3) := h
  clear h
  replace H := Option.bind_eq_some_iff.mp H
  obtain ⟨⟨t179, t180, t181⟩, A20, H⟩ := H
  replace H : (if t181 = 0 then (if t179 < 0 then (loessref1_GetText.j0 k l0 t179 t180 true) else (loessref1_GetText.j0 k l0 t179 t180 (decide (t179 > 65536)))) else (some ((⟨#[]⟩ : ByteArray), 0, t181))) = some (r1, r2, r3) := H
  have A2 := Aside0.mk A20
  clear A20
  by_cases c3 : t181 = 0
  · rw [if_pos c3] at H
    have c3b0 : (t181 == 0) = true := beq_iff_eq.mpr c3
    have c3b1 : (t181 != 0) = false := bne_eq_false_iff_eq.mpr c3
    clear c3
    have HC4 := Aside0.mk H
    clear H
    go_enter Try.func36, Try.ntmps36
    go_upto_region 4 with (first | ((with_reducible refine gate_callee (f := 35) rfl ?_); refine goesL_ (some 10) rfl rfl Try.func35 (by kernel_rfl) rfl #[.slice A0 l0.length c0] rfl (by (try simp only [List.map_toArray, List.map_cons, List.map_nil]); first | done | rfl | (simp only [List.length_drop, List.length_take]; rfl)) ?_; (with_reducible refine (loessref1_Get.calls k _ _ l0 t179 t180 t181 _ ?side1 ?side2 A2.out).mono ?_); (case side1 => repeat (first | exact HR0.out | (with_reducible refine Kd.C_alloc ?_ _) | (with_reducible refine Kd.C_drewN ?_ _) | (with_reducible refine Kd.C_drew ?_))); (case side2 => exact HC0.out); rintro e w' ⟨rfl, ⟨nd, rfl⟩⟩; refine ⟨_, rfl, ?_⟩))
    (try simp only [Act.put, List.setIfInBounds_toArray, List.set_cons_zero, List.set_cons_succ])
    go_cut [22] (fun v22 wc => ∃ (kq : Nat) (x22_3 : Bool), v22 = .bool x22_3 ∧ Aside0 (loessref1_GetText.j0 kq l0 t179 t180 x22_3 = some (r1, r2, r3)) ∧ Aside0 (kq ≤ k) ∧ Drawn0 w wc)
    case first =>
      have H := HC4.out
      clear HC4
      by_cases c5 : t179 < 0
      · rw [if_pos c5] at H
        have c5b0 : decide (t179 < 0) = true := decide_eq_true c5
        clear c5
        (first | rw [c5b0] | (simp only [i64_w, i32_w]; rw [c5b0]) | skip)
        have H' := Aside0.mk H
        clear H
        go_wp2
        go_meet
        case rel => exact ⟨_, (true), (by first | rfl | (simp; done) | (simp [*]; done)), H', ⟨by first | omega | exact Nat.le_refl _⟩, by repeat (first | exact Drawn0.refl _ | apply Drawn0.step)⟩
      · rw [if_neg c5] at H
        have c5b0 : decide (t179 < 0) = false := decide_eq_false c5
        clear c5
        (first | rw [c5b0] | (simp only [i64_w, i32_w]; rw [c5b0]) | skip)
        have H' := Aside0.mk H
        clear H
        go_wp2
        go_meet
        case rel => exact ⟨_, (decide (t179 > 65536)), (by first | rfl | (simp; done) | (simp [*]; done)), H', ⟨by first | omega | exact Nat.le_refl _⟩, by repeat (first | exact Drawn0.refl _ | apply Drawn0.step)⟩
    case rest =>
      clear HC4
      try clear p2
      try clear c3
      try clear c3b0
      try clear c3b1
      try clear c5
      try clear c5b0
      obtain ⟨kq, x22_3, rfl, HA, HJ3, ⟨mc3, rfl⟩⟩ := hcut
      cases kq with
      | zero => exact absurd HA.out (by simp [loessref1_GetText.j0])
      | succ kj3 =>
        have H := HA.out
        clear HA
        simp only [loessref1_GetText.j0] at H
        by_cases c6 : x22_3 = true
        · subst c6
          have H1 : (some ((⟨#[]⟩ : ByteArray), 0, 1)) = some (r1, r2, r3) := by rw [if_pos rfl] at H; exact H
          clear H
          have H := H1
          clear H1
          simp only [Option.some.injEq, Prod.mk.injEq] at H
          obtain ⟨rfl, rfl, rfl⟩ := H
          go_wp2
          go_ret3
          exact ⟨by first | rfl | (simp; done) | (simp [*]; done), by repeat (first | exact Drawn0.refl _ | apply Drawn0.step)⟩
        · replace c6 := Bool.eq_false_iff.mpr c6
          subst c6
          have H1 : (if (wrap64 ((l0.length : Int) - t180)) < t179 then (some ((⟨#[]⟩ : ByteArray), 0, 2)) else (if 0 ≤ t180 then (if t180 ≤ (wrap64 (t180 + t179)) then (if (wrap64 (t180 + t179)) ≤ (l0.length : Int) then (some (strOfNums ((l0.take ((wrap64 (t180 + t179)) : Int).toNat).drop (t180 : Int).toNat), wrap64 (t180 + t179), 0)) else (none)) else (none)) else (none))) = some (r1, r2, r3) := by rw [if_neg (show ¬ (false = true) by decide)] at H; exact H
          clear H
          have H := H1
          clear H1
          by_cases c7 : (wrap64 ((l0.length : Int) - t180)) < t179
          · rw [if_pos c7] at H
            have c7b0 : decide ((wrap64 ((l0.length : Int) - t180)) < t179) = true := decide_eq_true c7
            clear c7
            simp only [Option.some.injEq, Prod.mk.injEq] at H
            obtain ⟨rfl, rfl, rfl⟩ := H
            go_wp2
            go_ret3
            exact ⟨by first | rfl | (simp; done) | (simp [*]; done), by repeat (first | exact Drawn0.refl _ | apply Drawn0.step)⟩
          · rw [if_neg c7] at H
            have c7b0 : decide ((wrap64 ((l0.length : Int) - t180)) < t179) = false := decide_eq_false c7
            clear c7
            by_cases c8 : 0 ≤ t180
            · rw [if_pos c8] at H
              have c8b0 := eq_true c8
              have c8b1 : decide (0 ≤ t180) = true := decide_eq_true c8
              clear c8
              by_cases c9 : t180 ≤ (wrap64 (t180 + t179))
              · rw [if_pos c9] at H
                have c9b0 := eq_true c9
                have c9b1 : decide (t180 ≤ (wrap64 (t180 + t179))) = true := decide_eq_true c9
                by_cases c10 : (wrap64 (t180 + t179)) ≤ (l0.length : Int)
                · rw [if_pos c10] at H
                  have c10b0 := eq_true c10
                  have c10b1 : decide ((wrap64 (t180 + t179)) ≤ (l0.length : Int)) = true := decide_eq_true c10
                  obtain ⟨y182, hy182⟩ : ∃ y_ : List Int, y_ = ((l0.take ((wrap64 (t180 + t179)) : Int).toNat).drop (t180 : Int).toNat) := ⟨_, rfl⟩
                  replace H : (some (strOfNums y182, wrap64 (t180 + t179), 0)) = some (r1, r2, r3) := by first | (rw [hy182]; with_reducible exact H) | (have H2_ := (Option.bind_some _ _).symm.trans H; rw [hy182]; with_reducible exact H2_) | (have H2_ := (Option.bind_some _ _).symm.trans H; with_reducible exact H2_) | with_reducible exact H | (rw [hy182]; exact H) | exact H
                  have Ny182 := Aside0.mk hy182
                  clear hy182
                  simp only [Option.some.injEq, Prod.mk.injEq] at H
                  obtain ⟨rfl, rfl, rfl⟩ := H
                  have q11 : ((wrap64 (t180 + t179)) : Int) ≤ ((l0.length : Int) : Int) := of_decide_eq_true (by first | (with_reducible assumption) | assumption)
                  obtain ⟨i011, hi011, _, hsz11, _⟩ := info_parts info5
                  have hroom11 : l0.length ≤ c0 := HC0.out
                  have hC11 : Kd.C (Kd.int .u8) _ A0 l0.length l0 := HR0.out
                  have ql11 : (t180 : Int) ≤ ((wrap64 (t180 + t179)) : Int) := of_decide_eq_true (by first | (with_reducible assumption) | assumption)
                  have q011 : (0 : Int) ≤ (t180 : Int) := of_decide_eq_true (by first | (with_reducible assumption) | assumption)
                  have hcut11 := cut_mid (P := Try.prog) 40 5 .i64 .i64 Try.underlying40 hi011 1 hsz11 A0 l0.length c0 t180 (wrap64 (t180 + t179)) q011 ql11 q11 hroom11
                  have hr11 := Kd.C_mid (lo := (t180 : Int).toNat) (hi := ((wrap64 (t180 + t179)) : Int).toNat) (c := c0) hC11 (by omega) (by omega) hroom11
                  obtain ⟨A11, hA11⟩ : ∃ A1, A1 = (if c0 = (t180 : Int).toNat then A0 else (A0 : Option Addr).map (·.add ((t180 : Int).toNat * 1))) := ⟨_, rfl⟩
                  obtain ⟨c11, hc11⟩ : ∃ c1, c1 = c0 - (t180 : Int).toNat := ⟨_, rfl⟩
                  have hy11 : y182.length = ((wrap64 (t180 + t179)) : Int).toNat - (t180 : Int).toNat := (by rw [Ny182.out, List.length_drop, List.length_take] <;> omega)
                  rw [show ((l0).take ((wrap64 (t180 + t179)) : Int).toNat).drop (t180 : Int).toNat = y182 from Ny182.out.symm] at hr11
                  replace hr11 : Kd.C (Kd.int .u8) _ A11 y182.length y182 := (by rw [hA11]; exact hr11)
                  rw [← hy11, ← hA11, ← hc11] at hcut11
                  have HR185 := Aside0.mk hr11
                  have HC185 := Aside0.mk (show y182.length ≤ c11 from by rw [hy11, hc11]; exact Nat.sub_le_sub_right (Nat.le_trans (by omega) hroom11) _)
                  clear hr11 hC11 hroom11 hi011 hsz11 hc11
                  have KY11 := Aside0.mk hy11
                  have KA11 := Aside0.mk hA11
                  clear hy11 hA11
                  replace q11 := eq_true q11
                  have hcv12 := Kd.C_string (P := Try.prog) (A := A11) (c := c11) Try.underlying40 Try.underlying5 Try.underlying9 HR185.out
                  have hcvz12 := fun m_ : Nat => Kd.C_string (P := Try.prog) (A := A11) (c := c11) Try.underlying40 Try.underlying5 Try.underlying9 (Kd.C_drewN HR185.out m_)
                  go_wp2
                  go_ret3
                  exact ⟨by first | rfl | (simp; done) | (simp [*]; done), by repeat (first | exact Drawn0.refl _ | apply Drawn0.step)⟩
                · rw [if_neg c10] at H
                  exact absurd H (by simp)
              · rw [if_neg c9] at H
                exact absurd H (by simp)
            · rw [if_neg c8] at H
              exact absurd H (by simp)
  · rw [if_neg c3] at H
    have c3b0 : (t181 == 0) = false := beq_eq_false_iff_ne.mpr c3
    have c3b1 : (t181 != 0) = true := bne_iff_ne.mpr c3
    simp only [Option.some.injEq, Prod.mk.injEq] at H
    obtain ⟨rfl, rfl, rfl⟩ := H
    go_enter Try.func36, Try.ntmps36
    go_wp2_with (first | ((with_reducible refine gate_callee (f := 35) rfl ?_); refine goesL_ (some 10) rfl rfl Try.func35 (by kernel_rfl) rfl #[.slice A0 l0.length c0] rfl (by (try simp only [List.map_toArray, List.map_cons, List.map_nil]); first | done | rfl | (simp only [List.length_drop, List.length_take]; rfl)) ?_; (with_reducible refine (loessref1_Get.calls k _ _ l0 t179 t180 t181 _ ?side1 ?side2 A2.out).mono ?_); (case side1 => repeat (first | exact HR0.out | (with_reducible refine Kd.C_alloc ?_ _) | (with_reducible refine Kd.C_drewN ?_ _) | (with_reducible refine Kd.C_drew ?_))); (case side2 => exact HC0.out); rintro e w' ⟨rfl, ⟨nd, rfl⟩⟩; refine ⟨_, rfl, ?_⟩))
    go_ret3
    exact ⟨by first | rfl | (simp; done) | (simp [*]; done), by repeat (first | exact Drawn0.refl _ | apply Drawn0.step)⟩

end Go.Proofs.Ytbeoegdkoodlfaa.XVaa
