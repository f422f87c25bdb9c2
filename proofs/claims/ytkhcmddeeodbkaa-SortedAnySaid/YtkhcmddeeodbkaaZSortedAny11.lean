import Derived.Test.YtkhcmddeeodbkaaZSortedAny9
import Derived.Test.YtkhcmddeeodbkaaZSortedAny10
-- Own texts and, of the words that the kit's print program wrote for this claim, those that are needed here: put together by wip/prune.py.
set_option linter.unusedSimpArgs false
set_option linter.unusedVariables false
namespace Go.Proofs.Ytkhcmddeeodbkaa.XSor
open Go.RowKit Go.Proofs.Ytkhcmddeeodbkaa.G Go.Proofs.YtkhcmddeeodbkaaW.PrintWords Go.Proofs.YtkhcmddeeodbkaaW.PrintLast Go.Proofs.YtkhcmddeeodbkaaW.PrintMore
attribute [local go_sem] max2_int min2_int max_two min_two max_three min_three max_four min_four
def loessref1_PutVal.f (k : Nat) (a0_0 : Int) (a0_1 : Int) (a0_2 : ByteArray) : Option (List Int) := (loessref1_Put.f k a0_0).bind fun t322 => (if a0_0 = 1 then ((loessref1_Put.f k a0_1).bind fun t325 => (if t322.length + t325.length < 140737488355328 then (some (t322 ++ t325)) else (none))) else ((loessref1_PutText.f k a0_2).bind fun t331 => (if t322.length + t331.length < 140737488355328 then (some (t322 ++ t331)) else (none))))
theorem loessref1_PutVal.mono : ∀ a0 a1 a2 k, LeO (loessref1_PutVal.f k a0 a1 a2) (loessref1_PutVal.f (k + 1) a0 a1 a2) := by
  intro a0 a1 a2 k
  unfold loessref1_PutVal.f
  repeat' first
      | (with_reducible exact loessref1_Put.mono _ _)
      | (with_reducible exact loessref1_PutText.mono _ _)
      | (with_reducible exact LeO.refl _)
      | (with_reducible exact LeO.none _)
      | (with_reducible refine LeO.ite ?_ ?_)
      | (with_reducible refine LeO.bind ?_ (fun _ => ?_))
      | exact loessref1_Put.mono _ _
      | exact loessref1_PutText.mono _ _
      | exact LeO.none _
      | refine LeO.ite ?_ ?_
      | refine LeO.bind ?_ (fun _ => ?_)
set_option maxHeartbeats 8000000 in
set_option maxRecDepth 100000 in
theorem loessref1_PutVal.calls (k : Nat) (a0_0 : Int) (a0_1 : Int) (a0_2 : ByteArray) (r : List Int) (w : World) (h : loessref1_PutVal.f k a0_0 a0_1 a0_2 = some r) :
    Calls Try.prog 73 #[.agg #[.int .i64 a0_0, .int .i64 a0_1, .string a0_2]] w fun e w' => ∃ v0_ : Value, e = .returned (v0_) ∧ Kd.R (Kd.int .u8) 5 w' w.heap.size (fun _ => True) v0_ r ∧ Below w.heap.size w w' := by
  have hu25 := Try.underlying25
  have HB := Aside0.mk (Below.refl w.heap.size w)
  have H : ((loessref1_Put.f k a0_0).bind fun t322 => (if a0_0 = 1 then ((loessref1_Put.f k a0_1).bind fun t325 => (if t322.length + t325.length < 140737488355328 then (some (t322 ++ t325)) else (none))) else ((loessref1_PutText.f k a0_2).bind fun t331 => (if t322.length + t331.length < 140737488355328 then (some (t322 ++ t331)) else (none))))) = some r := h
  clear h
  replace H := Option.bind_eq_some_iff.mp H
  obtain ⟨t322, A20, H⟩ := H
  replace H : (if a0_0 = 1 then ((loessref1_Put.f k a0_1).bind fun t325 => (if t322.length + t325.length < 140737488355328 then (some (t322 ++ t325)) else (none))) else ((loessref1_PutText.f k a0_2).bind fun t331 => (if t322.length + t331.length < 140737488355328 then (some (t322 ++ t331)) else (none)))) = some r := H
  have A2 := Aside0.mk A20
  clear A20
  by_cases c3 : a0_0 = 1
  · rw [if_pos c3] at H
    have c3b0 : (a0_0 == 1) = true := beq_iff_eq.mpr c3
    have c3b1 : (a0_0 != 1) = false := bne_eq_false_iff_eq.mpr c3
    clear c3
    replace H := Option.bind_eq_some_iff.mp H
    obtain ⟨t325, A40, H⟩ := H
    replace H : (if t322.length + t325.length < 140737488355328 then (some (t322 ++ t325)) else (none)) = some r := H
    have A4 := Aside0.mk A40
    clear A40
    by_cases c5 : t322.length + t325.length < 140737488355328
    · rw [if_pos c5] at H
      have LMc5 := Aside0.mk c5
      clear c5
      obtain ⟨y328, hy328⟩ : ∃ y_ : List Int, y_ = (t322 ++ t325) := ⟨_, rfl⟩
      replace H : (some y328) = some r := by first | (rw [hy328]; with_reducible exact H) | (have H2_ := (Option.bind_some _ _).symm.trans H; rw [hy328]; with_reducible exact H2_) | (have H2_ := (Option.bind_some _ _).symm.trans H; with_reducible exact H2_) | with_reducible exact H | (rw [hy328]; exact H) | exact H
      have Ny328 := Aside0.mk hy328
      clear hy328
      obtain rfl := Option.some.inj H
      go_enter Try.func73, Try.ntmps73
      go_wp2_with (first | ((with_reducible refine gate_dst (N := 1) rfl ?_); refine box_event ?hg (N := 1) ?hd (cs := #[.int .i64 a0_0, .int .i64 a0_1, .string a0_2]) (t := 25) ?hr ?_; (case hd => rfl); (case hg => rfl); (case hr => first | (go_simp; done) | (go_simp; rfl)); intro gb321 hg w6 hbox hb; have n0_ := Aside0.mk (below_step (by repeat (first | (with_reducible first | exact HB.out | apply below_alloc | apply pw_below_drewN | apply below_drew1) | exact HB.out)) hb); have n1_ := Aside0.mk (hbox); have n2_ := Aside0.mk ((by rw [hg]; exact (below_size (by repeat (first | (with_reducible first | exact HB.out | apply below_alloc | apply pw_below_drewN | apply below_drew1) | exact HB.out))) : w.heap.size ≤ gb321)); have n3_ := Aside0.mk ((by rw [hg]; exact (below_size (by repeat (first | (with_reducible first | exact HB.out | apply below_alloc | apply pw_below_drewN | apply below_drew1) | exact HB.out))) : w.heap.size ≤ gb321)); clear HB; have HB := n0_; have BK321 := n1_; have GW321 := n2_; have GE321 := n3_; clear n0_ n1_ n2_ n3_; clear hb hbox hg; have hcz7_0 : w6.cell? ⟨gb321, 0, none⟩ = some (.int .i64 a0_0) := (blk_cell BK321.out 0).trans rfl; have hcz7_1 : w6.cell? ⟨gb321, 1, none⟩ = some (.int .i64 a0_1) := (blk_cell BK321.out 1).trans rfl; have hcz7_2 : w6.cell? ⟨gb321, 2, none⟩ = some (.string a0_2) := (blk_cell BK321.out 2).trans rfl; have hfz7_0 := blk_frozen BK321.out 0; have hfz7_1 := blk_frozen BK321.out 1; have hfz7_2 := blk_frozen BK321.out 2) | ((with_reducible refine gate_callee (f := 53) rfl ?_); refine goesL_ (some 6) rfl rfl Try.func53 (by kernel_rfl) rfl #[.int .i64 a0_0] rfl (by (try simp only [List.map_toArray, List.map_cons, List.map_nil]); first | done | rfl | (simp only [List.length_drop, List.length_take]; rfl)) ?_; (with_reducible refine (loessref1_Put.calls k a0_0 t322 _ A2.out).mono ?_); rintro e w8 ⟨v323, rfl, ho0, hb⟩; refine ⟨_, rfl, ?_⟩; have n0_ := Aside0.mk (Kd.R_lower ho0 (below_size (by repeat (first | (with_reducible first | exact HB.out | apply below_alloc | apply pw_below_drewN | apply below_drew1 | refine below_set ?_ GE321.out) | exact HB.out)))); have n1_ := Aside0.mk (blk_below (g := gb321) (o := .cells #[.int .i64 a0_0, .int .i64 a0_1, .string a0_2] 25 (0, 0)) (by (with_reducible repeat (first | refine blk_drewN ?_ _ | refine blk_drew ?_ | refine blk_alloc ?_ _)); exact BK321.out) hb); have n2_ := Aside0.mk (below_step (by repeat (first | (with_reducible first | exact HB.out | apply below_alloc | apply pw_below_drewN | apply below_drew1 | refine below_set ?_ GE321.out) | exact HB.out)) hb); clear BK321; clear HB; have HO324 := n0_; have BK321 := n1_; have HB := n2_; clear n0_ n1_ n2_; (try clear hb); (try clear hb2); (try clear hk); (try clear hi); (try clear ho0); have hcz9_0 : w8.cell? ⟨gb321, 0, none⟩ = some (.int .i64 a0_0) := (blk_cell BK321.out 0).trans rfl; have hcz9_1 : w8.cell? ⟨gb321, 1, none⟩ = some (.int .i64 a0_1) := (blk_cell BK321.out 1).trans rfl; have hcz9_2 : w8.cell? ⟨gb321, 2, none⟩ = some (.string a0_2) := (blk_cell BK321.out 2).trans rfl; have hfz9_0 := blk_frozen BK321.out 0; have hfz9_1 := blk_frozen BK321.out 1; have hfz9_2 := blk_frozen BK321.out 2) | ((with_reducible refine gate_callee (f := 53) rfl ?_); refine goesL_ (some 13) rfl rfl Try.func53 (by kernel_rfl) rfl #[.int .i64 a0_1] rfl (by (try simp only [List.map_toArray, List.map_cons, List.map_nil]); first | done | rfl | (simp only [List.length_drop, List.length_take]; rfl)) ?_; (with_reducible refine (loessref1_Put.calls k a0_1 t325 _ A4.out).mono ?_); rintro e w10 ⟨v326, rfl, ho0, hb⟩; refine ⟨_, rfl, ?_⟩; have n0_ := Aside0.mk (Kd.R_elder' (by (with_reducible repeat (first | apply Kd.R_alloc | apply Kd.R_drewN | apply Kd.R_drew)); exact HO324.out) (Kd.R_base ho0) hb); have n1_ := Aside0.mk (Kd.R_lower (Kd.R_new' ho0 (Kd.R_lt (by (with_reducible repeat (first | apply Kd.R_alloc | apply Kd.R_drewN | apply Kd.R_drew)); exact HO324.out))) (below_size (by repeat (first | (with_reducible first | exact HB.out | apply below_alloc | apply pw_below_drewN | apply below_drew1 | refine below_set ?_ GE321.out) | exact HB.out)))); have n2_ := Aside0.mk (blk_below (g := gb321) (o := .cells #[.int .i64 a0_0, .int .i64 a0_1, .string a0_2] 25 (0, 0)) (by (with_reducible repeat (first | refine blk_drewN ?_ _ | refine blk_drew ?_ | refine blk_alloc ?_ _)); exact BK321.out) hb); have n3_ := Aside0.mk (below_step (by repeat (first | (with_reducible first | exact HB.out | apply below_alloc | apply pw_below_drewN | apply below_drew1 | refine below_set ?_ GE321.out) | exact HB.out)) hb); clear HO324; clear BK321; clear HB; have HO324 := n0_; have HO327 := n1_; have BK321 := n2_; have HB := n3_; clear n0_ n1_ n2_ n3_; (try clear hb); (try clear hb2); (try clear hk); (try clear hi); (try clear ho0); obtain ⟨Ao12, co12, eo12⟩ := Kd.R_slice HO327.out; subst eo12) | ((with_reducible refine gate_builtin (b := .append) (xs := #[.tmp 10, .tmp 13]) rfl ?_); at_builtin; refine Kd.R_append_rows (Kd.int .u8) (w0 := w) w.heap.size rfl (.tmp 10) (.tmp 13) 40 5 (.int .u8 0) 1 rfl Try.underlying40 info5 rfl (by decide) (by omega) v323 t322 t325 _ _ _ (fun k_ => some k_ ≠ (.slice Ao12 t325.length co12 : Value).ownBlock) (fun _ => False) rfl rfl ?aO ?aR (fun _ _ h => h) (fun _ h => h.elim) ?aF ?aB ?aS ?aL ?_; (case aR => repeat (first | exact (Kd.R_reads' HO327.out).2.2 | (with_reducible refine Kd.C_alloc ?_ _) | (with_reducible refine Kd.C_drewN ?_ _) | (with_reducible refine Kd.C_drew ?_))); (case aB => exact (by repeat (first | (with_reducible first | exact HB.out | apply below_alloc | apply pw_below_drewN | apply below_drew1 | refine below_set ?_ GE321.out) | exact HB.out))); (case aF => exact (fun k_ hk => Kd.fresh' (Kd.R_lt (by (with_reducible repeat (first | apply Kd.R_alloc | apply Kd.R_drewN | apply Kd.R_drew)); exact HO327.out)) k_ hk)); (case aO => exact (by (with_reducible repeat (first | apply Kd.R_alloc | apply Kd.R_drewN | apply Kd.R_drew)); exact Kd.R_mono HO324.out (fun _ hk => hk.2))); (case aS => exact (below_size (by repeat (first | (with_reducible first | exact HB.out | apply below_alloc | apply pw_below_drewN | apply below_drew1 | refine below_set ?_ GE321.out) | exact HB.out)))); (case aL => have := LMc5.out; omega); intro v329 w11 ho hb hg hat; rw [← Ny328.out] at ho; have n0_ := Aside0.mk (blk_grown (g := gb321) (o := .cells #[.int .i64 a0_0, .int .i64 a0_1, .string a0_2] 25 (0, 0)) (by (with_reducible repeat (first | refine blk_drewN ?_ _ | refine blk_drew ?_ | refine blk_alloc ?_ _)); exact BK321.out) hg (Kd.R_ne HO324.out BK321.out (by decide))); have n1_ := Aside0.mk (Kd.R_after (ok := (fun _ => True)) (by (with_reducible repeat (first | apply Kd.R_alloc | apply Kd.R_drewN | apply Kd.R_drew)); exact HO327.out) hg hat); have n2_ := Aside0.mk (hb); have n3_ := Aside0.mk (ho); clear BK321; clear HO327; clear HB; clear HO324; have BK321 := n0_; have HO327 := n1_; have HB := n2_; have HO330 := n3_; clear n0_ n1_ n2_ n3_; clear ho hb hg hat))
      go_ret
      exact ⟨_, by first | rfl | (simp [errW_none, errW_some] <;> rfl) | (simp [*, errW_none, errW_some] <;> rfl), by (with_reducible repeat (first | apply Kd.R_alloc | apply Kd.R_drewN | apply Kd.R_drew)); exact Kd.R_mono HO330.out (fun _ hk => trivial), by repeat (first | (with_reducible first | exact HB.out | apply below_alloc | apply pw_below_drewN | apply below_drew1 | refine below_set ?_ GE321.out) | exact HB.out)⟩
    · rw [if_neg c5] at H
      exact absurd H (by simp)
  · rw [if_neg c3] at H
    have c3b0 : (a0_0 == 1) = false := beq_eq_false_iff_ne.mpr c3
    have c3b1 : (a0_0 != 1) = true := bne_iff_ne.mpr c3
    replace H := Option.bind_eq_some_iff.mp H
    obtain ⟨t331, A130, H⟩ := H
    replace H : (if t322.length + t331.length < 140737488355328 then (some (t322 ++ t331)) else (none)) = some r := H
    have A13 := Aside0.mk A130
    clear A130
    by_cases c14 : t322.length + t331.length < 140737488355328
    · rw [if_pos c14] at H
      have LMc14 := Aside0.mk c14
      clear c14
      obtain ⟨y334, hy334⟩ : ∃ y_ : List Int, y_ = (t322 ++ t331) := ⟨_, rfl⟩
      replace H : (some y334) = some r := by first | (rw [hy334]; with_reducible exact H) | (have H2_ := (Option.bind_some _ _).symm.trans H; rw [hy334]; with_reducible exact H2_) | (have H2_ := (Option.bind_some _ _).symm.trans H; with_reducible exact H2_) | with_reducible exact H | (rw [hy334]; exact H) | exact H
      have Ny334 := Aside0.mk hy334
      clear hy334
      obtain rfl := Option.some.inj H
      go_enter Try.func73, Try.ntmps73
      go_wp2_with (first | ((with_reducible refine gate_dst (N := 1) rfl ?_); refine box_event ?hg (N := 1) ?hd (cs := #[.int .i64 a0_0, .int .i64 a0_1, .string a0_2]) (t := 25) ?hr ?_; (case hd => rfl); (case hg => rfl); (case hr => first | (go_simp; done) | (go_simp; rfl)); intro gb321 hg w15 hbox hb; have n0_ := Aside0.mk (below_step (by repeat (first | (with_reducible first | exact HB.out | apply below_alloc | apply pw_below_drewN | apply below_drew1) | exact HB.out)) hb); have n1_ := Aside0.mk (hbox); have n2_ := Aside0.mk ((by rw [hg]; exact (below_size (by repeat (first | (with_reducible first | exact HB.out | apply below_alloc | apply pw_below_drewN | apply below_drew1) | exact HB.out))) : w.heap.size ≤ gb321)); have n3_ := Aside0.mk ((by rw [hg]; exact (below_size (by repeat (first | (with_reducible first | exact HB.out | apply below_alloc | apply pw_below_drewN | apply below_drew1) | exact HB.out))) : w.heap.size ≤ gb321)); clear HB; have HB := n0_; have BK321 := n1_; have GW321 := n2_; have GE321 := n3_; clear n0_ n1_ n2_ n3_; clear hb hbox hg; have hcz16_0 : w15.cell? ⟨gb321, 0, none⟩ = some (.int .i64 a0_0) := (blk_cell BK321.out 0).trans rfl; have hcz16_1 : w15.cell? ⟨gb321, 1, none⟩ = some (.int .i64 a0_1) := (blk_cell BK321.out 1).trans rfl; have hcz16_2 : w15.cell? ⟨gb321, 2, none⟩ = some (.string a0_2) := (blk_cell BK321.out 2).trans rfl; have hfz16_0 := blk_frozen BK321.out 0; have hfz16_1 := blk_frozen BK321.out 1; have hfz16_2 := blk_frozen BK321.out 2) | ((with_reducible refine gate_callee (f := 53) rfl ?_); refine goesL_ (some 6) rfl rfl Try.func53 (by kernel_rfl) rfl #[.int .i64 a0_0] rfl (by (try simp only [List.map_toArray, List.map_cons, List.map_nil]); first | done | rfl | (simp only [List.length_drop, List.length_take]; rfl)) ?_; (with_reducible refine (loessref1_Put.calls k a0_0 t322 _ A2.out).mono ?_); rintro e w17 ⟨v323, rfl, ho0, hb⟩; refine ⟨_, rfl, ?_⟩; have n0_ := Aside0.mk (Kd.R_lower ho0 (below_size (by repeat (first | (with_reducible first | exact HB.out | apply below_alloc | apply pw_below_drewN | apply below_drew1 | refine below_set ?_ GE321.out) | exact HB.out)))); have n1_ := Aside0.mk (blk_below (g := gb321) (o := .cells #[.int .i64 a0_0, .int .i64 a0_1, .string a0_2] 25 (0, 0)) (by (with_reducible repeat (first | refine blk_drewN ?_ _ | refine blk_drew ?_ | refine blk_alloc ?_ _)); exact BK321.out) hb); have n2_ := Aside0.mk (below_step (by repeat (first | (with_reducible first | exact HB.out | apply below_alloc | apply pw_below_drewN | apply below_drew1 | refine below_set ?_ GE321.out) | exact HB.out)) hb); clear BK321; clear HB; have HO324 := n0_; have BK321 := n1_; have HB := n2_; clear n0_ n1_ n2_; (try clear hb); (try clear hb2); (try clear hk); (try clear hi); (try clear ho0); have hcz18_0 : w17.cell? ⟨gb321, 0, none⟩ = some (.int .i64 a0_0) := (blk_cell BK321.out 0).trans rfl; have hcz18_1 : w17.cell? ⟨gb321, 1, none⟩ = some (.int .i64 a0_1) := (blk_cell BK321.out 1).trans rfl; have hcz18_2 : w17.cell? ⟨gb321, 2, none⟩ = some (.string a0_2) := (blk_cell BK321.out 2).trans rfl; have hfz18_0 := blk_frozen BK321.out 0; have hfz18_1 := blk_frozen BK321.out 1; have hfz18_2 := blk_frozen BK321.out 2) | ((with_reducible refine gate_callee (f := 72) rfl ?_); refine goesL_ (some 18) rfl rfl Try.func72 (by kernel_rfl) rfl #[.string a0_2] rfl (by (try simp only [List.map_toArray, List.map_cons, List.map_nil]); first | done | rfl | (simp only [List.length_drop, List.length_take]; rfl)) ?_; (with_reducible refine (loessref1_PutText.calls k a0_2 t331 _ A13.out).mono ?_); rintro e w19 ⟨v332, rfl, ho0, hb⟩; refine ⟨_, rfl, ?_⟩; have n0_ := Aside0.mk (Kd.R_elder' (by (with_reducible repeat (first | apply Kd.R_alloc | apply Kd.R_drewN | apply Kd.R_drew)); exact HO324.out) (Kd.R_base ho0) hb); have n1_ := Aside0.mk (Kd.R_lower (Kd.R_new' ho0 (Kd.R_lt (by (with_reducible repeat (first | apply Kd.R_alloc | apply Kd.R_drewN | apply Kd.R_drew)); exact HO324.out))) (below_size (by repeat (first | (with_reducible first | exact HB.out | apply below_alloc | apply pw_below_drewN | apply below_drew1 | refine below_set ?_ GE321.out) | exact HB.out)))); have n2_ := Aside0.mk (blk_below (g := gb321) (o := .cells #[.int .i64 a0_0, .int .i64 a0_1, .string a0_2] 25 (0, 0)) (by (with_reducible repeat (first | refine blk_drewN ?_ _ | refine blk_drew ?_ | refine blk_alloc ?_ _)); exact BK321.out) hb); have n3_ := Aside0.mk (below_step (by repeat (first | (with_reducible first | exact HB.out | apply below_alloc | apply pw_below_drewN | apply below_drew1 | refine below_set ?_ GE321.out) | exact HB.out)) hb); clear HO324; clear BK321; clear HB; have HO324 := n0_; have HO333 := n1_; have BK321 := n2_; have HB := n3_; clear n0_ n1_ n2_ n3_; (try clear hb); (try clear hb2); (try clear hk); (try clear hi); (try clear ho0); obtain ⟨Ao21, co21, eo21⟩ := Kd.R_slice HO333.out; subst eo21) | ((with_reducible refine gate_builtin (b := .append) (xs := #[.tmp 15, .tmp 18]) rfl ?_); at_builtin; refine Kd.R_append_rows (Kd.int .u8) (w0 := w) w.heap.size rfl (.tmp 15) (.tmp 18) 40 5 (.int .u8 0) 1 rfl Try.underlying40 info5 rfl (by decide) (by omega) v323 t322 t331 _ _ _ (fun k_ => some k_ ≠ (.slice Ao21 t331.length co21 : Value).ownBlock) (fun _ => False) rfl rfl ?aO ?aR (fun _ _ h => h) (fun _ h => h.elim) ?aF ?aB ?aS ?aL ?_; (case aR => repeat (first | exact (Kd.R_reads' HO333.out).2.2 | (with_reducible refine Kd.C_alloc ?_ _) | (with_reducible refine Kd.C_drewN ?_ _) | (with_reducible refine Kd.C_drew ?_))); (case aB => exact (by repeat (first | (with_reducible first | exact HB.out | apply below_alloc | apply pw_below_drewN | apply below_drew1 | refine below_set ?_ GE321.out) | exact HB.out))); (case aF => exact (fun k_ hk => Kd.fresh' (Kd.R_lt (by (with_reducible repeat (first | apply Kd.R_alloc | apply Kd.R_drewN | apply Kd.R_drew)); exact HO333.out)) k_ hk)); (case aO => exact (by (with_reducible repeat (first | apply Kd.R_alloc | apply Kd.R_drewN | apply Kd.R_drew)); exact Kd.R_mono HO324.out (fun _ hk => hk.2))); (case aS => exact (below_size (by repeat (first | (with_reducible first | exact HB.out | apply below_alloc | apply pw_below_drewN | apply below_drew1 | refine below_set ?_ GE321.out) | exact HB.out)))); (case aL => have := LMc14.out; omega); intro v335 w20 ho hb hg hat; rw [← Ny334.out] at ho; have n0_ := Aside0.mk (blk_grown (g := gb321) (o := .cells #[.int .i64 a0_0, .int .i64 a0_1, .string a0_2] 25 (0, 0)) (by (with_reducible repeat (first | refine blk_drewN ?_ _ | refine blk_drew ?_ | refine blk_alloc ?_ _)); exact BK321.out) hg (Kd.R_ne HO324.out BK321.out (by decide))); have n1_ := Aside0.mk (Kd.R_after (ok := (fun _ => True)) (by (with_reducible repeat (first | apply Kd.R_alloc | apply Kd.R_drewN | apply Kd.R_drew)); exact HO333.out) hg hat); have n2_ := Aside0.mk (hb); have n3_ := Aside0.mk (ho); clear BK321; clear HO333; clear HB; clear HO324; have BK321 := n0_; have HO333 := n1_; have HB := n2_; have HO336 := n3_; clear n0_ n1_ n2_ n3_; clear ho hb hg hat))
      go_ret
      exact ⟨_, by first | rfl | (simp [errW_none, errW_some] <;> rfl) | (simp [*, errW_none, errW_some] <;> rfl), by (with_reducible repeat (first | apply Kd.R_alloc | apply Kd.R_drewN | apply Kd.R_drew)); exact Kd.R_mono HO336.out (fun _ hk => trivial), by repeat (first | (with_reducible first | exact HB.out | apply below_alloc | apply pw_below_drewN | apply below_drew1 | refine below_set ?_ GE321.out) | exact HB.out)⟩
    · rw [if_neg c14] at H
      exact absurd H (by simp)
end Go.Proofs.Ytkhcmddeeodbkaa.XSor
namespace Go.Proofs.Ytkhcmddeeodbkaa.XSor
open Go.RowKit Go.Proofs.Ytkhcmddeeodbkaa.G Go.Proofs.YtkhcmddeeodbkaaW.PrintWords Go.Proofs.YtkhcmddeeodbkaaW.PrintLast Go.Proofs.YtkhcmddeeodbkaaW.PrintMore
attribute [local go_sem] max2_int min2_int max_two min_two max_three min_three max_four min_four
def loesslaw3_Cut.f (a0 : ByteArray) (a1 : Int) : Option (ByteArray) := if (a0.size : Int) > a1 then (if 0 ≤ a1 then (if a1 ≤ (a0.size : Int) then (some (a0.extract 0 (a1 : Int).toNat)) else (none)) else (none)) else (some a0)
set_option maxHeartbeats 8000000 in
set_option maxRecDepth 100000 in
theorem loesslaw3_Cut.calls (a0 : ByteArray) (a1 : Int) (r : ByteArray) (w : World) (h : loesslaw3_Cut.f a0 a1 = some r) :
    Calls Try.prog 12 #[.string a0, .int .i64 a1] w fun e w' => e = .returned (.string r) ∧ Drawn0 w w' := by
  have H : (if (a0.size : Int) > a1 then (if 0 ≤ a1 then (if a1 ≤ (a0.size : Int) then (some (a0.extract 0 (a1 : Int).toNat)) else (none)) else (none)) else (some a0)) = some r := h
  clear h
  by_cases c3 : (a0.size : Int) > a1
  · rw [if_pos c3] at H
    have c3b0 : decide (a1 < (a0.size : Int)) = true := decide_eq_true c3
    clear c3
    by_cases c4 : 0 ≤ a1
    · rw [if_pos c4] at H
      have c4b0 := eq_true c4
      have c4b1 : decide (0 ≤ a1) = true := decide_eq_true c4
      clear c4
      by_cases c5 : a1 ≤ (a0.size : Int)
      · rw [if_pos c5] at H
        have c5b0 := eq_true c5
        have c5b1 : decide (a1 ≤ (a0.size : Int)) = true := decide_eq_true c5
        clear c5
        obtain rfl := Option.some.inj H
        go_enter Try.func12, Try.ntmps12
        go_wp2
        go_ret
        exact ⟨by first | rfl | (simp; done) | (simp [*]; done), by repeat (first | exact Drawn0.refl _ | apply Drawn0.step)⟩
      · rw [if_neg c5] at H
        exact absurd H (by simp)
    · rw [if_neg c4] at H
      exact absurd H (by simp)
  · rw [if_neg c3] at H
    have c3b0 : decide (a1 < (a0.size : Int)) = false := decide_eq_false c3
    clear c3
    obtain rfl := Option.some.inj H
    go_enter Try.func12, Try.ntmps12
    go_wp2
    go_ret
    exact ⟨by first | rfl | (simp; done) | (simp [*]; done), by repeat (first | exact Drawn0.refl _ | apply Drawn0.step)⟩
end Go.Proofs.Ytkhcmddeeodbkaa.XSor
namespace Go.Proofs.Ytkhcmddeeodbkaa.XSor
open Go.RowKit Go.Proofs.Ytkhcmddeeodbkaa.G Go.Proofs.YtkhcmddeeodbkaaW.PrintWords Go.Proofs.YtkhcmddeeodbkaaW.PrintLast Go.Proofs.YtkhcmddeeodbkaaW.PrintMore
attribute [local go_sem] max2_int min2_int max_two min_two max_three min_three max_four min_four
def loesslaw4_Cut.f (a0_0 : Int) (a0_1 : Int) (a0_2 : ByteArray) : Option (Int × Int × ByteArray) := (loesslaw3_Cut.f a0_2 30).bind fun t137 => (some (a0_0, a0_1, t137))
set_option maxHeartbeats 8000000 in
set_option maxRecDepth 100000 in
theorem loesslaw4_Cut.calls (a0_0 : Int) (a0_1 : Int) (a0_2 : ByteArray) (r1 : Int) (r2 : Int) (r3 : ByteArray) (w : World) (h : loesslaw4_Cut.f a0_0 a0_1 a0_2 = some (r1, r2, r3)) :
    Calls Try.prog 28 #[.agg #[.int .i64 a0_0, .int .i64 a0_1, .string a0_2]] w fun e w' => e = .returned (.agg #[.int .i64 r1, .int .i64 r2, .string r3]) ∧ Below w.heap.size w w' := by
  have hu25 := Try.underlying25
  have HB := Aside0.mk (Below.refl w.heap.size w)
  have H : ((loesslaw3_Cut.f a0_2 30).bind fun t137 => (some (a0_0, a0_1, t137))) = some (r1, r2, r3) := h
  clear h
  replace H := Option.bind_eq_some_iff.mp H
  obtain ⟨t137, A20, H⟩ := H
  replace H : (some (a0_0, a0_1, t137)) = some (r1, r2, r3) := H
  have A2 := Aside0.mk A20
  clear A20
  simp only [Option.some.injEq, Prod.mk.injEq] at H
  obtain ⟨rfl, rfl, rfl⟩ := H
  go_enter Try.func28, Try.ntmps28
  go_wp2_with (first | ((with_reducible refine gate_dst (N := 1) rfl ?_); refine box_event ?hg (N := 1) ?hd (cs := #[.int .i64 a0_0, .int .i64 a0_1, .string a0_2]) (t := 25) ?hr ?_; (case hd => rfl); (case hg => rfl); (case hr => first | (go_simp; done) | (go_simp; rfl)); intro gb135 hg w3 hbox hb; have n0_ := Aside0.mk (below_step (by repeat (first | (with_reducible first | exact HB.out | apply below_alloc | apply pw_below_drewN | apply below_drew1) | exact HB.out)) hb); have n1_ := Aside0.mk (hbox); have n2_ := Aside0.mk ((by rw [hg]; exact (below_size (by repeat (first | (with_reducible first | exact HB.out | apply below_alloc | apply pw_below_drewN | apply below_drew1) | exact HB.out))) : w.heap.size ≤ gb135)); have n3_ := Aside0.mk ((by rw [hg]; exact (below_size (by repeat (first | (with_reducible first | exact HB.out | apply below_alloc | apply pw_below_drewN | apply below_drew1) | exact HB.out))) : w.heap.size ≤ gb135)); clear HB; have HB := n0_; have BK135 := n1_; have GW135 := n2_; have GE135 := n3_; clear n0_ n1_ n2_ n3_; clear hb hbox hg) | ((with_reducible refine gate_dst (N := 2) rfl ?_); refine box_event ?hg (N := 2) ?hd (cs := #[.int .i64 0, .int .i64 0, .string (⟨#[]⟩ : ByteArray)]) (t := 25) ?hr ?_; (case hd => rfl); (case hg => rfl); (case hr => first | (go_simp; done) | (go_simp; rfl)); intro gb136 hg w4 hbox hb; have n0_ := Aside0.mk (blk_below (g := gb135) (o := .cells #[.int .i64 a0_0, .int .i64 a0_1, .string a0_2] 25 (0, 0)) (by (with_reducible repeat (first | refine blk_drewN ?_ _ | refine blk_drew ?_ | refine blk_alloc ?_ _)); exact BK135.out) hb); have n1_ := Aside0.mk (below_step (by repeat (first | (with_reducible first | exact HB.out | apply below_alloc | apply pw_below_drewN | apply below_drew1 | refine below_set ?_ GE135.out) | exact HB.out)) hb); have n2_ := Aside0.mk (hbox); have n3_ := Aside0.mk ((by rw [hg]; exact (below_size (by repeat (first | (with_reducible first | exact HB.out | apply below_alloc | apply pw_below_drewN | apply below_drew1 | refine below_set ?_ GE135.out) | exact HB.out))) : w.heap.size ≤ gb136)); have n4_ := Aside0.mk ((by rw [hg]; exact (below_size (by repeat (first | (with_reducible first | exact HB.out | apply below_alloc | apply pw_below_drewN | apply below_drew1 | refine below_set ?_ GE135.out) | exact HB.out))) : w.heap.size ≤ gb136)); have n5_ := Aside0.mk ((by rw [hg]; exact Nat.ne_of_lt (blk_lt (g := gb135) (o := .cells #[.int .i64 a0_0, .int .i64 a0_1, .string a0_2] 25 (0, 0)) (by (with_reducible repeat (first | refine blk_drewN ?_ _ | refine blk_drew ?_ | refine blk_alloc ?_ _)); exact BK135.out)) : gb135 ≠ gb136)); have n6_ := Aside0.mk ((by rw [hg]; exact Nat.ne_of_gt (blk_lt (g := gb135) (o := .cells #[.int .i64 a0_0, .int .i64 a0_1, .string a0_2] 25 (0, 0)) (by (with_reducible repeat (first | refine blk_drewN ?_ _ | refine blk_drew ?_ | refine blk_alloc ?_ _)); exact BK135.out)) : gb136 ≠ gb135)); clear BK135; clear HB; have BK135 := n0_; have HB := n1_; have BK136 := n2_; have GW136 := n3_; have GE136 := n4_; have NB135_136 := n5_; have NB136_135 := n6_; clear n0_ n1_ n2_ n3_ n4_ n5_ n6_; clear hb hbox hg; have hnb5 := NB135_136.out; have hnc5 := NB136_135.out; have hcz6_0 : w4.cell? ⟨gb135, 0, none⟩ = some (.int .i64 a0_0) := (blk_cell BK135.out 0).trans rfl; have hcz6_1 : w4.cell? ⟨gb135, 1, none⟩ = some (.int .i64 a0_1) := (blk_cell BK135.out 1).trans rfl; have hcz6_2 : w4.cell? ⟨gb135, 2, none⟩ = some (.string a0_2) := (blk_cell BK135.out 2).trans rfl; have hfz6_0 := blk_frozen BK135.out 0; have hfz6_1 := blk_frozen BK135.out 1; have hfz6_2 := blk_frozen BK135.out 2) | ((with_reducible refine gate_callee (f := 12) rfl ?_); refine goesL_ (some 5) rfl rfl Try.func12 (by kernel_rfl) rfl #[.string a0_2, .int .i64 30] rfl (by (try simp only [List.map_toArray, List.map_cons, List.map_nil]); first | done | rfl | (simp only [List.length_drop, List.length_take]; rfl)) ?_; (with_reducible refine (loesslaw3_Cut.calls a0_2 30 t137 _ A2.out).mono ?_); rintro e w' ⟨rfl, ⟨nd, rfl⟩⟩; refine ⟨_, rfl, ?_⟩; have hcz7_0 : w4.cell? ⟨gb136, 0, none⟩ = some (.int .i64 0) := (blk_cell BK136.out 0).trans rfl; have hcz7_1 : w4.cell? ⟨gb136, 1, none⟩ = some (.int .i64 0) := (blk_cell BK136.out 1).trans rfl; have hcz7_2 : w4.cell? ⟨gb136, 2, none⟩ = some (.string (⟨#[]⟩ : ByteArray)) := (blk_cell BK136.out 2).trans rfl; have hfz7_0 := blk_frozen BK136.out 0; have hfz7_1 := blk_frozen BK136.out 1; have hfz7_2 := blk_frozen BK136.out 2))
  refine bodyPost_ret (results_cell_row rfl _ _ gb136 25 #[.int .i64 a0_0, .int .i64 a0_1, .string t137] (0, 0) _ rfl (by (with_reducible repeat (first | refine blk_drewN ?_ _ | refine blk_drew ?_ | refine blk_alloc ?_ _)); refine blk_put (cs := #[.int .i64 a0_0, .int .i64 a0_1, .string (⟨#[]⟩ : ByteArray)]) ?_ 2 _ rfl; (with_reducible repeat (first | refine blk_drewN ?_ _ | refine blk_drew ?_ | refine blk_alloc ?_ _)); refine blk_put (cs := #[.int .i64 a0_0, .int .i64 0, .string (⟨#[]⟩ : ByteArray)]) ?_ 1 _ rfl; (with_reducible repeat (first | refine blk_drewN ?_ _ | refine blk_drew ?_ | refine blk_alloc ?_ _)); refine blk_put (cs := #[.int .i64 0, .int .i64 0, .string (⟨#[]⟩ : ByteArray)]) ?_ 0 _ rfl; (with_reducible repeat (first | refine blk_drewN ?_ _ | refine blk_drew ?_ | refine blk_alloc ?_ _)); refine blk_far ?_ NB136_135.out _; (with_reducible repeat (first | refine blk_drewN ?_ _ | refine blk_drew ?_ | refine blk_alloc ?_ _)); exact BK136.out) Try.underlying25 rfl (by kernel_rfl)) rfl ?_
  exact ⟨by first | rfl | (simp [errW_none, errW_some] <;> rfl) | (simp [*, errW_none, errW_some] <;> rfl), by repeat (first | (with_reducible first | exact HB.out | apply below_alloc | apply pw_below_drewN | apply below_drew1 | refine below_set ?_ GE135.out | refine below_set ?_ GE136.out) | exact HB.out)⟩
end Go.Proofs.Ytkhcmddeeodbkaa.XSor
namespace Go.Proofs.Ytkhcmddeeodbkaa.Q
open Go.RowKit Go.Proofs.YtkhcmddeeodbkaaW.PrintWords Go.Proofs.YtkhcmddeeodbkaaW.PrintMore Go.Proofs.Ytkhcmddeeodbkaa.G Go.Proofs.Ytkhcmddeeodbkaa.XSor
theorem nil_iff (s : ByteArray) : s.toList = ([] : List UInt8) ↔ s.size = 0 := by
  rw [toList_eq]
  have := data_length s
  constructor
  · intro e
    rw [e] at this
    simpa using this.symm
  · intro h
    exact List.eq_nil_of_length_eq_zero (by omega)
theorem size0 {s : ByteArray} (h : s.size = 0) : s = ⟨#[]⟩ := by
  apply bytesOf_inj
  rw [bytes_empty]
  apply List.eq_nil_of_length_eq_zero
  rw [bytesOf_length, h]
def mayV (a b : Int) (s : ByteArray) : Bool := decide ((a = 1 ∧ s.size = 0) ∨ (a = 2 ∧ b = 0 ∧ s.size ≤ 24 ∧ vld s = true))
def ofV (a b : Int) (s : ByteArray) : VX × Int := if a = 1 ∧ s.size = 0 then (VX.num b, 0) else if a = 2 ∧ b = 0 ∧ s.size ≤ 24 ∧ vld s = true then (VX.txt s, 0) else (VX.none, 1)
theorem mayV_cases {a b : Int} {s : ByteArray} (h : mayV a b s = true) : (a = 1 ∧ s = ⟨#[]⟩) ∨ (a = 2 ∧ b = 0 ∧ s.size ≤ 24 ∧ vld s = true) := by
  rcases of_decide_eq_true h with ⟨h1, h2⟩ | h1
  · exact .inl ⟨h1, size0 h2⟩
  · exact .inr h1
theorem mayV_size {a b : Int} {s : ByteArray} (h : mayV a b s = true) : s.size ≤ 24 := by
  rcases mayV_cases h with ⟨h1, h2⟩ | h1
  · rw [h2]; decide
  · exact h1.2.2.1
theorem mayV_a {a b : Int} {s : ByteArray} (h : mayV a b s = true) : a = 1 ∨ a = 2 := by
  rcases mayV_cases h with h1 | h1
  · exact .inl h1.1
  · exact .inr h1.1
theorem ofV_j (a b : Int) (s : ByteArray) (hs : s.size < 35184372088832) (x : Bool) : Ev (fun k => value_Of.j0 k x a b s) (if x = true then (VX.num b, 0) else if a = 2 ∧ b = 0 ∧ s.size ≤ 24 ∧ vld s = true then (VX.txt s, 0) else (VX.none, 1)) := by
  refine Ev.step (f := fun _ => some (if x = true then (VX.num b, 0) else if a = 2 ∧ b = 0 ∧ s.size ≤ 24 ∧ vld s = true then (VX.txt s, 0) else (VX.none, 1))) (fun k => ?_) (Ev.now _)
  simp only [value_Of.j0, rValid hs, Option.bind_some]
  by_cases hx : x = true
  · rw [if_pos hx, if_pos hx]
  · rw [if_neg hx, if_neg hx]
    by_cases h1 : a = 2
    · rw [if_pos h1]
      by_cases h2 : b = 0
      · rw [if_pos h2]
        by_cases h3 : (s.size : Int) ≤ 24
        · rw [if_pos h3]
          by_cases h4 : vld s = true
          · rw [if_pos h4, if_pos ⟨h1, h2, by omega, h4⟩]
          · rw [if_neg h4, if_neg (fun h => h4 h.2.2.2)]
        · rw [if_neg h3, if_neg (fun h => h3 (by omega))]
      · rw [if_neg h2, if_neg (fun h => h2 h.2.1)]
    · rw [if_neg h1, if_neg (fun h => h1 h.1)]
theorem value_Of_ev (a b : Int) {s : ByteArray} (hs : s.size < 35184372088832) : Ev (fun k => value_Of.f k a b s) (ofV a b s) := by
  unfold value_Of.f ofV
  by_cases h1 : a = 1
  · refine Ev.congr (fun k => if_pos h1) (evEq (ofV_j a b s hs _) ?_)
    by_cases h2 : s.size = 0
    · have := (nil_iff s).2 h2
      rw [if_pos (by rw [this]; rfl), if_pos ⟨h1, h2⟩]
    · have : ¬ s.toList = ([] : List UInt8) := fun h => h2 ((nil_iff s).1 h)
      rw [if_neg (by simpa using this), if_neg (show ¬ (a = 1 ∧ s.size = 0) from fun h => h2 h.2)]
  · refine Ev.congr (fun k => if_neg h1) (evEq (ofV_j a b s hs _) ?_)
    rw [if_neg (show ¬ (a = 1 ∧ s.size = 0) from fun h => h1 h.1)]
    rfl
theorem ofV_two {a : Int} (ha : a = 2) (s : ByteArray) : ofV a 0 s = if mayV 2 0 s = true then (VX.txt s, 0) else (VX.none, 1) := by
  subst ha
  unfold ofV mayV
  rw [if_neg (show ¬ ((2 : Int) = 1 ∧ s.size = 0) from fun h => by cases h.1)]
  by_cases h : s.size ≤ 24 ∧ vld s = true
  · rw [if_pos ⟨rfl, rfl, h.1, h.2⟩, if_pos (decide_eq_true (.inr ⟨rfl, rfl, h.1, h.2⟩))]
  · rw [if_neg (show ¬ ((2 : Int) = 2 ∧ (0 : Int) = 0 ∧ s.size ≤ 24 ∧ vld s = true) from fun h2 => h ⟨h2.2.2.1, h2.2.2.2⟩), decide_eq_false (fun h2 => h2.elim (fun h3 => by cases h3.1) (fun h3 => h ⟨h3.2.2.1, h3.2.2.2⟩))]
    rfl
theorem may_ev (a b : Int) {s : ByteArray} (hs : s.size < 17592186044416) : Ev (fun k => loessref1_MayVal.f k a b s) (mayV a b s) := by
  unfold loessref1_MayVal.f mayV
  by_cases h1 : a = 1
  · refine Ev.congr (fun k => if_pos h1) (evC ?_)
    congr 1
    by_cases h2 : s.size = 0
    · have := (nil_iff s).2 h2
      rw [this]
      simp [h1, h2]
    · have : ¬ s.toList = ([] : List UInt8) := fun h => h2 ((nil_iff s).1 h)
      rw [decide_eq_false (by omega)]
      simpa using this
  · refine Ev.congr (fun k => if_neg h1) ?_
    by_cases h2 : a = 2
    · refine Ev.congr (fun k => if_pos h2) ?_
      by_cases h3 : b = 0
      · refine Ev.congr (fun k => if_pos h3) ?_
        by_cases h4 : (s.size : Int) ≤ 24
        · refine Ev.congr (fun k => if_pos h4) (Ev.bind (refValid_ev hs) (evC ?_))
          have h5 : s.size ≤ 24 := by omega
          rw [show (ds (bytesOf s)).all (·.2.2) = vld s from rfl]
          cases hv : vld s with
          | true => rw [decide_eq_true (.inr ⟨h2, h3, h5, rfl⟩)]
          | false => rw [decide_eq_false (fun h => h.elim (fun h => h1 h.1) (fun h => by cases h.2.2.2))]
        · refine Ev.congr (fun k => if_neg h4) (evC ?_)
          rw [decide_eq_false (by omega)]
      · refine Ev.congr (fun k => if_neg h3) (evC ?_)
        rw [decide_eq_false (by omega)]
    · refine Ev.congr (fun k => if_neg h2) (evC ?_)
      rw [decide_eq_false (by omega)]
def getV (l : List Int) : Int × Int × ByteArray × Int × Int :=
  if (getN l).2.2 = 0 then
    if (getN l).1 = 1 then
      if (getN (l.drop (getN l).2.1.toNat)).2.2 = 0 then (1, (getN (l.drop (getN l).2.1.toNat)).1, ⟨#[]⟩, (getN l).2.1 + (getN (l.drop (getN l).2.1.toNat)).2.1, 0) else (0, 0, ⟨#[]⟩, 0, (getN (l.drop (getN l).2.1.toNat)).2.2)
    else if (getN l).1 = 2 then
      if (getT (l.drop (getN l).2.1.toNat)).2.2 = 0 then
        if mayV 2 0 (getT (l.drop (getN l).2.1.toNat)).1 = true then (2, 0, (getT (l.drop (getN l).2.1.toNat)).1, (getN l).2.1 + (getT (l.drop (getN l).2.1.toNat)).2.1, 0) else (0, 0, ⟨#[]⟩, 0, 1)
      else (0, 0, ⟨#[]⟩, 0, (getT (l.drop (getN l).2.1.toNat)).2.2)
    else (0, 0, ⟨#[]⟩, 0, 1)
  else (0, 0, ⟨#[]⟩, 0, (getN l).2.2)
theorem getT_size (l : List Int) (hb : Byt l) : (getT l).1.size ≤ 65536 := by
  by_cases h : (getT l).2.2 = 0
  · exact (getT_canon hb h).2.2
  · rw [((getT_bound l).2.2.2 h).1]
    decide
theorem get_ev {l : List Int} (hb : Byt l) (hl : l.length < 4611686018427387904) : Ev (fun k => value_Get.f k l) (getV l) := by
  have b1 := getN_bound l
  have hbd : Byt (l.drop (getN l).2.1.toNat) := hb.drop _
  have hld : (l.drop (getN l).2.1.toNat).length ≤ l.length := by rw [List.length_drop]; omega
  unfold value_Get.f getV
  refine Ev.bind (num_Get_ev hb (by omega)) ?_
  by_cases h0 : (getN l).2.2 = 0
  · refine Ev.congr (fun k => if_pos h0) ?_
    rw [if_pos h0]
    by_cases h1 : (getN l).1 = 1
    · have b2 := getN_bound (l.drop (getN l).2.1.toNat)
      refine Ev.congr (fun k => if_pos h1) ?_
      rw [if_pos h1]
      refine Ev.congr (fun k => if_pos b1.1) (Ev.congr (fun k => if_pos b1.2.1) (Ev.bind (num_Get_ev hbd (by omega)) ?_))
      by_cases h2 : (getN (l.drop (getN l).2.1.toNat)).2.2 = 0
      · rw [if_pos h2]
        refine Ev.step (f := fun k => (value_Of.f k (getN l).1 (getN (l.drop (getN l).2.1.toNat)).1 ⟨#[]⟩).bind fun bt248 => if bt248.2 = 0 then some ((getN l).1, (getN (l.drop (getN l).2.1.toNat)).1, ⟨#[]⟩, wrap64 ((getN l).2.1 + (getN (l.drop (getN l).2.1.toNat)).2.1), 0) else some (0, 0, ⟨#[]⟩, 0, bt248.2)) (fun k => ?_) ?_
        · simp only [value_Get.j0]
          rw [if_pos h2]
        · refine Ev.bind (value_Of_ev _ _ (by decide)) (evC ?_)
          have e : ofV (getN l).1 (getN (l.drop (getN l).2.1.toNat)).1 ⟨#[]⟩ = (VX.num (getN (l.drop (getN l).2.1.toNat)).1, 0) := by unfold ofV; rw [if_pos ⟨h1, rfl⟩]
          rw [e, if_pos rfl, h1, w64 (by omega) (by omega)]
      · rw [if_neg h2]
        refine Ev.step (f := fun _ => some (0, 0, ⟨#[]⟩, 0, (getN (l.drop (getN l).2.1.toNat)).2.2)) (fun k => ?_) (Ev.now _)
        simp only [value_Get.j0]
        rw [if_neg h2]
    · refine Ev.congr (fun k => if_neg h1) ?_
      rw [if_neg h1]
      by_cases h2 : (getN l).1 = 2
      · have b2 := getT_bound (l.drop (getN l).2.1.toNat)
        refine Ev.congr (fun k => if_pos h2) ?_
        rw [if_pos h2]
        refine Ev.congr (fun k => if_pos b1.1) (Ev.congr (fun k => if_pos b1.2.1) (Ev.bind (num_GetText_ev hbd (by omega)) ?_))
        have hts := getT_size _ hbd
        by_cases h3 : (getT (l.drop (getN l).2.1.toNat)).2.2 = 0
        · rw [if_pos h3]
          refine Ev.step (f := fun k => (value_Of.f k (getN l).1 0 (getT (l.drop (getN l).2.1.toNat)).1).bind fun bt248 => if bt248.2 = 0 then some ((getN l).1, 0, (getT (l.drop (getN l).2.1.toNat)).1, wrap64 ((getN l).2.1 + (getT (l.drop (getN l).2.1.toNat)).2.1), 0) else some (0, 0, ⟨#[]⟩, 0, bt248.2)) (fun k => ?_) ?_
          · simp only [value_Get.j0]
            rw [if_pos h3]
          · refine Ev.bind (value_Of_ev _ _ (by omega)) (evC ?_)
            rw [ofV_two h2]
            by_cases h4 : mayV 2 0 (getT (l.drop (getN l).2.1.toNat)).1 = true
            · rw [if_pos h4, if_pos h4, if_pos rfl, h2, w64 (by omega) (by omega)]
            · rw [if_neg h4, if_neg h4, if_neg (by simp)]
        · rw [if_neg h3]
          refine Ev.step (f := fun _ => some (0, 0, ⟨#[]⟩, 0, (getT (l.drop (getN l).2.1.toNat)).2.2)) (fun k => ?_) (Ev.now _)
          simp only [value_Get.j0]
          rw [if_neg h3]
      · refine Ev.congr (fun k => if_neg h2) ?_
        rw [if_neg h2]
        refine Ev.step (f := fun _ => some (0, 0, ⟨#[]⟩, 0, 1)) (fun k => ?_) (Ev.now _)
        simp only [value_Get.j0]
        rw [if_neg (by omega)]
  · refine Ev.congr (fun k => if_neg h0) (evC ?_)
    rw [if_neg h0]
end Go.Proofs.Ytkhcmddeeodbkaa.Q
namespace Go.Proofs.Ytkhcmddeeodbkaa.Q
open Go.RowKit Go.Proofs.YtkhcmddeeodbkaaW.PrintWords Go.Proofs.YtkhcmddeeodbkaaW.PrintMore Go.Proofs.Ytkhcmddeeodbkaa.G Go.Proofs.Ytkhcmddeeodbkaa.XSor
def putV (a b : Int) (s : ByteArray) : List Int := putN a ++ (if a = 1 then putN b else putT s)
theorem putV_byt (a b : Int) (s : ByteArray) : Byt (putV a b s) := by
  unfold putV
  refine (putN_byt a).append ?_
  split
  · exact putN_byt b
  · exact putT_byt s
theorem putT_len {s : ByteArray} {n : Nat} (h : s.size ≤ n) (hn : n ≤ 4611686018427387904) : (putT s).length ≤ n + 10 := by
  have := putN_len (n := (s.size : Int)) (by unfold I64; omega)
  unfold putT
  rw [List.length_append, bytesOf_length]
  omega
theorem putV_len {a b : Int} {s : ByteArray} (ha : I64 a) (hb : I64 b) {n : Nat} (h : s.size ≤ n) (hn : n ≤ 4611686018427387904) : (putV a b s).length ≤ n + 20 := by
  have h1 := putN_len ha
  have h2 := putN_len hb
  have h3 := putT_len h hn
  unfold putV
  rw [List.length_append]
  split <;> omega
theorem value_Put_ev {a b : Int} {s : ByteArray} (ha : I64 a) (hb : I64 b) (h : s.size ≤ 17592186044416) (l : List Int) (hl : l.length + 10 ≤ 35184372088832) : Ev (fun k => value_Put.f k l a b s) (l ++ putV a b s) := by
  have h1 := putN_len ha
  unfold value_Put.f putV
  refine Ev.bind (num_Put_ev ha l (by omega)) ?_
  by_cases e : a = 1
  · refine Ev.congr (fun k => if_pos e) ?_
    rw [if_pos e, ← List.append_assoc]
    exact Ev.bind (num_Put_ev hb (l ++ putN a) (by rw [List.length_append]; omega)) (Ev.now _)
  · refine Ev.congr (fun k => if_neg e) ?_
    rw [if_neg e, ← List.append_assoc]
    exact Ev.bind (num_PutText_ev (s := s) (by omega) (l ++ putN a) (by rw [List.length_append]; omega)) (Ev.now _)
theorem mayV_i64 {a b : Int} {s : ByteArray} (h : mayV a b s = true) : I64 a := by
  unfold I64
  rcases mayV_a h with h1 | h1 <;> omega
theorem getV_put {a b : Int} {s : ByteArray} (h : mayV a b s = true) (hb : I64 b) (rest : List Int) : getV (putV a b s ++ rest) = (a, b, s, ((putV a b s).length : Int), 0) := by
  have hi := mayV_i64 h
  unfold getV
  have e0 : getN (putV a b s ++ rest) = (a, ((putN a).length : Int), 0) := by
    unfold putV; rw [List.append_assoc]; exact getN_put hi _
  have e1 : (putV a b s ++ rest).drop ((putN a).length : Int).toNat = (if a = 1 then putN b else putT s) ++ rest := by
    unfold putV; rw [List.append_assoc, Int.toNat_natCast]; exact List.drop_left
  simp only [e0, e1, if_true]
  rcases mayV_cases h with ⟨h1, h2⟩ | ⟨h1, h2, h3, h4⟩
  · rw [if_pos h1]
    have e2 : getN ((if a = 1 then putN b else putT s) ++ rest) = (b, ((putN b).length : Int), 0) := by rw [if_pos h1]; exact getN_put hb _
    simp only [e2, if_true]
    unfold putV
    rw [if_pos h1, List.length_append, h1, h2]
    simp
  · subst h1; subst h2
    rw [if_neg (show ¬ ((2 : Int) = 1) by decide), if_pos rfl]
    have e2 : getT ((if (2 : Int) = 1 then putN 0 else putT s) ++ rest) = (s, ((putT s).length : Int), 0) := by rw [if_neg (show ¬ ((2 : Int) = 1) by decide)]; exact getT_put (by omega) _
    simp only [e2, if_true]
    unfold putV
    rw [if_pos h, if_neg (show ¬ ((2 : Int) = 1) by decide), List.length_append]
    simp
end Go.Proofs.Ytkhcmddeeodbkaa.Q
namespace Go.Proofs.Ytkhcmddeeodbkaa.XSor
open Go.RowKit Go.Proofs.Ytkhcmddeeodbkaa.G Go.Proofs.YtkhcmddeeodbkaaW.PrintWords Go.Proofs.YtkhcmddeeodbkaaW.PrintLast Go.Proofs.YtkhcmddeeodbkaaW.PrintMore
attribute [local go_sem] max2_int min2_int max_two min_two max_three min_three max_four min_four
theorem eqA25 (d : Nat) (w : World) (x0 y0 : Int) (x1 y1 : Int) (x2 y2 : ByteArray) :
    (Op.equalIn (d + 2) 25 (.agg #[.int .i64 x0, .int .i64 x1, .string x2]) (.agg #[.int .i64 y0, .int .i64 y1, .string y2])).run Try.prog w = .ok (x0 == y0 && (x1 == y1 && (x2.toList == y2.toList))) w := by
  refine eqA_of Try.underlying25 (by kernel_rfl) ?_
  refine eqf_cons (by rfl) (by go_simp; rfl) (by go_simp; rfl) (by go_simp) ?_
  refine eqf_cons (by rfl) (by go_simp; rfl) (by go_simp; rfl) (by go_simp) ?_
  exact eqf_last (by rfl) (by go_simp; rfl) (by go_simp; rfl) (by go_simp)
end Go.Proofs.Ytkhcmddeeodbkaa.XSor
namespace Go.Proofs.Ytkhcmddeeodbkaa.XSor
open Go.RowKit Go.Proofs.Ytkhcmddeeodbkaa.G Go.Proofs.YtkhcmddeeodbkaaW.PrintWords Go.Proofs.YtkhcmddeeodbkaaW.PrintLast Go.Proofs.YtkhcmddeeodbkaaW.PrintMore
attribute [local go_sem] max2_int min2_int max_two min_two max_three min_three max_four min_four
def key_May.f (a0 : ByteArray) : Option (Bool) := if a0.toList = ([] : List UInt8) then (some false) else (some (decide ((a0.size : Int) ≤ 16)))
set_option maxHeartbeats 8000000 in
set_option maxRecDepth 100000 in
theorem key_May.calls (a0 : ByteArray) (r : Bool) (w : World) (h : key_May.f a0 = some r) :
    Calls Try.prog 55 #[.string a0] w fun e w' => e = .returned (.bool r) ∧ Drawn0 w w' := by
  have H : (if a0.toList = ([] : List UInt8) then (some false) else (some (decide ((a0.size : Int) ≤ 16)))) = some r := h
  clear h
  by_cases c2 : a0.toList = ([] : List UInt8)
  · rw [if_pos c2] at H
    have c2b0 : (a0.toList == ([] : List UInt8)) = true := beq_iff_eq.mpr c2
    have c2b1 : (a0.toList != ([] : List UInt8)) = false := bne_eq_false_iff_eq.mpr c2
    clear c2
    obtain rfl := Option.some.inj H
    go_enter Try.func55, Try.ntmps55
    go_wp2
    go_ret
    exact ⟨by first | rfl | (simp; done) | (simp [*]; done), by repeat (first | exact Drawn0.refl _ | apply Drawn0.step)⟩
  · rw [if_neg c2] at H
    have c2b0 : (a0.toList == ([] : List UInt8)) = false := beq_eq_false_iff_ne.mpr c2
    have c2b1 : (a0.toList != ([] : List UInt8)) = true := bne_iff_ne.mpr c2
    obtain rfl := Option.some.inj H
    go_enter Try.func55, Try.ntmps55
    go_wp2
    go_ret
    exact ⟨by first | rfl | (simp; done) | (simp [*]; done), by repeat (first | exact Drawn0.refl _ | apply Drawn0.step)⟩
end Go.Proofs.Ytkhcmddeeodbkaa.XSor
