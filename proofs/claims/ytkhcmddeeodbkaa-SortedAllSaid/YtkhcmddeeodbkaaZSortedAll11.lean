import Derived.Test.YtkhcmddeeodbkaaZSortedAll10
-- Own texts and, of the words that the kit's print program wrote for this claim, those that are needed here: put together by wip/prune.py.
set_option linter.unusedSimpArgs false
set_option linter.unusedVariables false
namespace Go.Proofs.Ytkhcmddeeodbkaa.XSor
open Go.RowKit Go.Proofs.Ytkhcmddeeodbkaa.G Go.Proofs.YtkhcmddeeodbkaaW.PrintWords Go.Proofs.YtkhcmddeeodbkaaW.PrintLast Go.Proofs.YtkhcmddeeodbkaaW.PrintMore
attribute [local go_sem] max2_int min2_int max_two min_two max_three min_three max_four min_four
def loessref10_Bytes.f (k : Nat) (a0_0 : ByteArray) (a0_1 : Bool) (a0_2 : Int) (a0_3 : Int) (a0_4 : ByteArray) : Option (List Int) := (loessref1_PutText.f k a0_0).bind fun t338 => (if a0_1 = true then ((loessref1_Put.f k 0).bind fun t341 => (if t338.length + t341.length < 140737488355328 then (some (t338 ++ t341)) else (none))) else ((loessref1_PutVal.f k a0_2 a0_3 a0_4).bind fun t347 => (if t338.length + t347.length < 140737488355328 then (some (t338 ++ t347)) else (none))))
theorem loessref10_Bytes.mono : ∀ a0 a1 a2 a3 a4 k, LeO (loessref10_Bytes.f k a0 a1 a2 a3 a4) (loessref10_Bytes.f (k + 1) a0 a1 a2 a3 a4) := by
 intro a0 a1 a2 a3 a4 k
 unfold loessref10_Bytes.f
 repeat' first
     | (with_reducible exact loessref1_Put.mono _ _)
     | (with_reducible exact loessref1_PutText.mono _ _)
     | (with_reducible exact loessref1_PutVal.mono _ _ _ _)
     | (with_reducible exact LeO.refl _)
     | (with_reducible exact LeO.none _)
     | (with_reducible refine LeO.ite ?_ ?_)
     | (with_reducible refine LeO.bind ?_ (fun _ => ?_))
     | exact loessref1_Put.mono _ _
     | exact loessref1_PutText.mono _ _
     | exact loessref1_PutVal.mono _ _ _ _
     | exact LeO.none _
     | refine LeO.ite ?_ ?_
     | refine LeO.bind ?_ (fun _ => ?_)
set_option maxHeartbeats 8000000 in
set_option maxRecDepth 100000 in
theorem loessref10_Bytes.calls (k : Nat) (a0_0 : ByteArray) (a0_1 : Bool) (a0_2 : Int) (a0_3 : Int) (a0_4 : ByteArray) (r : List Int) (w : World) (h : loessref10_Bytes.f k a0_0 a0_1 a0_2 a0_3 a0_4 = some r) :
    Calls Try.prog 54 #[.agg #[.string a0_0, .bool a0_1, .int .i64 a0_2, .int .i64 a0_3, .string a0_4]] w fun e w' => ∃ v0_ : Value, e = .returned (v0_) ∧ Kd.R (Kd.int .u8) 5 w' w.heap.size (fun _ => True) v0_ r ∧ Below w.heap.size w w' := by
 have hu27 := Try.underlying27
 have hu25 := Try.underlying25
 have HB := Aside0.mk (Below.refl w.heap.size w)
 have H : ((loessref1_PutText.f k a0_0).bind fun t338 => (if a0_1 = true then ((loessref1_Put.f k 0).bind fun t341 => (if t338.length + t341.length < 140737488355328 then (some (t338 ++ t341)) else (none))) else ((loessref1_PutVal.f k a0_2 a0_3 a0_4).bind fun t347 => (if t338.length + t347.length < 140737488355328 then (some (t338 ++ t347)) else (none))))) = some r := h
 clear h
 replace H := Option.bind_eq_some_iff.mp H
 obtain ⟨t338, A20, H⟩ := H
 replace H : (if a0_1 = true then ((loessref1_Put.f k 0).bind fun t341 => (if t338.length + t341.length < 140737488355328 then (some (t338 ++ t341)) else (none))) else ((loessref1_PutVal.f k a0_2 a0_3 a0_4).bind fun t347 => (if t338.length + t347.length < 140737488355328 then (some (t338 ++ t347)) else (none)))) = some r := H
 have A2 := Aside0.mk A20
 clear A20
 by_cases c3 : a0_1 = true
 · subst c3
   have H1 : ((loessref1_Put.f k 0).bind fun t341 => (if t338.length + t341.length < 140737488355328 then (some (t338 ++ t341)) else (none))) = some r := by rw [if_pos rfl] at H; exact H
   clear H
   have H := H1
   clear H1
   replace H := Option.bind_eq_some_iff.mp H
   obtain ⟨t341, A40, H⟩ := H
   replace H : (if t338.length + t341.length < 140737488355328 then (some (t338 ++ t341)) else (none)) = some r := H
   have A4 := Aside0.mk A40
   clear A40
   by_cases c5 : t338.length + t341.length < 140737488355328
   · rw [if_pos c5] at H
     have LMc5 := Aside0.mk c5
     clear c5
     obtain ⟨y344, hy344⟩ : ∃ y_ : List Int, y_ = (t338 ++ t341) := ⟨_, rfl⟩
     replace H : (some y344) = some r := by first | (rw [hy344]; with_reducible exact H) | (have H2_ := (Option.bind_some _ _).symm.trans H; rw [hy344]; with_reducible exact H2_) | (have H2_ := (Option.bind_some _ _).symm.trans H; with_reducible exact H2_) | with_reducible exact H | (rw [hy344]; exact H) | exact H
     have Ny344 := Aside0.mk hy344
     clear hy344
     obtain rfl := Option.some.inj H
     go_enter Try.func54, Try.ntmps54
     go_wp2_with (first | ((with_reducible refine gate_dst (N := 1) rfl ?_); refine box_event ?hg (N := 1) ?hd (cs := #[.string a0_0, .bool true, .int .i64 a0_2, .int .i64 a0_3, .string a0_4]) (t := 27) ?hr ?_; (case hd => rfl); (case hg => rfl); (case hr => first | (go_simp; done) | (go_simp; rfl)); intro gb337 hg w6 hbox hb; have n0_ := Aside0.mk (below_step (by repeat (first | (with_reducible first | exact HB.out | apply below_alloc | apply pw_below_drewN | apply below_drew1) | exact HB.out)) hb); have n1_ := Aside0.mk (hbox); have n2_ := Aside0.mk ((by rw [hg]; exact (below_size (by repeat (first | (with_reducible first | exact HB.out | apply below_alloc | apply pw_below_drewN | apply below_drew1) | exact HB.out))) : w.heap.size ≤ gb337)); have n3_ := Aside0.mk ((by rw [hg]; exact (below_size (by repeat (first | (with_reducible first | exact HB.out | apply below_alloc | apply pw_below_drewN | apply below_drew1) | exact HB.out))) : w.heap.size ≤ gb337)); clear HB; have HB := n0_; have BK337 := n1_; have GW337 := n2_; have GE337 := n3_; clear n0_ n1_ n2_ n3_; clear hb hbox hg; have hcz7_0 : w6.cell? ⟨gb337, 0, none⟩ = some (.string a0_0) := (blk_cell BK337.out 0).trans rfl; have hcz7_1 : w6.cell? ⟨gb337, 1, none⟩ = some (.bool true) := (blk_cell BK337.out 1).trans rfl; have hcz7_2 : w6.cell? ⟨gb337, 2, none⟩ = some (.int .i64 a0_2) := (blk_cell BK337.out 2).trans rfl; have hcz7_3 : w6.cell? ⟨gb337, 3, none⟩ = some (.int .i64 a0_3) := (blk_cell BK337.out 3).trans rfl; have hcz7_4 : w6.cell? ⟨gb337, 4, none⟩ = some (.string a0_4) := (blk_cell BK337.out 4).trans rfl; have hfz7_0 := blk_frozen BK337.out 0; have hfz7_1 := blk_frozen BK337.out 1; have hfz7_2 := blk_frozen BK337.out 2; have hfz7_3 := blk_frozen BK337.out 3; have hfz7_4 := blk_frozen BK337.out 4) | ((with_reducible refine gate_callee (f := 72) rfl ?_); refine goesL_ (some 6) rfl rfl Try.func72 (by kernel_rfl) rfl #[.string a0_0] rfl (by (try simp only [List.map_toArray, List.map_cons, List.map_nil]); first | done | rfl | (simp only [List.length_drop, List.length_take]; rfl)) ?_; (with_reducible refine (loessref1_PutText.calls k a0_0 t338 _ A2.out).mono ?_); rintro e w8 ⟨v339, rfl, ho0, hb⟩; refine ⟨_, rfl, ?_⟩; have n0_ := Aside0.mk (Kd.R_lower ho0 (below_size (by repeat (first | (with_reducible first | exact HB.out | apply below_alloc | apply pw_below_drewN | apply below_drew1 | refine below_set ?_ GE337.out) | exact HB.out)))); have n1_ := Aside0.mk (blk_below (g := gb337) (o := .cells #[.string a0_0, .bool true, .int .i64 a0_2, .int .i64 a0_3, .string a0_4] 27 (0, 0)) (by (with_reducible repeat (first | refine blk_drewN ?_ _ | refine blk_drew ?_ | refine blk_alloc ?_ _)); exact BK337.out) hb); have n2_ := Aside0.mk (below_step (by repeat (first | (with_reducible first | exact HB.out | apply below_alloc | apply pw_below_drewN | apply below_drew1 | refine below_set ?_ GE337.out) | exact HB.out)) hb); clear BK337; clear HB; have HO340 := n0_; have BK337 := n1_; have HB := n2_; clear n0_ n1_ n2_; (try clear hb); (try clear hb2); (try clear hk); (try clear hi); (try clear ho0); have hcz9_0 : w8.cell? ⟨gb337, 0, none⟩ = some (.string a0_0) := (blk_cell BK337.out 0).trans rfl; have hcz9_1 : w8.cell? ⟨gb337, 1, none⟩ = some (.bool true) := (blk_cell BK337.out 1).trans rfl; have hcz9_2 : w8.cell? ⟨gb337, 2, none⟩ = some (.int .i64 a0_2) := (blk_cell BK337.out 2).trans rfl; have hcz9_3 : w8.cell? ⟨gb337, 3, none⟩ = some (.int .i64 a0_3) := (blk_cell BK337.out 3).trans rfl; have hcz9_4 : w8.cell? ⟨gb337, 4, none⟩ = some (.string a0_4) := (blk_cell BK337.out 4).trans rfl; have hfz9_0 := blk_frozen BK337.out 0; have hfz9_1 := blk_frozen BK337.out 1; have hfz9_2 := blk_frozen BK337.out 2; have hfz9_3 := blk_frozen BK337.out 3; have hfz9_4 := blk_frozen BK337.out 4) | ((with_reducible refine gate_callee (f := 53) rfl ?_); refine goesL_ (some 10) rfl rfl Try.func53 (by kernel_rfl) rfl #[.int .i64 0] rfl (by (try simp only [List.map_toArray, List.map_cons, List.map_nil]); first | done | rfl | (simp only [List.length_drop, List.length_take]; rfl)) ?_; (with_reducible refine (loessref1_Put.calls k 0 t341 _ A4.out).mono ?_); rintro e w10 ⟨v342, rfl, ho0, hb⟩; refine ⟨_, rfl, ?_⟩; have n0_ := Aside0.mk (Kd.R_elder' (by (with_reducible repeat (first | apply Kd.R_alloc | apply Kd.R_drewN | apply Kd.R_drew)); exact HO340.out) (Kd.R_base ho0) hb); have n1_ := Aside0.mk (Kd.R_lower (Kd.R_new' ho0 (Kd.R_lt (by (with_reducible repeat (first | apply Kd.R_alloc | apply Kd.R_drewN | apply Kd.R_drew)); exact HO340.out))) (below_size (by repeat (first | (with_reducible first | exact HB.out | apply below_alloc | apply pw_below_drewN | apply below_drew1 | refine below_set ?_ GE337.out) | exact HB.out)))); have n2_ := Aside0.mk (blk_below (g := gb337) (o := .cells #[.string a0_0, .bool true, .int .i64 a0_2, .int .i64 a0_3, .string a0_4] 27 (0, 0)) (by (with_reducible repeat (first | refine blk_drewN ?_ _ | refine blk_drew ?_ | refine blk_alloc ?_ _)); exact BK337.out) hb); have n3_ := Aside0.mk (below_step (by repeat (first | (with_reducible first | exact HB.out | apply below_alloc | apply pw_below_drewN | apply below_drew1 | refine below_set ?_ GE337.out) | exact HB.out)) hb); clear HO340; clear BK337; clear HB; have HO340 := n0_; have HO343 := n1_; have BK337 := n2_; have HB := n3_; clear n0_ n1_ n2_ n3_; (try clear hb); (try clear hb2); (try clear hk); (try clear hi); (try clear ho0); obtain ⟨Ao12, co12, eo12⟩ := Kd.R_slice HO343.out; subst eo12) | ((with_reducible refine gate_builtin (b := .append) (xs := #[.tmp 9, .tmp 10]) rfl ?_); at_builtin; refine Kd.R_append_rows (Kd.int .u8) (w0 := w) w.heap.size rfl (.tmp 9) (.tmp 10) 40 5 (.int .u8 0) 1 rfl Try.underlying40 info5 rfl (by decide) (by omega) v339 t338 t341 _ _ _ (fun k_ => some k_ ≠ (.slice Ao12 t341.length co12 : Value).ownBlock) (fun _ => False) rfl rfl ?aO ?aR (fun _ _ h => h) (fun _ h => h.elim) ?aF ?aB ?aS ?aL ?_; (case aR => repeat (first | exact (Kd.R_reads' HO343.out).2.2 | (with_reducible refine Kd.C_alloc ?_ _) | (with_reducible refine Kd.C_drewN ?_ _) | (with_reducible refine Kd.C_drew ?_))); (case aB => exact (by repeat (first | (with_reducible first | exact HB.out | apply below_alloc | apply pw_below_drewN | apply below_drew1 | refine below_set ?_ GE337.out) | exact HB.out))); (case aF => exact (fun k_ hk => Kd.fresh' (Kd.R_lt (by (with_reducible repeat (first | apply Kd.R_alloc | apply Kd.R_drewN | apply Kd.R_drew)); exact HO343.out)) k_ hk)); (case aO => exact (by (with_reducible repeat (first | apply Kd.R_alloc | apply Kd.R_drewN | apply Kd.R_drew)); exact Kd.R_mono HO340.out (fun _ hk => hk.2))); (case aS => exact (below_size (by repeat (first | (with_reducible first | exact HB.out | apply below_alloc | apply pw_below_drewN | apply below_drew1 | refine below_set ?_ GE337.out) | exact HB.out)))); (case aL => have := LMc5.out; omega); intro v345 w11 ho hb hg hat; rw [← Ny344.out] at ho; have n0_ := Aside0.mk (blk_grown (g := gb337) (o := .cells #[.string a0_0, .bool true, .int .i64 a0_2, .int .i64 a0_3, .string a0_4] 27 (0, 0)) (by (with_reducible repeat (first | refine blk_drewN ?_ _ | refine blk_drew ?_ | refine blk_alloc ?_ _)); exact BK337.out) hg (Kd.R_ne HO340.out BK337.out (by decide))); have n1_ := Aside0.mk (Kd.R_after (ok := (fun _ => True)) (by (with_reducible repeat (first | apply Kd.R_alloc | apply Kd.R_drewN | apply Kd.R_drew)); exact HO343.out) hg hat); have n2_ := Aside0.mk (hb); have n3_ := Aside0.mk (ho); clear BK337; clear HO343; clear HB; clear HO340; have BK337 := n0_; have HO343 := n1_; have HB := n2_; have HO346 := n3_; clear n0_ n1_ n2_ n3_; clear ho hb hg hat))
     go_ret
     exact ⟨_, by first | rfl | (simp [errW_none, errW_some] <;> rfl) | (simp [*, errW_none, errW_some] <;> rfl), by (with_reducible repeat (first | apply Kd.R_alloc | apply Kd.R_drewN | apply Kd.R_drew)); exact Kd.R_mono HO346.out (fun _ hk => trivial), by repeat (first | (with_reducible first | exact HB.out | apply below_alloc | apply pw_below_drewN | apply below_drew1 | refine below_set ?_ GE337.out) | exact HB.out)⟩
   · rw [if_neg c5] at H
     exact absurd H (by simp)
 · replace c3 := Bool.eq_false_iff.mpr c3
   subst c3
   have H1 : ((loessref1_PutVal.f k a0_2 a0_3 a0_4).bind fun t347 => (if t338.length + t347.length < 140737488355328 then (some (t338 ++ t347)) else (none))) = some r := by rw [if_neg (show ¬ (false = true) by decide)] at H; exact H
   clear H
   have H := H1
   clear H1
   replace H := Option.bind_eq_some_iff.mp H
   obtain ⟨t347, A130, H⟩ := H
   replace H : (if t338.length + t347.length < 140737488355328 then (some (t338 ++ t347)) else (none)) = some r := H
   have A13 := Aside0.mk A130
   clear A130
   by_cases c14 : t338.length + t347.length < 140737488355328
   · rw [if_pos c14] at H
     have LMc14 := Aside0.mk c14
     clear c14
     obtain ⟨y350, hy350⟩ : ∃ y_ : List Int, y_ = (t338 ++ t347) := ⟨_, rfl⟩
     replace H : (some y350) = some r := by first | (rw [hy350]; with_reducible exact H) | (have H2_ := (Option.bind_some _ _).symm.trans H; rw [hy350]; with_reducible exact H2_) | (have H2_ := (Option.bind_some _ _).symm.trans H; with_reducible exact H2_) | with_reducible exact H | (rw [hy350]; exact H) | exact H
     have Ny350 := Aside0.mk hy350
     clear hy350
     obtain rfl := Option.some.inj H
     go_enter Try.func54, Try.ntmps54
     go_wp2_with (first | ((with_reducible refine gate_dst (N := 1) rfl ?_); refine box_event ?hg (N := 1) ?hd (cs := #[.string a0_0, .bool false, .int .i64 a0_2, .int .i64 a0_3, .string a0_4]) (t := 27) ?hr ?_; (case hd => rfl); (case hg => rfl); (case hr => first | (go_simp; done) | (go_simp; rfl)); intro gb337 hg w15 hbox hb; have n0_ := Aside0.mk (below_step (by repeat (first | (with_reducible first | exact HB.out | apply below_alloc | apply pw_below_drewN | apply below_drew1) | exact HB.out)) hb); have n1_ := Aside0.mk (hbox); have n2_ := Aside0.mk ((by rw [hg]; exact (below_size (by repeat (first | (with_reducible first | exact HB.out | apply below_alloc | apply pw_below_drewN | apply below_drew1) | exact HB.out))) : w.heap.size ≤ gb337)); have n3_ := Aside0.mk ((by rw [hg]; exact (below_size (by repeat (first | (with_reducible first | exact HB.out | apply below_alloc | apply pw_below_drewN | apply below_drew1) | exact HB.out))) : w.heap.size ≤ gb337)); clear HB; have HB := n0_; have BK337 := n1_; have GW337 := n2_; have GE337 := n3_; clear n0_ n1_ n2_ n3_; clear hb hbox hg; have hcz16_0 : w15.cell? ⟨gb337, 0, none⟩ = some (.string a0_0) := (blk_cell BK337.out 0).trans rfl; have hcz16_1 : w15.cell? ⟨gb337, 1, none⟩ = some (.bool false) := (blk_cell BK337.out 1).trans rfl; have hcz16_2 : w15.cell? ⟨gb337, 2, none⟩ = some (.int .i64 a0_2) := (blk_cell BK337.out 2).trans rfl; have hcz16_3 : w15.cell? ⟨gb337, 3, none⟩ = some (.int .i64 a0_3) := (blk_cell BK337.out 3).trans rfl; have hcz16_4 : w15.cell? ⟨gb337, 4, none⟩ = some (.string a0_4) := (blk_cell BK337.out 4).trans rfl; have hfz16_0 := blk_frozen BK337.out 0; have hfz16_1 := blk_frozen BK337.out 1; have hfz16_2 := blk_frozen BK337.out 2; have hfz16_3 := blk_frozen BK337.out 3; have hfz16_4 := blk_frozen BK337.out 4) | ((with_reducible refine gate_callee (f := 72) rfl ?_); refine goesL_ (some 6) rfl rfl Try.func72 (by kernel_rfl) rfl #[.string a0_0] rfl (by (try simp only [List.map_toArray, List.map_cons, List.map_nil]); first | done | rfl | (simp only [List.length_drop, List.length_take]; rfl)) ?_; (with_reducible refine (loessref1_PutText.calls k a0_0 t338 _ A2.out).mono ?_); rintro e w17 ⟨v339, rfl, ho0, hb⟩; refine ⟨_, rfl, ?_⟩; have n0_ := Aside0.mk (Kd.R_lower ho0 (below_size (by repeat (first | (with_reducible first | exact HB.out | apply below_alloc | apply pw_below_drewN | apply below_drew1 | refine below_set ?_ GE337.out) | exact HB.out)))); have n1_ := Aside0.mk (blk_below (g := gb337) (o := .cells #[.string a0_0, .bool false, .int .i64 a0_2, .int .i64 a0_3, .string a0_4] 27 (0, 0)) (by (with_reducible repeat (first | refine blk_drewN ?_ _ | refine blk_drew ?_ | refine blk_alloc ?_ _)); exact BK337.out) hb); have n2_ := Aside0.mk (below_step (by repeat (first | (with_reducible first | exact HB.out | apply below_alloc | apply pw_below_drewN | apply below_drew1 | refine below_set ?_ GE337.out) | exact HB.out)) hb); clear BK337; clear HB; have HO340 := n0_; have BK337 := n1_; have HB := n2_; clear n0_ n1_ n2_; (try clear hb); (try clear hb2); (try clear hk); (try clear hi); (try clear ho0); have hcz18_0 : w17.cell? ⟨gb337, 0, none⟩ = some (.string a0_0) := (blk_cell BK337.out 0).trans rfl; have hcz18_1 : w17.cell? ⟨gb337, 1, none⟩ = some (.bool false) := (blk_cell BK337.out 1).trans rfl; have hcz18_2 : w17.cell? ⟨gb337, 2, none⟩ = some (.int .i64 a0_2) := (blk_cell BK337.out 2).trans rfl; have hcz18_3 : w17.cell? ⟨gb337, 3, none⟩ = some (.int .i64 a0_3) := (blk_cell BK337.out 3).trans rfl; have hcz18_4 : w17.cell? ⟨gb337, 4, none⟩ = some (.string a0_4) := (blk_cell BK337.out 4).trans rfl; have hfz18_0 := blk_frozen BK337.out 0; have hfz18_1 := blk_frozen BK337.out 1; have hfz18_2 := blk_frozen BK337.out 2; have hfz18_3 := blk_frozen BK337.out 3; have hfz18_4 := blk_frozen BK337.out 4) | ((with_reducible refine gate_callee (f := 73) rfl ?_); refine goesL_ (some 15) rfl rfl Try.func73 (by kernel_rfl) rfl #[.agg #[.int .i64 a0_2, .int .i64 a0_3, .string a0_4]] rfl (by (try simp only [List.map_toArray, List.map_cons, List.map_nil]); first | done | rfl | (simp only [List.length_drop, List.length_take]; rfl)) ?_; (with_reducible refine (loessref1_PutVal.calls k a0_2 a0_3 a0_4 t347 _ A13.out).mono ?_); rintro e w19 ⟨v348, rfl, ho0, hb⟩; refine ⟨_, rfl, ?_⟩; have n0_ := Aside0.mk (Kd.R_elder' (by (with_reducible repeat (first | apply Kd.R_alloc | apply Kd.R_drewN | apply Kd.R_drew)); exact HO340.out) (Kd.R_base ho0) hb); have n1_ := Aside0.mk (Kd.R_lower (Kd.R_new' ho0 (Kd.R_lt (by (with_reducible repeat (first | apply Kd.R_alloc | apply Kd.R_drewN | apply Kd.R_drew)); exact HO340.out))) (below_size (by repeat (first | (with_reducible first | exact HB.out | apply below_alloc | apply pw_below_drewN | apply below_drew1 | refine below_set ?_ GE337.out) | exact HB.out)))); have n2_ := Aside0.mk (blk_below (g := gb337) (o := .cells #[.string a0_0, .bool false, .int .i64 a0_2, .int .i64 a0_3, .string a0_4] 27 (0, 0)) (by (with_reducible repeat (first | refine blk_drewN ?_ _ | refine blk_drew ?_ | refine blk_alloc ?_ _)); exact BK337.out) hb); have n3_ := Aside0.mk (below_step (by repeat (first | (with_reducible first | exact HB.out | apply below_alloc | apply pw_below_drewN | apply below_drew1 | refine below_set ?_ GE337.out) | exact HB.out)) hb); clear HO340; clear BK337; clear HB; have HO340 := n0_; have HO349 := n1_; have BK337 := n2_; have HB := n3_; clear n0_ n1_ n2_ n3_; (try clear hb); (try clear hb2); (try clear hk); (try clear hi); (try clear ho0); obtain ⟨Ao21, co21, eo21⟩ := Kd.R_slice HO349.out; subst eo21) | ((with_reducible refine gate_builtin (b := .append) (xs := #[.tmp 12, .tmp 15]) rfl ?_); at_builtin; refine Kd.R_append_rows (Kd.int .u8) (w0 := w) w.heap.size rfl (.tmp 12) (.tmp 15) 40 5 (.int .u8 0) 1 rfl Try.underlying40 info5 rfl (by decide) (by omega) v339 t338 t347 _ _ _ (fun k_ => some k_ ≠ (.slice Ao21 t347.length co21 : Value).ownBlock) (fun _ => False) rfl rfl ?aO ?aR (fun _ _ h => h) (fun _ h => h.elim) ?aF ?aB ?aS ?aL ?_; (case aR => repeat (first | exact (Kd.R_reads' HO349.out).2.2 | (with_reducible refine Kd.C_alloc ?_ _) | (with_reducible refine Kd.C_drewN ?_ _) | (with_reducible refine Kd.C_drew ?_))); (case aB => exact (by repeat (first | (with_reducible first | exact HB.out | apply below_alloc | apply pw_below_drewN | apply below_drew1 | refine below_set ?_ GE337.out) | exact HB.out))); (case aF => exact (fun k_ hk => Kd.fresh' (Kd.R_lt (by (with_reducible repeat (first | apply Kd.R_alloc | apply Kd.R_drewN | apply Kd.R_drew)); exact HO349.out)) k_ hk)); (case aO => exact (by (with_reducible repeat (first | apply Kd.R_alloc | apply Kd.R_drewN | apply Kd.R_drew)); exact Kd.R_mono HO340.out (fun _ hk => hk.2))); (case aS => exact (below_size (by repeat (first | (with_reducible first | exact HB.out | apply below_alloc | apply pw_below_drewN | apply below_drew1 | refine below_set ?_ GE337.out) | exact HB.out)))); (case aL => have := LMc14.out; omega); intro v351 w20 ho hb hg hat; rw [← Ny350.out] at ho; have n0_ := Aside0.mk (blk_grown (g := gb337) (o := .cells #[.string a0_0, .bool false, .int .i64 a0_2, .int .i64 a0_3, .string a0_4] 27 (0, 0)) (by (with_reducible repeat (first | refine blk_drewN ?_ _ | refine blk_drew ?_ | refine blk_alloc ?_ _)); exact BK337.out) hg (Kd.R_ne HO340.out BK337.out (by decide))); have n1_ := Aside0.mk (Kd.R_after (ok := (fun _ => True)) (by (with_reducible repeat (first | apply Kd.R_alloc | apply Kd.R_drewN | apply Kd.R_drew)); exact HO349.out) hg hat); have n2_ := Aside0.mk (hb); have n3_ := Aside0.mk (ho); clear BK337; clear HO349; clear HB; clear HO340; have BK337 := n0_; have HO349 := n1_; have HB := n2_; have HO352 := n3_; clear n0_ n1_ n2_ n3_; clear ho hb hg hat))
     go_ret
     exact ⟨_, by first | rfl | (simp [errW_none, errW_some] <;> rfl) | (simp [*, errW_none, errW_some] <;> rfl), by (with_reducible repeat (first | apply Kd.R_alloc | apply Kd.R_drewN | apply Kd.R_drew)); exact Kd.R_mono HO352.out (fun _ hk => trivial), by repeat (first | (with_reducible first | exact HB.out | apply below_alloc | apply pw_below_drewN | apply below_drew1 | refine below_set ?_ GE337.out) | exact HB.out)⟩
   · rw [if_neg c14] at H
     exact absurd H (by simp)
end Go.Proofs.Ytkhcmddeeodbkaa.XSor
namespace Go.Proofs.Ytkhcmddeeodbkaa.Q
open Go.RowKit Go.Proofs.YtkhcmddeeodbkaaW.PrintWords Go.Proofs.YtkhcmddeeodbkaaW.PrintMore Go.Proofs.Ytkhcmddeeodbkaa.G Go.Proofs.Ytkhcmddeeodbkaa.XSor
abbrev Rc := S27
def keyB (s : ByteArray) : Bool := decide (1 ≤ s.size ∧ s.size ≤ 16)
def mayR (x : Rc) : Bool := keyB x.f0 && (if x.f1 = true then decide (x.f2.f0 = 0 ∧ x.f2.f1 = 0 ∧ x.f2.f2.size = 0) else mayV x.f2.f0 x.f2.f1 x.f2.f2)
theorem key_May_eq (s : ByteArray) : key_May.f s = some (keyB s) := by
 unfold key_May.f keyB
 by_cases h : s.toList = ([] : List UInt8)
 · rw [if_pos h]
   have := (nil_iff s).1 h
   rw [decide_eq_false (by omega)]
 · rw [if_neg h]
   have : s.size ≠ 0 := fun e => h ((nil_iff s).2 e)
   congr 1
   exact decide_eq_decide.2 (by omega)
theorem mayKey_eq (s : ByteArray) : loessref1_MayKey.f s = some (keyB s) := by
 unfold loessref1_MayKey.f keyB
 by_cases h : (s.size : Int) ≥ 1
 · rw [if_pos h]
   congr 1
   exact decide_eq_decide.2 (by omega)
 · rw [if_neg h, decide_eq_false (by omega)]
theorem ofV_may (a b : Int) (s : ByteArray) : ((ofV a b s).2 == 0) = mayV a b s := by
 unfold ofV mayV
 by_cases h1 : a = 1 ∧ s.size = 0
 · rw [if_pos h1, decide_eq_true (.inl h1)]; rfl
 · rw [if_neg h1]
   by_cases h2 : a = 2 ∧ b = 0 ∧ s.size ≤ 24 ∧ vld s = true
   · rw [if_pos h2, decide_eq_true (.inr h2)]; rfl
   · rw [if_neg h2, decide_eq_false (fun h => h.elim h1 h2)]; rfl
theorem nil_beq (s : ByteArray) : (s.toList == ([] : List UInt8)) = decide (s.size = 0) := by
 by_cases h : s.size = 0
 · rw [(nil_iff s).2 h, decide_eq_true h]; rfl
 · rw [decide_eq_false h]
   exact beq_eq_false_iff_ne.mpr (fun e => h ((nil_iff s).1 e))
theorem record_May_ev (x : Rc) (h : x.f2.f2.size < 17592186044416) : Ev (fun k => record_May.f k x.f0 x.f1 x.f2.f0 x.f2.f1 x.f2.f2) (mayR x) := by
 unfold record_May.f mayR
 refine Ev.bind (evC (key_May_eq x.f0)) ?_
 by_cases hk : keyB x.f0 = true
 · refine Ev.congr (fun k => if_pos hk) ?_
   rw [hk, Bool.true_and]
   by_cases hg : x.f1 = true
   · refine Ev.congr (fun k => if_pos hg) (evC ?_)
     rw [if_pos hg, nil_beq]
     simp [Bool.beq_eq_decide_eq]
   · refine Ev.congr (fun k => if_neg hg) ?_
     rw [if_neg hg]
     refine Ev.bind (value_Of_ev _ _ (by omega)) (evC ?_)
     rw [ofV_may]
 · refine Ev.congr (fun k => if_neg hk) (evC ?_)
   rw [Bool.eq_false_iff.2 hk]
   rfl
theorem rc_ext {x y : Rc} : (x.f0 = y.f0 ∧ x.f1 = y.f1 ∧ x.f2.f0 = y.f2.f0 ∧ x.f2.f1 = y.f2.f1 ∧ x.f2.f2 = y.f2.f2) ↔ x = y := by
 constructor
 · rintro ⟨h1, h2, h3, h4, h5⟩
   obtain ⟨a, b, c, d, e⟩ := x
   obtain ⟨a', b', c', d', e'⟩ := y
   simp only at h1 h2 h3 h4 h5
   rw [h1, h2, h3, h4, h5]
 · rintro rfl; exact ⟨rfl, rfl, rfl, rfl, rfl⟩
instance : DecidableEq Rc := fun x y => decidable_of_iff _ (rc_ext (x := x) (y := y))
def putR (x : Rc) : List Int := putT x.f0 ++ (if x.f1 = true then putN 0 else putV x.f2.f0 x.f2.f1 x.f2.f2)
theorem putR_byt (x : Rc) : Byt (putR x) := by
 unfold putR
 refine (putT_byt _).append ?_
 split
 · exact putN_byt 0
 · exact putV_byt _ _ _
def SmR (x : Rc) : Prop := x.f0.size ≤ 20 ∧ x.f2.f2.size ≤ 30 ∧ I64 x.f2.f0 ∧ I64 x.f2.f1
theorem putR_len {x : Rc} (h : SmR x) : (putR x).length ≤ 80 := by
 obtain ⟨h1, h2, h3, h4⟩ := h
 have a1 := putT_len h1 (by decide)
 have a2 := putV_len h3 h4 h2 (by decide)
 have a3 := putN_len (n := 0) (by unfold I64; omega)
 unfold putR
 rw [List.length_append]
 split <;> omega
theorem record_Put_ev {x : Rc} (h : SmR x) (l : List Int) (hl : l.length ≤ 17592186044416) : Ev (fun k => record_Put.f k l x.f0 x.f1 x.f2.f0 x.f2.f1 x.f2.f2) (l ++ putR x) := by
 obtain ⟨h1, h2, h3, h4⟩ := h
 have a1 := putT_len h1 (by decide)
 unfold record_Put.f putR
 refine Ev.bind (num_PutText_ev (by omega) l (by omega)) ?_
 by_cases g : x.f1 = true
 · refine Ev.congr (fun k => if_pos g) ?_
   rw [if_pos g, ← List.append_assoc]
   exact Ev.bind (num_Put_ev (by unfold I64; omega) (l ++ putT x.f0) (by rw [List.length_append]; omega)) (Ev.now _)
 · refine Ev.congr (fun k => if_neg g) ?_
   rw [if_neg g, ← List.append_assoc]
   exact Ev.bind (value_Put_ev h3 h4 (by omega) (l ++ putT x.f0) (by rw [List.length_append]; omega)) (Ev.now _)
theorem getV_bound (l : List Int) : 0 ≤ (getV l).2.2.2.1 ∧ (getV l).2.2.2.1 ≤ (l.length : Int) := by
 have b1 := getN_bound l
 have b2 := getN_bound (l.drop (getN l).2.1.toNat)
 have b3 := getT_bound (l.drop (getN l).2.1.toNat)
 rw [List.length_drop] at b2 b3
 unfold getV
 split
 · split
   · split
     · simp only; omega
     · simp
   · split
     · split
       · split
         · simp only; omega
         · simp
       · simp
     · simp
 · simp
def zR : Rc := ⟨⟨#[]⟩, false, ⟨0, 0, ⟨#[]⟩⟩⟩
def tailR (key : ByteArray) (p : Int) (r : List Int) : Rc × Int × Int :=
 if (getN r).2.2 = 0 then
  if (getN r).1 = 0 then (⟨key, true, ⟨0, 0, ⟨#[]⟩⟩⟩, p + (getN r).2.1, 0)
  else if (getV r).2.2.2.2 = 0 then (⟨key, false, ⟨(getV r).1, (getV r).2.1, (getV r).2.2.1⟩⟩, p + (getV r).2.2.2.1, 0)
  else (zR, 0, (getV r).2.2.2.2)
 else (zR, 0, (getN r).2.2)
def getR (l : List Int) : Rc × Int × Int :=
 if (getT l).2.2 = 0 then
  if keyB (getT l).1 = true then tailR (getT l).1 (getT l).2.1 (l.drop (getT l).2.1.toNat) else (zR, 0, 1)
 else (zR, 0, (getT l).2.2)
theorem tailR_bound (key : ByteArray) (p : Int) (r : List Int) (n : Int) (h0 : 0 ≤ p) (h1 : p + r.length ≤ n) : 0 ≤ (tailR key p r).2.1 ∧ (tailR key p r).2.1 ≤ n := by
 have b1 := getN_bound r
 have b2 := getV_bound r
 unfold tailR
 split
 · split
   · simp only; omega
   · split
     · simp only; omega
     · simp only; omega
 · simp only; omega
theorem getR_bound (l : List Int) : 0 ≤ (getR l).2.1 ∧ (getR l).2.1 ≤ (l.length : Int) := by
 have b := getT_bound l
 unfold getR
 split
 · split
   · exact tailR_bound _ _ _ _ b.1 (by rw [List.length_drop]; omega)
   · simp
 · simp
theorem getN_val {x : Rc} (h : mayV x.f2.f0 x.f2.f1 x.f2.f2 = true) (rest : List Int) : (getN (putV x.f2.f0 x.f2.f1 x.f2.f2 ++ rest)).2.2 = 0 ∧ (getN (putV x.f2.f0 x.f2.f1 x.f2.f2 ++ rest)).1 = x.f2.f0 := by
 unfold putV
 rw [List.append_assoc, getN_put (mayV_i64 h)]
 exact ⟨rfl, rfl⟩
theorem mayR_sm {x : Rc} (h : mayR x = true) (hb : I64 x.f2.f1) : SmR x := by
 unfold mayR at h
 rw [Bool.and_eq_true] at h
 have h1 := of_decide_eq_true h.1
 have h2 := h.2
 by_cases g : x.f1 = true
 · rw [if_pos g] at h2
   have h3 := of_decide_eq_true h2
   refine ⟨by omega, by omega, ?_, hb⟩
   unfold I64
   omega
 · rw [if_neg g] at h2
   exact ⟨by omega, by have := mayV_size h2; omega, mayV_i64 h2, hb⟩
theorem getR_put {x : Rc} (h : mayR x = true) (hb : I64 x.f2.f1) (rest : List Int) : getR (putR x ++ rest) = (x, ((putR x).length : Int), 0) := by
 have hs := mayR_sm h hb
 unfold mayR at h
 rw [Bool.and_eq_true] at h
 obtain ⟨r, hr⟩ : ∃ r, r = (if x.f1 = true then putN 0 else putV x.f2.f0 x.f2.f1 x.f2.f2) := ⟨_, rfl⟩
 have e0 : putR x = putT x.f0 ++ r := by rw [hr]; rfl
 have e1 : getT (putR x ++ rest) = (x.f0, ((putT x.f0).length : Int), 0) := by rw [e0, List.append_assoc]; exact getT_put (by have := hs.1; omega) _
 have e2 : (putR x ++ rest).drop ((putT x.f0).length : Int).toNat = r ++ rest := by rw [e0, List.append_assoc, Int.toNat_natCast]; exact List.drop_left
 have e3 : (putR x).length = (putT x.f0).length + r.length := by rw [e0, List.length_append]
 unfold getR
 rw [e1]
 simp only [if_true]
 rw [if_pos h.1, e2, e3]
 unfold tailR
 by_cases g : x.f1 = true
 · rw [if_pos g] at hr
   have h3 := of_decide_eq_true (show decide (x.f2.f0 = 0 ∧ x.f2.f1 = 0 ∧ x.f2.f2.size = 0) = true by have := h.2; rw [if_pos g] at this; exact this)
   have e4 : getN (r ++ rest) = (0, ((putN 0).length : Int), 0) := by rw [hr]; exact getN_put (by unfold I64; omega) _
   rw [e4]
   simp only [if_true]
   refine Prod.ext (rc_ext.1 ⟨rfl, g.symm, h3.1.symm, h3.2.1.symm, (size0 h3.2.2).symm⟩) (Prod.ext ?_ rfl)
   rw [hr]
   show ((putT x.f0).length : Int) + ((putN 0).length : Int) = (((putT x.f0).length + (putN 0).length : Nat) : Int)
   omega
 · rw [if_neg g] at hr
   have h3 : mayV x.f2.f0 x.f2.f1 x.f2.f2 = true := by have := h.2; rw [if_neg g] at this; exact this
   have e4 := getN_val h3 rest
   have e5 : getV (r ++ rest) = (x.f2.f0, x.f2.f1, x.f2.f2, ((putV x.f2.f0 x.f2.f1 x.f2.f2).length : Int), 0) := by rw [hr]; exact getV_put h3 hb rest
   rw [← hr] at e4
   rw [if_pos e4.1, if_neg (by rw [e4.2]; rcases mayV_a h3 with e | e <;> omega), e5]
   simp only [if_true]
   refine Prod.ext (rc_ext.1 ⟨rfl, (Bool.eq_false_iff.2 g).symm, rfl, rfl, rfl⟩) (Prod.ext ?_ rfl)
   rw [hr]
   show ((putT x.f0).length : Int) + ((putV x.f2.f0 x.f2.f1 x.f2.f2).length : Int) = (((putT x.f0).length + (putV x.f2.f0 x.f2.f1 x.f2.f2).length : Nat) : Int)
   omega
end Go.Proofs.Ytkhcmddeeodbkaa.Q
namespace Go.Proofs.Ytkhcmddeeodbkaa.Q
open Go.RowKit
theorem bl_irr : ∀ a : List UInt8, Op.bytesLess a a = false := by
 intro a
 induction a with
 | nil => rfl
 | cons x a ih => simp [Op.bytesLess, ih]
theorem bl_trans : ∀ a b c : List UInt8, Op.bytesLess a b = true → Op.bytesLess b c = true → Op.bytesLess a c = true := by
 intro a
 induction a with
 | nil =>
   intro b c h1 h2
   cases c with
   | nil => cases b <;> simp [Op.bytesLess] at h2
   | cons z c => rfl
 | cons x a ih =>
   intro b c h1 h2
   cases b with
   | nil => simp [Op.bytesLess] at h1
   | cons y b =>
     cases c with
     | nil => simp [Op.bytesLess] at h2
     | cons z c =>
       simp only [Op.bytesLess, Bool.or_eq_true, decide_eq_true_eq, Bool.and_eq_true, beq_iff_eq] at h1 h2 ⊢
       rcases h1 with h1 | ⟨h1, h1'⟩ <;> rcases h2 with h2 | ⟨h2, h2'⟩
       · exact .inl (UInt8.lt_trans h1 h2)
       · exact .inl (by rw [← h2]; exact h1)
       · exact .inl (by rw [h1]; exact h2)
       · exact .inr ⟨h1.trans h2, ih b c h1' h2'⟩
theorem bl_tri : ∀ a b : List UInt8, Op.bytesLess a b = false → Op.bytesLess b a = false → a = b := by
 intro a
 induction a with
 | nil =>
   intro b h1 h2
   cases b with
   | nil => rfl
   | cons y b => simp [Op.bytesLess] at h1
 | cons x a ih =>
   intro b h1 h2
   cases b with
   | nil => simp [Op.bytesLess] at h2
   | cons y b =>
     simp only [Op.bytesLess, Bool.or_eq_false_iff, decide_eq_false_iff_not, Bool.and_eq_false_iff, beq_eq_false_iff_ne] at h1 h2
     have e : x = y := by
      have g1 := h1.1
      have g2 := h2.1
      rw [UInt8.lt_iff_toNat_lt] at g1 g2
      exact UInt8.toNat_inj.1 (by omega)
     subst e
     rw [ih b (by rcases h1.2 with h | h; exact absurd rfl h; exact h) (by rcases h2.2 with h | h; exact absurd rfl h; exact h)]
end Go.Proofs.Ytkhcmddeeodbkaa.Q
namespace Go.Proofs.Ytkhcmddeeodbkaa.XSor
open Go.RowKit Go.Proofs.Ytkhcmddeeodbkaa.G Go.Proofs.YtkhcmddeeodbkaaW.PrintWords Go.Proofs.YtkhcmddeeodbkaaW.PrintLast Go.Proofs.YtkhcmddeeodbkaaW.PrintMore
attribute [local go_sem] max2_int min2_int max_two min_two max_three min_three max_four min_four
def hash_Of.l0 : Nat → Int → List Int → Int → Int → Option (Int)
 | 0, _, _, _, _ => none
 | k + 1, x3, x7, x8, x9 => if x9 < x8 then (if 0 ≤ x9 then (if x9 < (x7.length : Int) then (hash_Of.l0 k (IntKind.u64.wrap ((Go.bits .xor .u64 x3 (IntKind.u64.wrap (rd x7 x9))) * 1099511628211)) x7 x8 (wrap64 (x9 + 1))) else (none)) else (none)) else (some (Go.bits .xor .u64 (IntKind.u64.wrap ((Go.bits .xor .u64 x3 (x3 / 4294967296)) * 11400714819323198485)) ((IntKind.u64.wrap ((Go.bits .xor .u64 x3 (x3 / 4294967296)) * 11400714819323198485)) / 536870912)))
def hash_Of.f (k : Nat) (a0 : ByteArray) : Option (Int) := (runes_Of.f a0).bind fun t101 => (hash_Of.l0 k 14695981039346656037 t101 (t101.length : Int) 0)
theorem hash_Of.mono_l : ∀ k, (∀ y0 y1 y2 y3, LeO (hash_Of.l0 k y0 y1 y2 y3) (hash_Of.l0 (k + 1) y0 y1 y2 y3))
 | 0 => fun _ _ _ _ r h => by simp [hash_Of.l0] at h
 | k + 1 => by
   have ih0 := hash_Of.mono_l k
   · intro y0 y1 y2 y3
     unfold hash_Of.l0
     repeat' first
     | (with_reducible exact ih0 _ _ _ _)
     | (with_reducible exact LeO.refl _)
     | (with_reducible exact LeO.none _)
     | (with_reducible refine LeO.ite ?_ ?_)
     | (with_reducible refine LeO.bind ?_ (fun _ => ?_))
     | exact ih0 _ _ _ _
     | exact LeO.none _
     | refine LeO.ite ?_ ?_
     | refine LeO.bind ?_ (fun _ => ?_)
theorem hash_Of.mono : ∀ a0 k, LeO (hash_Of.f k a0) (hash_Of.f (k + 1) a0) := by
 intro a0 k
 have ih0 := hash_Of.mono_l k
 unfold hash_Of.f
 repeat' first
     | (with_reducible exact ih0 _ _ _ _)
     | (with_reducible exact LeO.refl _)
     | (with_reducible exact LeO.none _)
     | (with_reducible refine LeO.ite ?_ ?_)
     | (with_reducible refine LeO.bind ?_ (fun _ => ?_))
     | exact ih0 _ _ _ _
     | exact LeO.none _
     | refine LeO.ite ?_ ?_
     | refine LeO.bind ?_ (fun _ => ?_)
set_option maxHeartbeats 8000000 in
set_option maxRecDepth 100000 in
theorem hash_Of.calls (k : Nat) (a0 : ByteArray) (r : Int) (w : World) (h : hash_Of.f k a0 = some r) :
    Calls Try.prog 32 #[.string a0] w fun e w' => e = .returned (.int .u64 r) ∧ Below w.heap.size w w' := by
 have HB := Aside0.mk (Below.refl w.heap.size w)
 have H : ((runes_Of.f a0).bind fun t101 => (hash_Of.l0 k 14695981039346656037 t101 (t101.length : Int) 0)) = some r := h
 clear h
 replace H := Option.bind_eq_some_iff.mp H
 obtain ⟨t101, A20, H⟩ := H
 replace H : (hash_Of.l0 k 14695981039346656037 t101 (t101.length : Int) 0) = some r := H
 have A2 := Aside0.mk A20
 clear A20
 have H' := Aside0.mk H
 clear H
 go_enter Try.func32, Try.ntmps32
 go_wp2_with (first | ((with_reducible refine gate_callee (f := 57) rfl ?_); refine goesL_ (some 7) rfl rfl Try.func57 (by kernel_rfl) rfl #[.string a0] rfl (by (try simp only [List.map_toArray, List.map_cons, List.map_nil]); first | done | rfl | (simp only [List.length_drop, List.length_take]; rfl)) ?_; (with_reducible refine (runes_Of.calls a0 t101 _ A2.out).mono ?_); rintro e w3 ⟨v102, rfl, ho0, hb⟩; refine ⟨_, rfl, ?_⟩; have n0_ := Aside0.mk (Kd.R_lower ho0 (below_size (by repeat (first | (with_reducible first | exact HB.out | apply below_alloc | apply pw_below_drewN | apply below_drew1) | exact HB.out)))); have n1_ := Aside0.mk (below_step (by repeat (first | (with_reducible first | exact HB.out | apply below_alloc | apply pw_below_drewN | apply below_drew1) | exact HB.out)) hb); clear HB; have HO103 := n0_; have HB := n1_; clear n0_ n1_; (try clear hb); (try clear hb2); (try clear hk); (try clear hi); (try clear ho0); obtain ⟨Ao4, co4, eo4⟩ := Kd.R_slice HO103.out; subst eo4))
 go_loopg [3, 9] k (fun kq v3 v9 w' => ∃ (x3_1 : Int) (x9_1 : Int), v3 = .int .u64 x3_1 ∧ v9 = .int .i64 x9_1 ∧ Aside0 (hash_Of.l0 kq x3_1 t101 (t101.length : Int) x9_1 = some r) ∧ Aside0 (kq ≤ k) ∧ Aside0 (Kd.R (Kd.int .i32) 21 w' w.heap.size (fun _ => True) (.slice Ao4 t101.length co4) t101) ∧ Aside0 (Below w.heap.size w w'))
 case atStart => exact ⟨(14695981039346656037), (0), (by first | rfl | (simp; done) | (simp [*]; done)), (by first | rfl | (simp; done) | (simp [*]; done)), H', ⟨Nat.le_refl _⟩, ⟨by (with_reducible repeat (first | apply Kd.R_alloc | apply Kd.R_drewN | apply Kd.R_drew)); exact HO103.out⟩, ⟨by repeat (first | (with_reducible first | exact HB.out | apply below_alloc | apply pw_below_drewN | apply below_drew1) | exact HB.out)⟩⟩
 case round =>
  clear H'
  try clear p2
  try clear c3
  obtain ⟨x3_1, x9_1, rfl, rfl, HA, HK1, HO_7, HB⟩ := hrel
  cases gk with
  | zero => exact absurd HA.out (by simp [hash_Of.l0])
  | succ k1 =>
    have H := HA.out
    clear HA
    simp only [hash_Of.l0] at H
    by_cases c5 : x9_1 < (t101.length : Int)
    · rw [if_pos c5] at H
      have c5b0 : decide (x9_1 < (t101.length : Int)) = true := decide_eq_true c5
      clear c5
      by_cases c6 : 0 ≤ x9_1
      · rw [if_pos c6] at H
        have c6b0 : decide (0 ≤ x9_1) = true := decide_eq_true c6
        clear c6
        by_cases c7 : x9_1 < (t101.length : Int)
        · rw [if_pos c7] at H
          have c7b0 : decide (x9_1 < (t101.length : Int)) = true := decide_eq_true c7
          clear c7
          have H' := Aside0.mk H
          clear H
          have p104 : 0 ≤ (x9_1 : Int) := of_decide_eq_true (by first | (with_reducible assumption) | assumption)
          have q104 : x9_1 < (t101.length : Int) := of_decide_eq_true (by first | (with_reducible assumption) | assumption)
          obtain ⟨ad104, e104, hx104_0⟩ := Kd.at_int (Kd.R_reads' HO_7.out).2.2 x9_1 p104 q104
          cases e104
          replace p104 := eq_true p104
          replace q104 := eq_true q104
          go_wp2
          go_roundg k1
          case measure => have := HK1.out; omega
          case rel => exact ⟨(IntKind.u64.wrap ((Go.bits .xor .u64 x3_1 (IntKind.u64.wrap (rd t101 x9_1))) * 1099511628211)), (wrap64 (x9_1 + 1)), (by first | rfl | (simp; done) | (simp [*]; done)), (by first | rfl | (simp; done) | (simp [*]; done)), H', ⟨by have := HK1.out; omega⟩, ⟨by (with_reducible repeat (first | apply Kd.R_alloc | apply Kd.R_drewN | apply Kd.R_drew)); exact HO_7.out⟩, ⟨by repeat (first | (with_reducible first | exact HB.out | apply below_alloc | apply pw_below_drewN | apply below_drew1) | exact HB.out)⟩⟩
        · rw [if_neg c7] at H
          exact absurd H (by simp)
      · rw [if_neg c6] at H
        exact absurd H (by simp)
    · rw [if_neg c5] at H
      have c5b0 : decide (x9_1 < (t101.length : Int)) = false := decide_eq_false c5
      clear c5
      obtain rfl := Option.some.inj H
      go_wp2
      go_ret
      exact ⟨by first | rfl | (simp [errW_none, errW_some] <;> rfl) | (simp [*, errW_none, errW_some] <;> rfl), by repeat (first | (with_reducible first | exact HB.out | apply below_alloc | apply pw_below_drewN | apply below_drew1) | exact HB.out)⟩
end Go.Proofs.Ytkhcmddeeodbkaa.XSor
namespace Go.Proofs.Ytkhcmddeeodbkaa.XSor
open Go.RowKit Go.Proofs.Ytkhcmddeeodbkaa.G Go.Proofs.YtkhcmddeeodbkaaW.PrintWords Go.Proofs.YtkhcmddeeodbkaaW.PrintLast Go.Proofs.YtkhcmddeeodbkaaW.PrintMore
attribute [local go_sem] max2_int min2_int max_two min_two max_three min_three max_four min_four
def loessref6_Hash.l0 : Nat → Int → List Int → Int → Option (Int)
 | 0, _, _, _ => none
 | k + 1, x3, x4, x6 => if x6 < (x4.length : Int) then (if 0 ≤ x6 then (loessref6_Hash.l0 k (IntKind.u64.wrap ((Go.bits .xor .u64 x3 (IntKind.u64.wrap (rd x4 x6))) * 1099511628211)) x4 (wrap64 (x6 + 1))) else (none)) else (some (Go.bits .xor .u64 (IntKind.u64.wrap ((Go.bits .xor .u64 x3 (x3 / 4294967296)) * 11400714819323198485)) ((IntKind.u64.wrap ((Go.bits .xor .u64 x3 (x3 / 4294967296)) * 11400714819323198485)) / 536870912)))
def loessref6_Hash.f (k : Nat) (a0 : ByteArray) : Option (Int) := (loessref1_Runes.f k a0).bind fun bt168 => (loessref6_Hash.l0 k 14695981039346656037 bt168.1 0)
theorem loessref6_Hash.mono_l : ∀ k, (∀ y0 y1 y2, LeO (loessref6_Hash.l0 k y0 y1 y2) (loessref6_Hash.l0 (k + 1) y0 y1 y2))
 | 0 => fun _ _ _ r h => by simp [loessref6_Hash.l0] at h
 | k + 1 => by
   have ih0 := loessref6_Hash.mono_l k
   · intro y0 y1 y2
     unfold loessref6_Hash.l0
     repeat' first
     | (with_reducible exact ih0 _ _ _)
     | (with_reducible exact loessref1_Runes.mono _ _)
     | (with_reducible exact LeO.refl _)
     | (with_reducible exact LeO.none _)
     | (with_reducible refine LeO.ite ?_ ?_)
     | (with_reducible refine LeO.bind ?_ (fun _ => ?_))
     | exact ih0 _ _ _
     | exact loessref1_Runes.mono _ _
     | exact LeO.none _
     | refine LeO.ite ?_ ?_
     | refine LeO.bind ?_ (fun _ => ?_)
theorem loessref6_Hash.mono : ∀ a0 k, LeO (loessref6_Hash.f k a0) (loessref6_Hash.f (k + 1) a0) := by
 intro a0 k
 have ih0 := loessref6_Hash.mono_l k
 unfold loessref6_Hash.f
 repeat' first
     | (with_reducible exact ih0 _ _ _)
     | (with_reducible exact loessref1_Runes.mono _ _)
     | (with_reducible exact LeO.refl _)
     | (with_reducible exact LeO.none _)
     | (with_reducible refine LeO.ite ?_ ?_)
     | (with_reducible refine LeO.bind ?_ (fun _ => ?_))
     | exact ih0 _ _ _
     | exact loessref1_Runes.mono _ _
     | exact LeO.none _
     | refine LeO.ite ?_ ?_
     | refine LeO.bind ?_ (fun _ => ?_)
set_option maxHeartbeats 8000000 in
set_option maxRecDepth 100000 in
theorem loessref6_Hash.calls (k : Nat) (a0 : ByteArray) (r : Int) (w : World) (h : loessref6_Hash.f k a0 = some r) :
    Calls Try.prog 39 #[.string a0] w fun e w' => e = .returned (.int .u64 r) ∧ Below w.heap.size w w' := by
 have HB := Aside0.mk (Below.refl w.heap.size w)
 have H : ((loessref1_Runes.f k a0).bind fun bt168 => (loessref6_Hash.l0 k 14695981039346656037 bt168.1 0)) = some r := h
 clear h
 replace H := Option.bind_eq_some_iff.mp H
 obtain ⟨⟨t168, t169⟩, A20, H⟩ := H
 replace H : (loessref6_Hash.l0 k 14695981039346656037 t168 0) = some r := H
 have A2 := Aside0.mk A20
 clear A20
 have H' := Aside0.mk H
 clear H
 go_enter Try.func39, Try.ntmps39
 go_wp2_with (first | ((with_reducible refine gate_callee (f := 62) rfl ?_); refine goesL_ (some 9) rfl rfl Try.func62 (by kernel_rfl) rfl #[.string a0] rfl (by (try simp only [List.map_toArray, List.map_cons, List.map_nil]); first | done | rfl | (simp only [List.length_drop, List.length_take]; rfl)) ?_; (with_reducible refine (loessref1_Runes.calls k a0 t168 t169 _ A2.out).mono ?_); rintro e w3 ⟨v170, v172, rfl, ho0, ho1, hb⟩; refine ⟨_, rfl, ?_⟩; have n0_ := Aside0.mk (Kd.R_lower ho0 (below_size (by repeat (first | (with_reducible first | exact HB.out | apply below_alloc | apply pw_below_drewN | apply below_drew1) | exact HB.out)))); have n1_ := Aside0.mk (Kd.R_lower ho1 (below_size (by repeat (first | (with_reducible first | exact HB.out | apply below_alloc | apply pw_below_drewN | apply below_drew1) | exact HB.out)))); have n2_ := Aside0.mk (below_step (by repeat (first | (with_reducible first | exact HB.out | apply below_alloc | apply pw_below_drewN | apply below_drew1) | exact HB.out)) hb); clear HB; have HO171 := n0_; have HO173 := n1_; have HB := n2_; clear n0_ n1_ n2_; (try clear hb); (try clear hb2); (try clear hk); (try clear hi); (try clear ho0); (try clear ho1)))
 go_loopg [3, 6] k (fun kq v3 v6 w' => ∃ (x3_1 : Int) (x6_1 : Int), v3 = .int .u64 x3_1 ∧ v6 = .int .i64 x6_1 ∧ Aside0 (loessref6_Hash.l0 kq x3_1 t168 x6_1 = some r) ∧ Aside0 (kq ≤ k) ∧ Aside0 (Kd.R (Kd.int .i32) 21 w' w.heap.size (fun _ => True) v170 t168) ∧ Aside0 (Below w.heap.size w w'))
 case atStart => exact ⟨(14695981039346656037), (0), (by first | rfl | (simp; done) | (simp [*]; done)), (by first | rfl | (simp; done) | (simp [*]; done)), H', ⟨Nat.le_refl _⟩, ⟨by (with_reducible repeat (first | apply Kd.R_alloc | apply Kd.R_drewN | apply Kd.R_drew)); exact HO171.out⟩, ⟨by repeat (first | (with_reducible first | exact HB.out | apply below_alloc | apply pw_below_drewN | apply below_drew1) | exact HB.out)⟩⟩
 case round =>
  clear H'
  try clear p2
  try clear c3
  obtain ⟨x3_1, x6_1, rfl, rfl, HA, HK1, HO_4, HB⟩ := hrel
  cases gk with
  | zero => exact absurd HA.out (by simp [loessref6_Hash.l0])
  | succ k1 =>
    have H := HA.out
    clear HA
    simp only [loessref6_Hash.l0] at H
    by_cases c4 : x6_1 < (t168.length : Int)
    · rw [if_pos c4] at H
      have c4b0 : decide (x6_1 < (t168.length : Int)) = true := decide_eq_true c4
      clear c4
      by_cases c5 : 0 ≤ x6_1
      · rw [if_pos c5] at H
        have c5b0 : decide (0 ≤ x6_1) = true := decide_eq_true c5
        clear c5
        have H' := Aside0.mk H
        clear H
        obtain ⟨Ao6, co6, eo6⟩ := Kd.R_slice HO_4.out
        subst eo6
        have p174 : 0 ≤ (x6_1 : Int) := of_decide_eq_true (by first | (with_reducible assumption) | assumption)
        have q174 : x6_1 < (t168.length : Int) := of_decide_eq_true (by first | (with_reducible assumption) | assumption)
        obtain ⟨ad174, e174, hx174_0⟩ := Kd.at_int (Kd.R_reads' HO_4.out).2.2 x6_1 p174 q174
        cases e174
        replace p174 := eq_true p174
        replace q174 := eq_true q174
        go_wp2
        go_roundg k1
        case measure => have := HK1.out; omega
        case rel => exact ⟨(IntKind.u64.wrap ((Go.bits .xor .u64 x3_1 (IntKind.u64.wrap (rd t168 x6_1))) * 1099511628211)), (wrap64 (x6_1 + 1)), (by first | rfl | (simp; done) | (simp [*]; done)), (by first | rfl | (simp; done) | (simp [*]; done)), H', ⟨by have := HK1.out; omega⟩, ⟨by (with_reducible repeat (first | apply Kd.R_alloc | apply Kd.R_drewN | apply Kd.R_drew)); exact HO_4.out⟩, ⟨by repeat (first | (with_reducible first | exact HB.out | apply below_alloc | apply pw_below_drewN | apply below_drew1) | exact HB.out)⟩⟩
      · rw [if_neg c5] at H
        exact absurd H (by simp)
    · rw [if_neg c4] at H
      have c4b0 : decide (x6_1 < (t168.length : Int)) = false := decide_eq_false c4
      clear c4
      obtain rfl := Option.some.inj H
      obtain ⟨Ao7, co7, eo7⟩ := Kd.R_slice HO_4.out
      subst eo7
      go_wp2
      go_ret
      exact ⟨by first | rfl | (simp [errW_none, errW_some] <;> rfl) | (simp [*, errW_none, errW_some] <;> rfl), by repeat (first | (with_reducible first | exact HB.out | apply below_alloc | apply pw_below_drewN | apply below_drew1) | exact HB.out)⟩
end Go.Proofs.Ytkhcmddeeodbkaa.XSor
namespace Go.Proofs.Ytkhcmddeeodbkaa.Q
open Go.RowKit Go.Proofs.YtkhcmddeeodbkaaW.PrintWords Go.Proofs.YtkhcmddeeodbkaaW.PrintMore Go.Proofs.Ytkhcmddeeodbkaa.G Go.Proofs.Ytkhcmddeeodbkaa.XSor
def mixR (h x : Int) : Int := IntKind.u64.wrap (Go.bits .xor .u64 h (IntKind.u64.wrap x) * 1099511628211)
def mixE (h : Int) : Int := Go.bits .xor .u64 (IntKind.u64.wrap ((Go.bits .xor .u64 h (h / 4294967296)) * 11400714819323198485)) ((IntKind.u64.wrap ((Go.bits .xor .u64 h (h / 4294967296)) * 11400714819323198485)) / 536870912)
def hashR (rs : List Int) : Int := mixE (rs.foldl mixR 14695981039346656037)
def H (s : ByteArray) : Int := hashR ((D s).map (·.1))
theorem hash_l (rs : List Int) (hn : rs.length < 9223372036854775807) : ∀ (r pre : List Int) (h : Int), rs = pre ++ r → Ev (fun k => hash_Of.l0 k h rs (rs.length : Int) (pre.length : Int)) (mixE (r.foldl mixR h)) := by
 intro r
 induction r with
 | nil =>
   intro pre h e
   refine Ev.step (f := fun _ => some (mixE h)) (fun k => ?_) (Ev.now _)
   simp only [hash_Of.l0]
   rw [if_neg (by rw [e]; simp)]
   rfl
 | cons x r ih =>
   intro pre h e
   have hlen : rs.length = pre.length + r.length + 1 := by rw [e]; simp; omega
   have hrec := ih (pre ++ [x]) (mixR h x) (by rw [e]; simp)
   refine Ev.step (fun k => ?_) hrec
   simp only [hash_Of.l0]
   have e1 : rd rs (pre.length : Int) = x := by rw [e]; exact rd_append pre r x
   rw [if_pos (by omega), if_pos (by omega), if_pos (by omega), e1, w64 (by omega) (by omega)]
   simp only [List.length_append, List.length_cons, List.length_nil, Int.natCast_add, Nat.zero_add, Int.natCast_one]
   rfl
theorem refHash_l (rs : List Int) (hn : rs.length < 9223372036854775807) : ∀ (r pre : List Int) (h : Int), rs = pre ++ r → Ev (fun k => loessref6_Hash.l0 k h rs (pre.length : Int)) (mixE (r.foldl mixR h)) := by
 intro r
 induction r with
 | nil =>
   intro pre h e
   refine Ev.step (f := fun _ => some (mixE h)) (fun k => ?_) (Ev.now _)
   simp only [loessref6_Hash.l0]
   rw [if_neg (by rw [e]; simp)]
   rfl
 | cons x r ih =>
   intro pre h e
   have hlen : rs.length = pre.length + r.length + 1 := by rw [e]; simp; omega
   have hrec := ih (pre ++ [x]) (mixR h x) (by rw [e]; simp)
   refine Ev.step (fun k => ?_) hrec
   simp only [loessref6_Hash.l0]
   have e1 : rd rs (pre.length : Int) = x := by rw [e]; exact rd_append pre r x
   rw [if_pos (by omega), if_pos (by omega), e1, w64 (by omega) (by omega)]
   simp only [List.length_append, List.length_cons, List.length_nil, Int.natCast_add, Nat.zero_add, Int.natCast_one]
   rfl
theorem hash_ev {s : ByteArray} (h : s.size < 17592186044416) : Ev (fun k => hash_Of.f k s) (H s) := by
 have hl := D_len s
 unfold hash_Of.f
 simp only [rOf (s := s) (by omega), Option.bind_some]
 exact hash_l ((D s).map (·.1)) (by rw [List.length_map]; omega) ((D s).map (·.1)) [] _ (by simp)
theorem refHash_ev {s : ByteArray} (h : s.size < 17592186044416) : Ev (fun k => loessref6_Hash.f k s) (H s) := by
 have hl := D_len s
 unfold loessref6_Hash.f
 refine Ev.bind (refRunes_ev h) ?_
 exact refHash_l ((D s).map (·.1)) (by rw [List.length_map]; omega) ((D s).map (·.1)) [] _ (by simp)
theorem xor_range (x y : Int) : 0 ≤ Go.bits .xor .u64 x y ∧ Go.bits .xor .u64 x y < 18446744073709551616 := by
 show 0 ≤ IntKind.u64.wrap _ ∧ IntKind.u64.wrap _ < 18446744073709551616
 rw [u64_mod]
 omega
theorem H_range (s : ByteArray) : 0 ≤ H s ∧ H s < 18446744073709551616 := xor_range _ _
end Go.Proofs.Ytkhcmddeeodbkaa.Q
namespace Go.Proofs.Ytkhcmddeeodbkaa.XSor
open Go.RowKit Go.Proofs.Ytkhcmddeeodbkaa.G Go.Proofs.YtkhcmddeeodbkaaW.PrintWords Go.Proofs.YtkhcmddeeodbkaaW.PrintLast Go.Proofs.YtkhcmddeeodbkaaW.PrintMore
attribute [local go_sem] max2_int min2_int max_two min_two max_three min_three max_four min_four
def cmp_Or_int.l0 : Nat → Int → List Int → Int → Int → Option (Int)
 | 0, _, _, _, _ => none
 | k + 1, x3, x6, x7, x8 => if x8 < x7 then (if 0 ≤ x8 then (if x8 < (x6.length : Int) then (if (rd x6 x8) = x3 then (cmp_Or_int.l0 k x3 x6 x7 (wrap64 (x8 + 1))) else (some (rd x6 x8))) else (none)) else (none)) else (some x3)
def cmp_Or_int.f (k : Nat) (l0 : List Int) : Option (Int) := cmp_Or_int.l0 k 0 l0 (l0.length : Int) 0
theorem cmp_Or_int.mono_l : ∀ k, (∀ y0 y1 y2 y3, LeO (cmp_Or_int.l0 k y0 y1 y2 y3) (cmp_Or_int.l0 (k + 1) y0 y1 y2 y3))
 | 0 => fun _ _ _ _ r h => by simp [cmp_Or_int.l0] at h
 | k + 1 => by
   have ih0 := cmp_Or_int.mono_l k
   · intro y0 y1 y2 y3
     unfold cmp_Or_int.l0
     repeat' first
     | (with_reducible exact ih0 _ _ _ _)
     | (with_reducible exact LeO.refl _)
     | (with_reducible exact LeO.none _)
     | (with_reducible refine LeO.ite ?_ ?_)
     | (with_reducible refine LeO.bind ?_ (fun _ => ?_))
     | exact ih0 _ _ _ _
     | exact LeO.none _
     | refine LeO.ite ?_ ?_
     | refine LeO.bind ?_ (fun _ => ?_)
theorem cmp_Or_int.mono : ∀ a0 k, LeO (cmp_Or_int.f k a0) (cmp_Or_int.f (k + 1) a0) := by
 intro a0 k
 have ih0 := cmp_Or_int.mono_l k
 unfold cmp_Or_int.f
 repeat' first
     | (with_reducible exact ih0 _ _ _ _)
     | (with_reducible exact LeO.refl _)
     | (with_reducible exact LeO.none _)
     | (with_reducible refine LeO.ite ?_ ?_)
     | (with_reducible refine LeO.bind ?_ (fun _ => ?_))
     | exact ih0 _ _ _ _
     | exact LeO.none _
     | refine LeO.ite ?_ ?_
     | refine LeO.bind ?_ (fun _ => ?_)
set_option maxHeartbeats 8000000 in
set_option maxRecDepth 100000 in
theorem cmp_Or_int.calls (k : Nat) (A0 : Option Addr) (c0 : Nat) (l0 : List Int) (r : Int) (w : World) (hr0 : Kd.C (Kd.int .i64) w A0 l0.length l0) (hc0 : l0.length ≤ c0) (h : cmp_Or_int.f k l0 = some r) :
    Calls Try.prog 36 #[.slice A0 l0.length c0] w fun e w' => e = .returned (.int .i64 r) ∧ Drawn0 w w' := by
 have HR0 := Aside0.mk hr0
 have HC0 := Aside0.mk hc0
 clear hr0 hc0
 have H : (cmp_Or_int.l0 k 0 l0 (l0.length : Int) 0) = some r := h
 clear h
 have H' := Aside0.mk H
 clear H
 go_enter Try.func36, Try.ntmps36
 go_wp2
 go_loopg [8] k (fun kq v8 w' => ∃ (x8_1 : Int), v8 = .int .i64 x8_1 ∧ Aside0 (cmp_Or_int.l0 kq 0 l0 (l0.length : Int) x8_1 = some r) ∧ Aside0 (kq ≤ k) ∧ Drawn0 w w')
 case atStart => exact ⟨(0), (by first | rfl | (simp; done) | (simp [*]; done)), H', ⟨Nat.le_refl _⟩, by repeat (first | exact Drawn0.refl _ | apply Drawn0.step)⟩
 case round =>
  clear H'
  obtain ⟨x8_1, rfl, HA, HK1, ⟨m1, rfl⟩⟩ := hrel
  cases gk with
  | zero => exact absurd HA.out (by simp [cmp_Or_int.l0])
  | succ k1 =>
    have H := HA.out
    clear HA
    simp only [cmp_Or_int.l0] at H
    by_cases c2 : x8_1 < (l0.length : Int)
    · rw [if_pos c2] at H
      have c2b0 : decide (x8_1 < (l0.length : Int)) = true := decide_eq_true c2
      clear c2
      by_cases c3 : 0 ≤ x8_1
      · rw [if_pos c3] at H
        have c3b0 : decide (0 ≤ x8_1) = true := decide_eq_true c3
        clear c3
        by_cases c4 : x8_1 < (l0.length : Int)
        · rw [if_pos c4] at H
          have c4b0 : decide (x8_1 < (l0.length : Int)) = true := decide_eq_true c4
          clear c4
          by_cases c5 : (rd l0 x8_1) = 0
          · rw [if_pos c5] at H
            have c5b0 : ((rd l0 x8_1) == 0) = true := beq_iff_eq.mpr c5
            have c5b1 : ((rd l0 x8_1) != 0) = false := bne_eq_false_iff_eq.mpr c5
            clear c5
            have H' := Aside0.mk H
            clear H
            have p105 : 0 ≤ (x8_1 : Int) := of_decide_eq_true (by first | (with_reducible assumption) | assumption)
            have q105 : x8_1 < (l0.length : Int) := of_decide_eq_true (by first | (with_reducible assumption) | assumption)
            obtain ⟨ad105, e105, hx105_0⟩ := Kd.at_int HR0.out x8_1 p105 q105
            cases e105
            replace p105 := eq_true p105
            replace q105 := eq_true q105
            go_wp2
            go_roundg k1
            case measure => have := HK1.out; omega
            case rel => exact ⟨(wrap64 (x8_1 + 1)), (by first | rfl | (simp; done) | (simp [*]; done)), H', ⟨by have := HK1.out; omega⟩, by repeat (first | exact Drawn0.refl _ | apply Drawn0.step)⟩
          · rw [if_neg c5] at H
            have c5b0 : ((rd l0 x8_1) == 0) = false := beq_eq_false_iff_ne.mpr c5
            have c5b1 : ((rd l0 x8_1) != 0) = true := bne_iff_ne.mpr c5
            obtain rfl := Option.some.inj H
            have p105 : 0 ≤ (x8_1 : Int) := of_decide_eq_true (by first | (with_reducible assumption) | assumption)
            have q105 : x8_1 < (l0.length : Int) := of_decide_eq_true (by first | (with_reducible assumption) | assumption)
            obtain ⟨ad105, e105, hx105_0⟩ := Kd.at_int HR0.out x8_1 p105 q105
            cases e105
            replace p105 := eq_true p105
            replace q105 := eq_true q105
            go_wp2
            go_ret
            exact ⟨by first | rfl | (simp; done) | (simp [*]; done), by repeat (first | exact Drawn0.refl _ | apply Drawn0.step)⟩
        · rw [if_neg c4] at H
          exact absurd H (by simp)
      · rw [if_neg c3] at H
        exact absurd H (by simp)
    · rw [if_neg c2] at H
      have c2b0 : decide (x8_1 < (l0.length : Int)) = false := decide_eq_false c2
      clear c2
      obtain rfl := Option.some.inj H
      go_wp2
      go_ret
      exact ⟨by first | rfl | (simp; done) | (simp [*]; done), by repeat (first | exact Drawn0.refl _ | apply Drawn0.step)⟩
end Go.Proofs.Ytkhcmddeeodbkaa.XSor
namespace Go.Proofs.Ytkhcmddeeodbkaa.XSor
open Go.RowKit Go.Proofs.Ytkhcmddeeodbkaa.G Go.Proofs.YtkhcmddeeodbkaaW.PrintWords Go.Proofs.YtkhcmddeeodbkaaW.PrintLast Go.Proofs.YtkhcmddeeodbkaaW.PrintMore
attribute [local go_sem] max2_int min2_int max_two min_two max_three min_three max_four min_four
def cmp_isNaN_uint64.f (a0 : Int) : Option (Bool) := some (a0 != a0)
set_option maxHeartbeats 8000000 in
set_option maxRecDepth 100000 in
theorem cmp_isNaN_uint64.calls (a0 : Int) (r : Bool) (w : World) (h : cmp_isNaN_uint64.f a0 = some r) :
    Calls Try.prog 60 #[.int .u64 a0] w fun e w' => e = .returned (.bool r) ∧ Drawn0 w w' := by
 have H : (some (a0 != a0)) = some r := h
 clear h
 obtain rfl := Option.some.inj H
 go_enter Try.func60, Try.ntmps60
 go_wp2
 go_ret
 exact ⟨by first | rfl | (simp; done) | (simp [*]; done), by repeat (first | exact Drawn0.refl _ | apply Drawn0.step)⟩
end Go.Proofs.Ytkhcmddeeodbkaa.XSor
