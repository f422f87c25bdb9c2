import Derived.Deep.Slices
import Derived.Lib.SmallJoins
import Derived.ChangeArms
import Derived.Test.YtbogcnfmdakdmaaWMore
import Derived.KernelRfl
import Derived.Deep.QuietTactic
import Derived.BigQuiet
import Derived.Deep.RegionWith
import Derived.Deep.RegionHeld3
import Derived.Test.YtbogcnfmdakdmaaZBatchOne1
import Derived.Test.YtbogcnfmdakdmaaZBatchOne2
import Derived.Test.YtbogcnfmdakdmaaZBatchOne3
-- Written by wip/xprint.py, this session's wrapper round the kit's print program. Not trusted: Lean checks it.
namespace Go.Proofs.Ytbogcnfmdakdmaa.XBat
open Go.RowKit Go.Proofs.Ytbogcnfmdakdmaa.G Go.Proofs.YtbogcnfmdakdmaaW.PrintWords Go.Proofs.YtbogcnfmdakdmaaW.PrintLast Go.Proofs.YtbogcnfmdakdmaaW.PrintMore
attribute [local go_sem] max2_int min2_int max_two min_two max_three min_three max_four min_four   -- for this text's walks alone
set_option linter.unusedVariables false
set_option linter.unusedSimpArgs false

/-! ### loesslaw10_Cut: function 18 -/
def loesslaw10_Cut.f (a0_0 : ByteArray) (a0_1 : Bool) (a0_2 : Int) (a0_3 : Int) (a0_4 : ByteArray) : Option (ByteArray × Bool × Int × Int × ByteArray) := (loesslaw3_Cut.f a0_0 20).bind fun t265 => ((loesslaw4_Cut.f a0_2 a0_3 a0_4).bind fun bt266 => (some (t265, a0_1, bt266.1, bt266.2.1, bt266.2.2)))
def loesslaw10_Cut.T1 : Bool × List (List Nat × List Nat) := (true, [([], []), ([0], [0]), ([1], [1]), ([], []), ([3], [3]), ([4, 2], [4]), ([0, 1, 2, 3, 4], []), ([6, 2, 5, 0, 1, 2, 3, 4], [2, 6]), ([0, 1, 2, 3, 4, 5, 6, 7], []), ([8, 5, 7, 0, 1, 2, 3, 4, 5, 6, 7], [5, 8])])
def loesslaw10_Cut.B1 : List Nat := [0, 1, 3, 0, 8, 31, 31, 127, 255, 511]
theorem loesslaw10_Cut.tab1 : rtab .any (opsOf Try.f18 1) = loesslaw10_Cut.T1 := by kernel_rfl
theorem loesslaw10_Cut.bits1 : waitsOk loesslaw10_Cut.T1.2 loesslaw10_Cut.B1 = true := by kernel_rfl
set_option maxHeartbeats 8000000 in
set_option maxRecDepth 100000 in
theorem loesslaw10_Cut.calls (a0_0 : ByteArray) (a0_1 : Bool) (a0_2 : Int) (a0_3 : Int) (a0_4 : ByteArray) (r1 : ByteArray) (r2 : Bool) (r3 : Int) (r4 : Int) (r5 : ByteArray) (w : World) (h : loesslaw10_Cut.f a0_0 a0_1 a0_2 a0_3 a0_4 = some (r1, r2, r3, r4, r5)) :
    Calls Try.prog 18 #[.agg #[.string a0_0, .bool a0_1, .int .i64 a0_2, .int .i64 a0_3, .string a0_4]] w fun e w' => e = .returned (.agg #[.string r1, .bool r2, .int .i64 r3, .int .i64 r4, .string r5]) ∧ Below w.heap.size w w' := by
  have hu38 := Try.underlying38
  have hu36 := Try.underlying36
  have HB := Aside0.mk (Below.refl w.heap.size w)
  have H : ((loesslaw3_Cut.f a0_0 20).bind fun t265 => ((loesslaw4_Cut.f a0_2 a0_3 a0_4).bind fun bt266 => (some (t265, a0_1, bt266.1, bt266.2.1, bt266.2.2)))) = some (r1, r2, r3, r4, r5) := h
  clear h
  replace H := Option.bind_eq_some_iff.mp H
  obtain ⟨t265, A20, H⟩ := H
  replace H : ((loesslaw4_Cut.f a0_2 a0_3 a0_4).bind fun bt266 => (some (t265, a0_1, bt266.1, bt266.2.1, bt266.2.2))) = some (r1, r2, r3, r4, r5) := H
  have A2 := Aside0.mk A20
  clear A20
  replace H := Option.bind_eq_some_iff.mp H
  obtain ⟨⟨t266, t267, t268⟩, A30, H⟩ := H
  replace H : (some (t265, a0_1, t266, t267, t268)) = some (r1, r2, r3, r4, r5) := H
  have A3 := Aside0.mk A30
  clear A30
  simp only [Option.some.injEq, Prod.mk.injEq] at H
  obtain ⟨rfl, rfl, rfl, rfl, rfl⟩ := H
  go_enter Try.func18, Try.ntmps18
  try go_wp2_with (first | ((with_reducible refine gate_dst (N := 1) rfl ?_); refine box_event ?hg (N := 1) ?hd (cs := #[.string a0_0, .bool a0_1, .int .i64 a0_2, .int .i64 a0_3, .string a0_4]) (t := 38) ?hr ?_; (case hd => rfl); (case hg => rfl); (case hr => first | (go_simp; done) | (go_simp; rfl)); intro gb263 hg w4 hbox hb; have n0_ := Aside0.mk (below_step (by repeat (first | (with_reducible first | exact HB.out | apply below_alloc | apply pw_below_drewN | apply below_drew1) | exact HB.out)) hb); have n1_ := Aside0.mk (hbox); have n2_ := Aside0.mk ((by rw [hg]; exact (below_size (by repeat (first | (with_reducible first | exact HB.out | apply below_alloc | apply pw_below_drewN | apply below_drew1) | exact HB.out))) : w.heap.size ≤ gb263)); have n3_ := Aside0.mk ((by rw [hg]; exact (below_size (by repeat (first | (with_reducible first | exact HB.out | apply below_alloc | apply pw_below_drewN | apply below_drew1) | exact HB.out))) : w.heap.size ≤ gb263)); clear HB; have HB := n0_; have BK263 := n1_; have GW263 := n2_; have GE263 := n3_; clear n0_ n1_ n2_ n3_; clear hb hbox hg) | ((with_reducible refine gate_dst (N := 2) rfl ?_); refine box_event ?hg (N := 2) ?hd (cs := #[.string (⟨#[]⟩ : ByteArray), .bool false, .int .i64 0, .int .i64 0, .string (⟨#[]⟩ : ByteArray)]) (t := 38) ?hr ?_; (case hd => rfl); (case hg => rfl); (case hr => first | (go_simp; done) | (go_simp; rfl)); intro gb264 hg w5 hbox hb; have n0_ := Aside0.mk (blk_below (g := gb263) (o := .cells #[.string a0_0, .bool a0_1, .int .i64 a0_2, .int .i64 a0_3, .string a0_4] 38 (0, 0)) (by (with_reducible repeat (first | refine blk_drewN ?_ _ | refine blk_drew ?_ | refine blk_alloc ?_ _)); exact BK263.out) hb); have n1_ := Aside0.mk (below_step (by repeat (first | (with_reducible first | exact HB.out | apply below_alloc | apply pw_below_drewN | apply below_drew1 | refine below_set ?_ GE263.out) | exact HB.out)) hb); have n2_ := Aside0.mk (hbox); have n3_ := Aside0.mk ((by rw [hg]; exact (below_size (by repeat (first | (with_reducible first | exact HB.out | apply below_alloc | apply pw_below_drewN | apply below_drew1 | refine below_set ?_ GE263.out) | exact HB.out))) : w.heap.size ≤ gb264)); have n4_ := Aside0.mk ((by rw [hg]; exact (below_size (by repeat (first | (with_reducible first | exact HB.out | apply below_alloc | apply pw_below_drewN | apply below_drew1 | refine below_set ?_ GE263.out) | exact HB.out))) : w.heap.size ≤ gb264)); have n5_ := Aside0.mk ((by rw [hg]; exact Nat.ne_of_lt (blk_lt (g := gb263) (o := .cells #[.string a0_0, .bool a0_1, .int .i64 a0_2, .int .i64 a0_3, .string a0_4] 38 (0, 0)) (by (with_reducible repeat (first | refine blk_drewN ?_ _ | refine blk_drew ?_ | refine blk_alloc ?_ _)); exact BK263.out)) : gb263 ≠ gb264)); have n6_ := Aside0.mk ((by rw [hg]; exact Nat.ne_of_gt (blk_lt (g := gb263) (o := .cells #[.string a0_0, .bool a0_1, .int .i64 a0_2, .int .i64 a0_3, .string a0_4] 38 (0, 0)) (by (with_reducible repeat (first | refine blk_drewN ?_ _ | refine blk_drew ?_ | refine blk_alloc ?_ _)); exact BK263.out)) : gb264 ≠ gb263)); clear BK263; clear HB; have BK263 := n0_; have HB := n1_; have BK264 := n2_; have GW264 := n3_; have GE264 := n4_; have NB263_264 := n5_; have NB264_263 := n6_; clear n0_ n1_ n2_ n3_ n4_ n5_ n6_; clear hb hbox hg))
  have n0_ := Aside0.mk (blk_drew BK263.out)
  have n1_ := Aside0.mk (blk_drew BK264.out)
  have n2_ := Aside0.mk (below_drew1 HB.out)
  clear BK263
  clear BK264
  clear HB
  have BK263 := n0_
  have BK264 := n1_
  have HB := n2_
  clear n0_ n1_ n2_
  refine start_ (n := 10) (S := fun w' => w'.cell? ⟨gb263, 0, none⟩ = some (.string a0_0) ∧ w'.cell? ⟨gb263, 1, none⟩ = some (.bool a0_1) ∧ w'.cell? ⟨gb263, 2, none⟩ = some (.int .i64 a0_2) ∧ w'.cell? ⟨gb263, 3, none⟩ = some (.int .i64 a0_3) ∧ w'.cell? ⟨gb263, 4, none⟩ = some (.string a0_4)) (ds := [7, 9]) #[false, false, false, false, false, false, false, false, false, false] (by kernel_rfl) rfl rfl ⟨(blk_cell BK263.out 0).trans rfl, (blk_cell BK263.out 1).trans rfl, (blk_cell BK263.out 2).trans rfl, (blk_cell BK263.out 3).trans rfl, (blk_cell BK263.out 4).trans rfl⟩ (fun hHeld => ?_); refine with_tabW loesslaw10_Cut.tab1 loesslaw10_Cut.bits1 (fun HT_ HW_ => ?_)
  generalize w5.drew = w6 at BK263 BK264 HB hHeld ⊢
  refine pure_ (i := 0) (N := some 3) (v := ?_) (a' := ?_) #[true, false, false, false, false, false, false, false, false, false] rfl rfl (any_of HT_.out (by kernel_rfl)) (fun _ _ _ h => h) (Or.inl ⟨by rfl, ?_⟩) ?_ ?_
  rotate_left
  · intro w'
    go_simp
    with_reducible rfl
  rotate_left
  · simp only [Act.put, List.setIfInBounds_toArray, List.set_cons_zero, List.set_cons_succ, i64_w, i32_w]
    rfl
  refine pure_ (i := 3) (N := some 6) (v := ?_) (a' := ?_) #[true, false, false, true, false, false, false, false, false, false] rfl rfl (any_of HT_.out (by kernel_rfl)) (fun _ _ _ h => h) (Or.inl ⟨by rfl, ?_⟩) ?_ ?_
  rotate_left
  · intro w'
    go_simp
    with_reducible rfl
  rotate_left
  · simp only [Act.put, List.setIfInBounds_toArray, List.set_cons_zero, List.set_cons_succ, i64_w, i32_w]
    rfl
  refine take_ (i := 1) (N := some 4) (v := ?_) (a' := ?_) #[true, true, false, true, false, false, false, false, false, false] rfl rfl (take_ofW HT_.out HW_.out (by kernel_rfl)) (fun _ _ _ h => h) (Or.inl ⟨by rfl, ?_⟩) hHeld ?_ ?_
  rotate_left
  · rintro w' ⟨s0, s1, s2, s3, s4⟩
    go_simp
    with_reducible rfl
  rotate_left
  · simp only [Act.put, List.setIfInBounds_toArray, List.set_cons_zero, List.set_cons_succ, i64_w, i32_w]
    rfl
  refine take_ (i := 4) (N := some 7) (v := ?_) (a' := ?_) #[true, true, false, true, true, false, false, false, false, false] rfl rfl (take_ofW HT_.out HW_.out (by kernel_rfl)) (fun _ _ _ h => h) (Or.inl ⟨by rfl, ?_⟩) hHeld ?_ ?_
  rotate_left
  · rintro w' ⟨s0, s1, s2, s3, s4⟩
    go_simp
    with_reducible rfl
  rotate_left
  · simp only [Act.put, List.setIfInBounds_toArray, List.set_cons_zero, List.set_cons_succ, i64_w, i32_w]
    rfl
  refine one_ (i := 2) (N := some 5) #[true, true, true, true, true, false, false, false, false, false] rfl rfl (one_of HT_.out (by kernel_rfl)) (by decide) (fun K hK => ?_)
  refine goes_ Try.func33 (by kernel_rfl) rfl #[.string a0_0, .int .i64 20] (by rfl) rfl rfl (by (try simp only [List.map_toArray, List.map_cons, List.map_nil]); first | done | rfl | (simp only [List.length_drop, List.length_take]; rfl)) ?_
  with_reducible refine (loesslaw3_Cut.calls a0_0 20 t265 _ A2.out).mono ?_
  rintro e w' ⟨rfl, ⟨nd, rfl⟩⟩
  refine ⟨_, rfl, ?_⟩
  refine hK.out _ _ ⟨(blk_cell BK263.out 0).trans rfl, (blk_cell BK263.out 1).trans rfl, (blk_cell BK263.out 2).trans rfl, (blk_cell BK263.out 3).trans rfl, (blk_cell BK263.out 4).trans rfl⟩ (fun hHeld => ?_)
  clear hK K
  refine norm_ (a' := ?_) ?_ ?_
  rotate_left
  · show Act.put _ (some 5) _ = _
    simp only [Act.put, List.setIfInBounds_toArray, List.set_cons_zero, List.set_cons_succ, i64_w, i32_w]
    rfl
  refine pure_ (i := 6) (N := some 9) (v := ?_) (a' := ?_) #[true, true, true, true, true, false, true, false, false, false] rfl rfl (any_of HT_.out (by kernel_rfl)) (fun _ _ _ h => h) (Or.inl ⟨by rfl, ?_⟩) ?_ ?_
  rotate_left
  · intro w'
    go_simp
    with_reducible rfl
  rotate_left
  · simp only [Act.put, List.setIfInBounds_toArray, List.set_cons_zero, List.set_cons_succ, i64_w, i32_w]
    rfl
  refine one_ (i := 5) (N := some 8) #[true, true, true, true, true, true, true, false, false, false] rfl rfl (one_of HT_.out (by kernel_rfl)) (by decide) (fun K hK => ?_)
  refine goes_ Try.func34 (by kernel_rfl) rfl #[.agg #[.int .i64 a0_2, .int .i64 a0_3, .string a0_4]] (by rfl) rfl rfl (by (try simp only [List.map_toArray, List.map_cons, List.map_nil]); first | done | rfl | (simp only [List.length_drop, List.length_take]; rfl)) ?_
  with_reducible refine (loesslaw4_Cut.calls a0_2 a0_3 a0_4 t266 t267 t268 _ A3.out).mono ?_
  rintro e w7 ⟨rfl, hb⟩
  refine ⟨_, rfl, ?_⟩
  have n0_ := Aside0.mk (blk_below (g := gb263) (o := .cells #[.string a0_0, .bool a0_1, .int .i64 a0_2, .int .i64 a0_3, .string a0_4] 38 (0, 0)) (by (with_reducible repeat (first | refine blk_drewN ?_ _ | refine blk_drew ?_ | refine blk_alloc ?_ _)); exact BK263.out) hb)
  have n1_ := Aside0.mk (blk_below (g := gb264) (o := .cells #[.string (⟨#[]⟩ : ByteArray), .bool false, .int .i64 0, .int .i64 0, .string (⟨#[]⟩ : ByteArray)] 38 (0, 0)) (by (with_reducible repeat (first | refine blk_drewN ?_ _ | refine blk_drew ?_ | refine blk_alloc ?_ _)); exact BK264.out) hb)
  have n2_ := Aside0.mk (below_step (by repeat (first | (with_reducible first | exact HB.out | apply below_alloc | apply pw_below_drewN | apply below_drew1 | refine below_set ?_ GE263.out | refine below_set ?_ GE264.out) | exact HB.out)) hb)
  clear BK263
  clear BK264
  clear HB
  have BK263 := n0_
  have BK264 := n1_
  have HB := n2_
  clear n0_ n1_ n2_
  (try clear hb)
  (try clear hb2)
  (try clear hk)
  (try clear hi)
  refine hK.out _ _ ⟨(blk_cell BK263.out 0).trans rfl, (blk_cell BK263.out 1).trans rfl, (blk_cell BK263.out 2).trans rfl, (blk_cell BK263.out 3).trans rfl, (blk_cell BK263.out 4).trans rfl⟩ (fun hHeld => ?_)
  clear hK K
  refine norm_ (a' := ?_) ?_ ?_
  rotate_left
  · show Act.put _ (some 8) _ = _
    simp only [Act.put, List.setIfInBounds_toArray, List.set_cons_zero, List.set_cons_succ, i64_w, i32_w]
    rfl
  refine last_ (i := 7) (N := none) #[true, true, true, true, true, true, true, true, false, false] rfl rfl (one_of HT_.out (by kernel_rfl)) (by decide) (fun K hK => ?_)
  have hs8 : w7.cell? ⟨gb263, 0, none⟩ = some (.string a0_0) := (blk_cell BK263.out 0).trans rfl
  have hfs8 := blk_frozen BK263.out 0
  have hns8_1 := NB264_263.out
  have hms8_1 := NB263_264.out
  refine skip_ (w1 := ?_) (by rfl) rfl ?_ ?_
  rotate_left
  · go_simp
    rfl
  refine hK.out _ _ ?_
  clear hK K
  refine pure_ (i := 8) (N := some 10) (v := ?_) (a' := ?_) #[true, true, true, true, true, true, true, true, true, false] rfl rfl (any_of HT_.out (by kernel_rfl)) (fun _ _ _ h => h) (Or.inl ⟨by rfl, ?_⟩) ?_ ?_
  rotate_left
  · intro w'
    go_simp
    with_reducible rfl
  rotate_left
  · simp only [Act.put, List.setIfInBounds_toArray, List.set_cons_zero, List.set_cons_succ, i64_w, i32_w]
    rfl
  refine last_ (i := 9) (N := none) #[true, true, true, true, true, true, true, true, true, true] rfl rfl (one_of HT_.out (by kernel_rfl)) (by decide) (fun K hK => ?_)
  have hs9 : w7.cell? ⟨gb263, 2, none⟩ = some (.int .i64 a0_2) := (blk_cell BK263.out 2).trans rfl
  have hfs9 := blk_frozen BK263.out 2
  have hns9_1 := NB264_263.out
  have hms9_1 := NB263_264.out
  have hs10 : w7.cell? ⟨gb263, 3, none⟩ = some (.int .i64 a0_3) := (blk_cell BK263.out 3).trans rfl
  have hfs10 := blk_frozen BK263.out 3
  have hns10_1 := NB264_263.out
  have hms10_1 := NB263_264.out
  have hs11 : w7.cell? ⟨gb263, 4, none⟩ = some (.string a0_4) := (blk_cell BK263.out 4).trans rfl
  have hfs11 := blk_frozen BK263.out 4
  have hns11_1 := NB264_263.out
  have hms11_1 := NB263_264.out
  refine skip_ (w1 := ?_) (by rfl) rfl ?_ ?_
  rotate_left
  · go_simp
    rfl
  refine hK.out _ _ ?_
  clear hK K
  refine done_ (done_of HT_.out (by kernel_rfl)) ?_
  have hnb12 := NB263_264.out
  have hnc12 := NB264_263.out
  have hcz13_0 : w7.cell? ⟨gb263, 0, none⟩ = some (.string a0_0) := (blk_cell BK263.out 0).trans rfl
  have hcz13_1 : w7.cell? ⟨gb263, 1, none⟩ = some (.bool a0_1) := (blk_cell BK263.out 1).trans rfl
  have hcz13_2 : w7.cell? ⟨gb263, 2, none⟩ = some (.int .i64 a0_2) := (blk_cell BK263.out 2).trans rfl
  have hcz13_3 : w7.cell? ⟨gb263, 3, none⟩ = some (.int .i64 a0_3) := (blk_cell BK263.out 3).trans rfl
  have hcz13_4 : w7.cell? ⟨gb263, 4, none⟩ = some (.string a0_4) := (blk_cell BK263.out 4).trans rfl
  have hfz13_0 := blk_frozen BK263.out 0
  have hfz13_1 := blk_frozen BK263.out 1
  have hfz13_2 := blk_frozen BK263.out 2
  have hfz13_3 := blk_frozen BK263.out 3
  have hfz13_4 := blk_frozen BK263.out 4
  have hcz14_0 : w7.cell? ⟨gb264, 0, none⟩ = some (.string (⟨#[]⟩ : ByteArray)) := (blk_cell BK264.out 0).trans rfl
  have hcz14_1 : w7.cell? ⟨gb264, 1, none⟩ = some (.bool false) := (blk_cell BK264.out 1).trans rfl
  have hcz14_2 : w7.cell? ⟨gb264, 2, none⟩ = some (.int .i64 0) := (blk_cell BK264.out 2).trans rfl
  have hcz14_3 : w7.cell? ⟨gb264, 3, none⟩ = some (.int .i64 0) := (blk_cell BK264.out 3).trans rfl
  have hcz14_4 : w7.cell? ⟨gb264, 4, none⟩ = some (.string (⟨#[]⟩ : ByteArray)) := (blk_cell BK264.out 4).trans rfl
  have hfz14_0 := blk_frozen BK264.out 0
  have hfz14_1 := blk_frozen BK264.out 1
  have hfz14_2 := blk_frozen BK264.out 2
  have hfz14_3 := blk_frozen BK264.out 3
  have hfz14_4 := blk_frozen BK264.out 4
  try go_wp2
  refine bodyPost_ret (results_cell_row rfl _ _ gb264 38 #[.string t265, .bool a0_1, .int .i64 t266, .int .i64 t267, .string t268] (0, 0) _ rfl (by (with_reducible repeat (first | refine blk_drewN ?_ _ | refine blk_drew ?_ | refine blk_alloc ?_ _)); refine blk_put (cs := #[.string t265, .bool a0_1, .int .i64 t266, .int .i64 t267, .string (⟨#[]⟩ : ByteArray)]) ?_ 4 _ rfl; (with_reducible repeat (first | refine blk_drewN ?_ _ | refine blk_drew ?_ | refine blk_alloc ?_ _)); refine blk_put (cs := #[.string t265, .bool a0_1, .int .i64 t266, .int .i64 0, .string (⟨#[]⟩ : ByteArray)]) ?_ 3 _ rfl; (with_reducible repeat (first | refine blk_drewN ?_ _ | refine blk_drew ?_ | refine blk_alloc ?_ _)); refine blk_put (cs := #[.string t265, .bool a0_1, .int .i64 0, .int .i64 0, .string (⟨#[]⟩ : ByteArray)]) ?_ 2 _ rfl; (with_reducible repeat (first | refine blk_drewN ?_ _ | refine blk_drew ?_ | refine blk_alloc ?_ _)); refine blk_put (cs := #[.string t265, .bool false, .int .i64 0, .int .i64 0, .string (⟨#[]⟩ : ByteArray)]) ?_ 1 _ rfl; (with_reducible repeat (first | refine blk_drewN ?_ _ | refine blk_drew ?_ | refine blk_alloc ?_ _)); refine blk_put (cs := #[.string (⟨#[]⟩ : ByteArray), .bool false, .int .i64 0, .int .i64 0, .string (⟨#[]⟩ : ByteArray)]) ?_ 0 _ rfl; (with_reducible repeat (first | refine blk_drewN ?_ _ | refine blk_drew ?_ | refine blk_alloc ?_ _)); refine blk_far ?_ NB264_263.out _; (with_reducible repeat (first | refine blk_drewN ?_ _ | refine blk_drew ?_ | refine blk_alloc ?_ _)); refine blk_far ?_ NB264_263.out _; (with_reducible repeat (first | refine blk_drewN ?_ _ | refine blk_drew ?_ | refine blk_alloc ?_ _)); refine blk_far ?_ NB264_263.out _; (with_reducible repeat (first | refine blk_drewN ?_ _ | refine blk_drew ?_ | refine blk_alloc ?_ _)); refine blk_far ?_ NB264_263.out _; (with_reducible repeat (first | refine blk_drewN ?_ _ | refine blk_drew ?_ | refine blk_alloc ?_ _)); exact BK264.out) Try.underlying38 rfl (by kernel_rfl)) rfl ?_
  exact ⟨by first | rfl | (simp [errW_none, errW_some] <;> rfl) | (simp [*, errW_none, errW_some] <;> rfl), by repeat (first | (with_reducible first | exact HB.out | apply below_alloc | apply pw_below_drewN | apply below_drew1 | refine below_set ?_ GE263.out | refine below_set ?_ GE264.out) | exact HB.out)⟩

end Go.Proofs.Ytbogcnfmdakdmaa.XBat

-- Written by wip/xprint.py, this session's wrapper round the kit's print program. Not trusted: Lean checks it.
namespace Go.Proofs.Ytbogcnfmdakdmaa.XBat
open Go.RowKit Go.Proofs.Ytbogcnfmdakdmaa.G Go.Proofs.YtbogcnfmdakdmaaW.PrintWords Go.Proofs.YtbogcnfmdakdmaaW.PrintLast Go.Proofs.YtbogcnfmdakdmaaW.PrintMore
attribute [local go_sem] max2_int min2_int max_two min_two max_three min_three max_four min_four   -- for this text's walks alone
set_option linter.unusedVariables false
set_option linter.unusedSimpArgs false

/-! ### loesslaw10_Recs: function 8 -/
def loesslaw10_Recs.l0 : Nat → List (S38) → Int → List (S38) → Int → Option ((List (S38)))
  | 0, _, _, _, _ => none
  | k + 1, x0, x1, x5, x6 => if x6 < (x0.length : Int) then (if x6 < x1 then (if 0 ≤ x6 then ((loesslaw10_Cut.f ((rd_T38 x0 x6).f0) ((rd_T38 x0 x6).f1) ((rd_T38 x0 x6).f2.f0) ((rd_T38 x0 x6).f2.f1) ((rd_T38 x0 x6).f2.f2)).bind fun bt270 => (if x5.length < 2513169434916 then (loesslaw10_Recs.l0 k x0 x1 (x5 ++ [(⟨bt270.1, bt270.2.1, (⟨bt270.2.2.1, bt270.2.2.2.1, bt270.2.2.2.2⟩ : S36)⟩ : S38)]) (wrap64 (x6 + 1))) else (none))) else (none)) else (some x5)) else (some x5)
def loesslaw10_Recs.f (k : Nat) (l0 : List (S38)) (a1 : Int) : Option ((List (S38))) := loesslaw10_Recs.l0 k l0 a1 ([] : List (S38)) 0
theorem loesslaw10_Recs.mono_l : ∀ k, (∀ y0 y1 y2 y3, LeO (loesslaw10_Recs.l0 k y0 y1 y2 y3) (loesslaw10_Recs.l0 (k + 1) y0 y1 y2 y3))
  | 0 => fun _ _ _ _ r h => by simp [loesslaw10_Recs.l0] at h
  | k + 1 => by
    have ih0 := loesslaw10_Recs.mono_l k
    · intro y0 y1 y2 y3
      unfold loesslaw10_Recs.l0
      repeat' first
      | (with_reducible exact ih0 _ _ _ _)
      | (with_reducible exact LeO.refl _)
      | (with_reducible exact LeO.none _)
      | (with_reducible refine LeO.ite ?_ ?_)
      | (with_reducible refine LeO.bind ?_ (fun _ => ?_))
      | exact ih0 _ _ _ _
      | exact LeO.none _
      | refine LeO.ite ?_ ?_
      | refine LeO.bind ?_ (fun _ => ?_)
theorem loesslaw10_Recs.mono : ∀ a0 a1 k, LeO (loesslaw10_Recs.f k a0 a1) (loesslaw10_Recs.f (k + 1) a0 a1) := by
  intro a0 a1 k
  have ih0 := loesslaw10_Recs.mono_l k
  unfold loesslaw10_Recs.f
  repeat' first
      | (with_reducible exact ih0 _ _ _ _)
      | (with_reducible exact LeO.refl _)
      | (with_reducible exact LeO.none _)
      | (with_reducible refine LeO.ite ?_ ?_)
      | (with_reducible refine LeO.bind ?_ (fun _ => ?_))
      | exact ih0 _ _ _ _
      | exact LeO.none _
      | refine LeO.ite ?_ ?_
      | refine LeO.bind ?_ (fun _ => ?_)
set_option maxHeartbeats 8000000 in
set_option maxRecDepth 100000 in
theorem loesslaw10_Recs.calls (k : Nat) (A0 : Option Addr) (c0 : Nat) (l0 : List (S38)) (a1 : Int) (r : List (S38)) (w : World) (hr0 : Kd.C k38 w A0 l0.length l0) (hc0 : l0.length ≤ c0) (h : loesslaw10_Recs.f k l0 a1 = some r) :
    Calls Try.prog 8 #[.slice A0 l0.length c0, .int .i64 a1] w fun e w' => ∃ v0_ : Value, e = .returned (v0_) ∧ Kd.R k38 38 w' w.heap.size (fun _ => True) v0_ r ∧ Below w.heap.size w w' := by
  have hu38 := Try.underlying38
  have HR0 := Aside0.mk hr0
  have HC0 := Aside0.mk hc0
  clear hr0 hc0
  have HB := Aside0.mk (Below.refl w.heap.size w)
  have H : (loesslaw10_Recs.l0 k l0 a1 ([] : List (S38)) 0) = some r := h
  clear h
  have H' := Aside0.mk H
  clear H
  go_enter Try.func8, Try.ntmps8
  go_wp2
  go_loopg [5, 6] k (fun kq v5 v6 w' => ∃ (x5_1 : List (S38)) (x6_1 : Int), v6 = .int .i64 x6_1 ∧ Aside0 (loesslaw10_Recs.l0 kq l0 a1 x5_1 x6_1 = some r) ∧ Aside0 (kq ≤ k) ∧ Aside0 (Kd.R k38 38 w' w.heap.size (fun _ => True) v5 x5_1) ∧ Aside0 (Below w.heap.size w w'))
  case atStart => exact ⟨(([] : List (S38))), (0), (by first | rfl | (simp; done) | (simp [*]; done)), H', ⟨Nat.le_refl _⟩, ⟨by first | exact Kd.R_nil _ _ _ _ _ | exact Kd.N_nil _ _ _ _ _ | exact Kd.V_nil _ _ _ _ _ | exact Kd.Q_nil _ _ _ _ _ | exact Kd.S_nil _ _ _ _ _⟩, ⟨by repeat (first | (with_reducible first | exact HB.out | apply below_alloc | apply pw_below_drewN | apply below_drew1) | exact HB.out)⟩⟩
  case round =>
    clear H'
    try clear p2
    obtain ⟨x5_1, x6_1, rfl, HA, HK1, HO_5, HB⟩ := hrel
    cases gk with
    | zero => exact absurd HA.out (by simp [loesslaw10_Recs.l0])
    | succ k1 =>
      have H := HA.out
      clear HA
      simp only [loesslaw10_Recs.l0] at H
      by_cases c3 : x6_1 < (l0.length : Int)
      · rw [if_pos c3] at H
        have c3b0 : decide (x6_1 < (l0.length : Int)) = true := decide_eq_true c3
        clear c3
        by_cases c4 : x6_1 < a1
        · rw [if_pos c4] at H
          have c4b0 : decide (x6_1 < a1) = true := decide_eq_true c4
          clear c4
          by_cases c5 : 0 ≤ x6_1
          · rw [if_pos c5] at H
            have c5b0 : decide (0 ≤ x6_1) = true := decide_eq_true c5
            clear c5
            replace H := Option.bind_eq_some_iff.mp H
            obtain ⟨⟨t270, t271, t272, t273, t274⟩, A60, H⟩ := H
            replace H : (if x5_1.length < 2513169434916 then (loesslaw10_Recs.l0 k1 l0 a1 (x5_1 ++ [(⟨t270, t271, (⟨t272, t273, t274⟩ : S36)⟩ : S38)]) (wrap64 (x6_1 + 1))) else (none)) = some r := H
            have A6 := Aside0.mk A60
            clear A60
            by_cases c7 : x5_1.length < 2513169434916
            · rw [if_pos c7] at H
              have LMc7 := Aside0.mk c7
              clear c7
              obtain ⟨y275, hy275⟩ : ∃ y_ : List (S38), y_ = (x5_1 ++ [(⟨t270, t271, (⟨t272, t273, t274⟩ : S36)⟩ : S38)]) := ⟨_, rfl⟩
              replace H : (loesslaw10_Recs.l0 k1 l0 a1 y275 (wrap64 (x6_1 + 1))) = some r := by first | (rw [hy275]; with_reducible exact H) | (have H2_ := (Option.bind_some _ _).symm.trans H; rw [hy275]; with_reducible exact H2_) | (have H2_ := (Option.bind_some _ _).symm.trans H; with_reducible exact H2_) | with_reducible exact H | (rw [hy275]; exact H) | exact H
              have Ny275 := Aside0.mk hy275
              clear hy275
              have H' := Aside0.mk H
              clear H
              have p269 : 0 ≤ (x6_1 : Int) := of_decide_eq_true (by first | (with_reducible assumption) | assumption)
              have q269 : x6_1 < (l0.length : Int) := of_decide_eq_true (by first | (with_reducible assumption) | assumption)
              obtain ⟨ad269, e269, hx269_0, hx269_1, hx269_2, hx269_3, hx269_4⟩ := at_T38 HR0.out x6_1 p269 q269
              cases e269
              replace hx269_0 := (HB.out.cell (World.block_lt_of_cell? w _ hx269_0)).trans hx269_0
              replace hx269_1 := (HB.out.cell (World.block_lt_of_cell? w _ hx269_1)).trans hx269_1
              replace hx269_2 := (HB.out.cell (World.block_lt_of_cell? w _ hx269_2)).trans hx269_2
              replace hx269_3 := (HB.out.cell (World.block_lt_of_cell? w _ hx269_3)).trans hx269_3
              replace hx269_4 := (HB.out.cell (World.block_lt_of_cell? w _ hx269_4)).trans hx269_4
              replace p269 := eq_true p269
              replace q269 := eq_true q269
              go_wp2_with (first | ((with_reducible refine gate_callee (f := 18) rfl ?_); refine goesL_ (some 23) rfl rfl Try.func18 (by kernel_rfl) rfl #[.agg #[.string ((rd_T38 l0 x6_1).f0), .bool ((rd_T38 l0 x6_1).f1), .int .i64 ((rd_T38 l0 x6_1).f2.f0), .int .i64 ((rd_T38 l0 x6_1).f2.f1), .string ((rd_T38 l0 x6_1).f2.f2)]] rfl (by (try simp only [List.map_toArray, List.map_cons, List.map_nil]); first | done | rfl | (simp only [List.length_drop, List.length_take]; rfl)) ?_; (with_reducible refine (loesslaw10_Cut.calls ((rd_T38 l0 x6_1).f0) ((rd_T38 l0 x6_1).f1) ((rd_T38 l0 x6_1).f2.f0) ((rd_T38 l0 x6_1).f2.f1) ((rd_T38 l0 x6_1).f2.f2) t270 t271 t272 t273 t274 _ A6.out).mono ?_); rintro e w8 ⟨rfl, hb⟩; refine ⟨_, rfl, ?_⟩; have n0_ := Aside0.mk (Kd.R_below (by (with_reducible repeat (first | apply Kd.R_alloc | apply Kd.R_drewN | apply Kd.R_drew)); exact HO_5.out) hb); have n1_ := Aside0.mk (below_step (by repeat (first | (with_reducible first | exact HB.out | apply below_alloc | apply pw_below_drewN | apply below_drew1) | exact HB.out)) hb); clear HO_5; clear HB; have HO_5 := n0_; have HB := n1_; clear n0_ n1_; (try clear hb); (try clear hb2); (try clear hk); (try clear hi)) | ((with_reducible refine gate_builtin (b := .append) (xs := #[.tmp 18, .tmp 24]) rfl ?_); at_builtin; refine Kd.R_append k38 (w0 := w) w.heap.size rfl (.tmp 18) (.tmp 24) 22 38 (.agg #[(.string ⟨#[]⟩), (.bool false), (.int .i64 0), (.int .i64 0), (.string ⟨#[]⟩)]) 56 rfl Try.underlying22 info38 rfl (by decide) (by omega) u5 x5_1 (⟨t270, t271, (⟨t272, t273, t274⟩ : S36)⟩ : S38) [.string t270, .bool t271, .int .i64 t272, .int .i64 t273, .string t274] (fun _ => True) (fun _ => False) rfl rfl ?aP (fun _ hk => hk.elim) ?aF ?aO ?aB ?aS ?aL ?_; (case aP => exact k38_mkM _ _ _ (⟨t270, t271, (⟨t272, t273, t274⟩ : S36)⟩ : S38)); (case aB => exact (by repeat (first | (with_reducible first | exact HB.out | apply below_alloc | apply pw_below_drewN | apply below_drew1) | exact HB.out))); (case aF => exact (fun _ _ => trivial)); (case aO => exact (by (with_reducible repeat (first | apply Kd.R_alloc | apply Kd.R_drewN | apply Kd.R_drew)); exact HO_5.out)); (case aS => exact (below_size (by repeat (first | (with_reducible first | exact HB.out | apply below_alloc | apply pw_below_drewN | apply below_drew1) | exact HB.out)))); (case aL => have := LMc7.out; omega); intro v276 w9 ho hb hg hat; rw [← Ny275.out] at ho; have n0_ := Aside0.mk (hb); have n1_ := Aside0.mk (ho); clear HB; clear HO_5; have HB := n0_; have HO277 := n1_; clear n0_ n1_; clear ho hb hg hat))
              go_roundg k1
              case measure => have := HK1.out; omega
              case rel => exact ⟨(y275), (wrap64 (x6_1 + 1)), (by first | rfl | (simp; done) | (simp [*]; done)), H', ⟨by have := HK1.out; omega⟩, ⟨by (with_reducible repeat (first | apply Kd.R_alloc | apply Kd.R_drewN | apply Kd.R_drew)); exact HO277.out⟩, ⟨by repeat (first | (with_reducible first | exact HB.out | apply below_alloc | apply pw_below_drewN | apply below_drew1) | exact HB.out)⟩⟩
            · rw [if_neg c7] at H
              exact absurd H (by simp)
          · rw [if_neg c5] at H
            exact absurd H (by simp)
        · rw [if_neg c4] at H
          have c4b0 : decide (x6_1 < a1) = false := decide_eq_false c4
          clear c4
          obtain rfl := Option.some.inj H
          go_wp2
          go_ret
          exact ⟨_, by first | rfl | (simp [errW_none, errW_some] <;> rfl) | (simp [*, errW_none, errW_some] <;> rfl), by (with_reducible repeat (first | apply Kd.R_alloc | apply Kd.R_drewN | apply Kd.R_drew)); exact HO_5.out, by repeat (first | (with_reducible first | exact HB.out | apply below_alloc | apply pw_below_drewN | apply below_drew1) | exact HB.out)⟩
      · rw [if_neg c3] at H
        have c3b0 : decide (x6_1 < (l0.length : Int)) = false := decide_eq_false c3
        clear c3
        obtain rfl := Option.some.inj H
        go_wp2
        go_ret
        exact ⟨_, by first | rfl | (simp [errW_none, errW_some] <;> rfl) | (simp [*, errW_none, errW_some] <;> rfl), by (with_reducible repeat (first | apply Kd.R_alloc | apply Kd.R_drewN | apply Kd.R_drew)); exact HO_5.out, by repeat (first | (with_reducible first | exact HB.out | apply below_alloc | apply pw_below_drewN | apply below_drew1) | exact HB.out)⟩

end Go.Proofs.Ytbogcnfmdakdmaa.XBat

-- Written by wip/xprint.py, this session's wrapper round the kit's print program. Not trusted: Lean checks it.
namespace Go.Proofs.Ytbogcnfmdakdmaa.XBat
open Go.RowKit Go.Proofs.Ytbogcnfmdakdmaa.G Go.Proofs.YtbogcnfmdakdmaaW.PrintWords Go.Proofs.YtbogcnfmdakdmaaW.PrintLast Go.Proofs.YtbogcnfmdakdmaaW.PrintMore
attribute [local go_sem] max2_int min2_int max_two min_two max_three min_three max_four min_four   -- for this text's walks alone
set_option linter.unusedVariables false
set_option linter.unusedSimpArgs false

open Go.Proofs.Ytbogcnfmdakdmaa.GL
/-! ### loesslaw16_begun: function 7 -/
def loesslaw16_begun.f (k : Nat)  : Option (Bool) := (some (([(⟨(⟨#[98]⟩ : ByteArray), true, (⟨0, 0, (⟨#[]⟩ : ByteArray)⟩ : S36)⟩ : S38), (⟨(⟨#[97]⟩ : ByteArray), false, (⟨2, 0, (⟨#[120]⟩ : ByteArray)⟩ : S36)⟩ : S38)] : List (S38)) : List (S38))).bind fun y225 => ((batch_Encode.f k y225).bind fun t228 => ((batch_Decode.f k t228).bind fun bt231 => ((batch_Decode.f k ([] : List Int)).bind fun bt235 => ((batch_May.f y225).bind fun t239 => (if t239 = true then ((batch_May.f ([] : List (S38))).bind fun t240 => (if t240 = true then (if bt231.2 = 0 then ((batch_Eq.f y225 bt231.1).bind fun t241 => (if t241 = true then ((batch_Eq.f y225 ([] : List (S38))).bind fun t242 => (if t242 = true then (none) else (if bt235.2 = 8 then ((batch_Encode.f k ([] : List (S38))).bind fun t243 => (some ((t243.length : Int) == 1))) else (none)))) else (none))) else (none)) else (none))) else (none))))))
theorem loesslaw16_begun.mono : ∀ k, LeO (loesslaw16_begun.f k ) (loesslaw16_begun.f (k + 1) ) := by
  intro  k
  unfold loesslaw16_begun.f
  repeat' first
      | (with_reducible exact batch_Decode.mono _ _)
      | (with_reducible exact batch_Encode.mono _ _)
      | (with_reducible exact LeO.refl _)
      | (with_reducible exact LeO.none _)
      | (with_reducible refine LeO.ite ?_ ?_)
      | (with_reducible refine LeO.bind ?_ (fun _ => ?_))
      | exact batch_Decode.mono _ _
      | exact batch_Encode.mono _ _
      | exact LeO.none _
      | refine LeO.ite ?_ ?_
      | refine LeO.bind ?_ (fun _ => ?_)
set_option maxHeartbeats 8000000 in
set_option maxRecDepth 100000 in
theorem loesslaw16_begun.calls (k : Nat)  (r : Bool) (w : World) (h : loesslaw16_begun.f k  = some r) :
    Calls Try.prog 7 #[] w fun e w' => e = .returned (.bool r) ∧ Below w.heap.size w w' := by
  have hu38 := Try.underlying38
  have hu36 := Try.underlying36
  have HB := Aside0.mk (Below.refl w.heap.size w)
  have H : ((some (([(⟨(⟨#[98]⟩ : ByteArray), true, (⟨0, 0, (⟨#[]⟩ : ByteArray)⟩ : S36)⟩ : S38), (⟨(⟨#[97]⟩ : ByteArray), false, (⟨2, 0, (⟨#[120]⟩ : ByteArray)⟩ : S36)⟩ : S38)] : List (S38)) : List (S38))).bind fun y225 => ((batch_Encode.f k y225).bind fun t228 => ((batch_Decode.f k t228).bind fun bt231 => ((batch_Decode.f k ([] : List Int)).bind fun bt235 => ((batch_May.f y225).bind fun t239 => (if t239 = true then ((batch_May.f ([] : List (S38))).bind fun t240 => (if t240 = true then (if bt231.2 = 0 then ((batch_Eq.f y225 bt231.1).bind fun t241 => (if t241 = true then ((batch_Eq.f y225 ([] : List (S38))).bind fun t242 => (if t242 = true then (none) else (if bt235.2 = 8 then ((batch_Encode.f k ([] : List (S38))).bind fun t243 => (some ((t243.length : Int) == 1))) else (none)))) else (none))) else (none)) else (none))) else (none))))))) = some r := h
  clear h
  obtain ⟨y225, hy225⟩ : ∃ y_ : List (S38), y_ = (([(⟨(⟨#[98]⟩ : ByteArray), true, (⟨0, 0, (⟨#[]⟩ : ByteArray)⟩ : S36)⟩ : S38), (⟨(⟨#[97]⟩ : ByteArray), false, (⟨2, 0, (⟨#[120]⟩ : ByteArray)⟩ : S36)⟩ : S38)] : List (S38))) := ⟨_, rfl⟩
  replace H : ((batch_Encode.f k y225).bind fun t228 => ((batch_Decode.f k t228).bind fun bt231 => ((batch_Decode.f k ([] : List Int)).bind fun bt235 => ((batch_May.f y225).bind fun t239 => (if t239 = true then ((batch_May.f ([] : List (S38))).bind fun t240 => (if t240 = true then (if bt231.2 = 0 then ((batch_Eq.f y225 bt231.1).bind fun t241 => (if t241 = true then ((batch_Eq.f y225 ([] : List (S38))).bind fun t242 => (if t242 = true then (none) else (if bt235.2 = 8 then ((batch_Encode.f k ([] : List (S38))).bind fun t243 => (some ((t243.length : Int) == 1))) else (none)))) else (none))) else (none)) else (none))) else (none)))))) = some r := by first | (rw [hy225]; with_reducible exact H) | (have H2_ := (Option.bind_some _ _).symm.trans H; rw [hy225]; with_reducible exact H2_) | (have H2_ := (Option.bind_some _ _).symm.trans H; with_reducible exact H2_) | with_reducible exact H | (rw [hy225]; exact H) | exact H
  have Ny225 := Aside0.mk hy225
  clear hy225
  replace H := Option.bind_eq_some_iff.mp H
  obtain ⟨t228, A10, H⟩ := H
  replace H : ((batch_Decode.f k t228).bind fun bt231 => ((batch_Decode.f k ([] : List Int)).bind fun bt235 => ((batch_May.f y225).bind fun t239 => (if t239 = true then ((batch_May.f ([] : List (S38))).bind fun t240 => (if t240 = true then (if bt231.2 = 0 then ((batch_Eq.f y225 bt231.1).bind fun t241 => (if t241 = true then ((batch_Eq.f y225 ([] : List (S38))).bind fun t242 => (if t242 = true then (none) else (if bt235.2 = 8 then ((batch_Encode.f k ([] : List (S38))).bind fun t243 => (some ((t243.length : Int) == 1))) else (none)))) else (none))) else (none)) else (none))) else (none))))) = some r := H
  have A1 := Aside0.mk A10
  clear A10
  replace H := Option.bind_eq_some_iff.mp H
  obtain ⟨⟨t231, t232⟩, A20, H⟩ := H
  replace H : ((batch_Decode.f k ([] : List Int)).bind fun bt235 => ((batch_May.f y225).bind fun t239 => (if t239 = true then ((batch_May.f ([] : List (S38))).bind fun t240 => (if t240 = true then (if t232 = 0 then ((batch_Eq.f y225 t231).bind fun t241 => (if t241 = true then ((batch_Eq.f y225 ([] : List (S38))).bind fun t242 => (if t242 = true then (none) else (if bt235.2 = 8 then ((batch_Encode.f k ([] : List (S38))).bind fun t243 => (some ((t243.length : Int) == 1))) else (none)))) else (none))) else (none)) else (none))) else (none)))) = some r := H
  have A2 := Aside0.mk A20
  clear A20
  replace H := Option.bind_eq_some_iff.mp H
  obtain ⟨⟨t235, t236⟩, A30, H⟩ := H
  replace H : ((batch_May.f y225).bind fun t239 => (if t239 = true then ((batch_May.f ([] : List (S38))).bind fun t240 => (if t240 = true then (if t232 = 0 then ((batch_Eq.f y225 t231).bind fun t241 => (if t241 = true then ((batch_Eq.f y225 ([] : List (S38))).bind fun t242 => (if t242 = true then (none) else (if t236 = 8 then ((batch_Encode.f k ([] : List (S38))).bind fun t243 => (some ((t243.length : Int) == 1))) else (none)))) else (none))) else (none)) else (none))) else (none))) = some r := H
  have A3 := Aside0.mk A30
  clear A30
  replace H := Option.bind_eq_some_iff.mp H
  obtain ⟨t239, A40, H⟩ := H
  replace H : (if t239 = true then ((batch_May.f ([] : List (S38))).bind fun t240 => (if t240 = true then (if t232 = 0 then ((batch_Eq.f y225 t231).bind fun t241 => (if t241 = true then ((batch_Eq.f y225 ([] : List (S38))).bind fun t242 => (if t242 = true then (none) else (if t236 = 8 then ((batch_Encode.f k ([] : List (S38))).bind fun t243 => (some ((t243.length : Int) == 1))) else (none)))) else (none))) else (none)) else (none))) else (none)) = some r := H
  have A4 := Aside0.mk A40
  clear A40
  by_cases c5 : t239 = true
  · subst c5
    have H1 : ((batch_May.f ([] : List (S38))).bind fun t240 => (if t240 = true then (if t232 = 0 then ((batch_Eq.f y225 t231).bind fun t241 => (if t241 = true then ((batch_Eq.f y225 ([] : List (S38))).bind fun t242 => (if t242 = true then (none) else (if t236 = 8 then ((batch_Encode.f k ([] : List (S38))).bind fun t243 => (some ((t243.length : Int) == 1))) else (none)))) else (none))) else (none)) else (none))) = some r := by rw [if_pos rfl] at H; exact H
    clear H
    have H := H1
    clear H1
    replace H := Option.bind_eq_some_iff.mp H
    obtain ⟨t240, A60, H⟩ := H
    replace H : (if t240 = true then (if t232 = 0 then ((batch_Eq.f y225 t231).bind fun t241 => (if t241 = true then ((batch_Eq.f y225 ([] : List (S38))).bind fun t242 => (if t242 = true then (none) else (if t236 = 8 then ((batch_Encode.f k ([] : List (S38))).bind fun t243 => (some ((t243.length : Int) == 1))) else (none)))) else (none))) else (none)) else (none)) = some r := H
    have A6 := Aside0.mk A60
    clear A60
    by_cases c7 : t240 = true
    · subst c7
      have H1 : (if t232 = 0 then ((batch_Eq.f y225 t231).bind fun t241 => (if t241 = true then ((batch_Eq.f y225 ([] : List (S38))).bind fun t242 => (if t242 = true then (none) else (if t236 = 8 then ((batch_Encode.f k ([] : List (S38))).bind fun t243 => (some ((t243.length : Int) == 1))) else (none)))) else (none))) else (none)) = some r := by rw [if_pos rfl] at H; exact H
      clear H
      have H := H1
      clear H1
      by_cases c8 : t232 = 0
      · rw [if_pos c8] at H
        have c8b0 : (t232 == 0) = true := beq_iff_eq.mpr c8
        have c8b1 : (t232 != 0) = false := bne_eq_false_iff_eq.mpr c8
        clear c8
        replace H := Option.bind_eq_some_iff.mp H
        obtain ⟨t241, A90, H⟩ := H
        replace H : (if t241 = true then ((batch_Eq.f y225 ([] : List (S38))).bind fun t242 => (if t242 = true then (none) else (if t236 = 8 then ((batch_Encode.f k ([] : List (S38))).bind fun t243 => (some ((t243.length : Int) == 1))) else (none)))) else (none)) = some r := H
        have A9 := Aside0.mk A90
        clear A90
        by_cases c10 : t241 = true
        · subst c10
          have H1 : ((batch_Eq.f y225 ([] : List (S38))).bind fun t242 => (if t242 = true then (none) else (if t236 = 8 then ((batch_Encode.f k ([] : List (S38))).bind fun t243 => (some ((t243.length : Int) == 1))) else (none)))) = some r := by rw [if_pos rfl] at H; exact H
          clear H
          have H := H1
          clear H1
          replace H := Option.bind_eq_some_iff.mp H
          obtain ⟨t242, A110, H⟩ := H
          replace H : (if t242 = true then (none) else (if t236 = 8 then ((batch_Encode.f k ([] : List (S38))).bind fun t243 => (some ((t243.length : Int) == 1))) else (none))) = some r := H
          have A11 := Aside0.mk A110
          clear A110
          by_cases c12 : t242 = true
          · subst c12
            have H1 : (none) = some r := by rw [if_pos rfl] at H; exact H
            clear H
            have H := H1
            clear H1
            exact absurd H (by simp)
          · replace c12 := Bool.eq_false_iff.mpr c12
            subst c12
            have H1 : (if t236 = 8 then ((batch_Encode.f k ([] : List (S38))).bind fun t243 => (some ((t243.length : Int) == 1))) else (none)) = some r := by rw [if_neg (show ¬ (false = true) by decide)] at H; exact H
            clear H
            have H := H1
            clear H1
            by_cases c13 : t236 = 8
            · rw [if_pos c13] at H
              have c13b0 : (t236 == 8) = true := beq_iff_eq.mpr c13
              have c13b1 : (t236 != 8) = false := bne_eq_false_iff_eq.mpr c13
              clear c13
              replace H := Option.bind_eq_some_iff.mp H
              obtain ⟨t243, A140, H⟩ := H
              replace H : (some ((t243.length : Int) == 1)) = some r := H
              have A14 := Aside0.mk A140
              clear A140
              obtain rfl := Option.some.inj H
              go_enter Try.func7, Try.ntmps7
              go_wp2_with (first | ((with_reducible refine gate_dst (N := 9) rfl ?_); (try (refine gate_guard (by rfl) ?_; dsimp only)); refine Kd.R_lit k38 _ 38 ?hg (N := 9) ?hd (xs := ([(⟨(⟨#[98]⟩ : ByteArray), true, (⟨0, 0, (⟨#[]⟩ : ByteArray)⟩ : S36)⟩ : S38), (⟨(⟨#[97]⟩ : ByteArray), false, (⟨2, 0, (⟨#[120]⟩ : ByteArray)⟩ : S36)⟩ : S38)] : List (S38))) (inner := [.string (⟨#[98]⟩ : ByteArray), .bool true, .int .i64 0, .int .i64 0, .string (⟨#[]⟩ : ByteArray), .string (⟨#[97]⟩ : ByteArray), .bool false, .int .i64 2, .int .i64 0, .string (⟨#[120]⟩ : ByteArray)]) (ok := fun _ => True) (okp := fun _ => True) ?hr ?hp (fun _ hk => hk) trivial (Below.refl _ _) (Nat.le_refl _) (by simp) ?_; (case hd => rfl); (case hg => rfl); (case hr => first | (go_simp; done) | (go_simp; rfl)); (case hp => exact (Reps.c5 (show Kd.M k38 _ _ _ (⟨(⟨#[98]⟩ : ByteArray), true, (⟨0, 0, (⟨#[]⟩ : ByteArray)⟩ : S36)⟩ : S38) [.string (⟨#[98]⟩ : ByteArray), .bool true, .int .i64 0, .int .i64 0, .string (⟨#[]⟩ : ByteArray)] from (k38_mkM _ _ _ (⟨(⟨#[98]⟩ : ByteArray), true, (⟨0, 0, (⟨#[]⟩ : ByteArray)⟩ : S36)⟩ : S38) )) (Reps.c5 (show Kd.M k38 _ _ _ (⟨(⟨#[97]⟩ : ByteArray), false, (⟨2, 0, (⟨#[120]⟩ : ByteArray)⟩ : S36)⟩ : S38) [.string (⟨#[97]⟩ : ByteArray), .bool false, .int .i64 2, .int .i64 0, .string (⟨#[120]⟩ : ByteArray)] from (k38_mkM _ _ _ (⟨(⟨#[97]⟩ : ByteArray), false, (⟨2, 0, (⟨#[120]⟩ : ByteArray)⟩ : S36)⟩ : S38) )) (Reps.none _ _)))); intro v226 w15 ho16 hb hg_ hnew_; clear hg_ hnew_; (first | rw [← Ny225.out] at ho16 | (simp only [Int.reduceToNat] at ho16; rw [← Ny225.out] at ho16)); have n0_ := Aside0.mk (Kd.R_lower ho16 (below_size (by repeat (first | (with_reducible first | exact HB.out | apply below_alloc | apply pw_below_drewN | apply below_drew1) | exact HB.out)))); have n1_ := Aside0.mk (below_step (by repeat (first | (with_reducible first | exact HB.out | apply below_alloc | apply pw_below_drewN | apply below_drew1) | exact HB.out)) hb); clear HB; have HO227 := n0_; have HB := n1_; clear n0_ n1_; clear hb ho16; obtain ⟨Ao17, co17, eo17⟩ := Kd.R_slice HO227.out; subst eo17) | ((with_reducible refine gate_callee (f := 9) rfl ?_); refine goesL_ (some 12) rfl rfl Try.func9 (by kernel_rfl) rfl #[.slice Ao17 y225.length co17] rfl (by (try simp only [List.map_toArray, List.map_cons, List.map_nil]); first | done | rfl | (simp only [List.length_drop, List.length_take]; rfl)) ?_; (with_reducible refine (batch_Encode.calls k _ _ y225 t228 _ ?side1 ?side2 A1.out).mono ?_); (case side1 => repeat (first | exact (Kd.R_reads' HO227.out).2.2 | (with_reducible refine Kd.C_alloc ?_ _) | (with_reducible refine Kd.C_drewN ?_ _) | (with_reducible refine Kd.C_drew ?_))); (case side2 => exact (Kd.R_reads' HO227.out).2.1); rintro e w18 ⟨v229, rfl, ho0, hb⟩; refine ⟨_, rfl, ?_⟩; have n0_ := Aside0.mk (Kd.R_below (by (with_reducible repeat (first | apply Kd.R_alloc | apply Kd.R_drewN | apply Kd.R_drew)); exact HO227.out) hb); have n1_ := Aside0.mk (Kd.R_lower ho0 (below_size (by repeat (first | (with_reducible first | exact HB.out | apply below_alloc | apply pw_below_drewN | apply below_drew1) | exact HB.out)))); have n2_ := Aside0.mk (below_step (by repeat (first | (with_reducible first | exact HB.out | apply below_alloc | apply pw_below_drewN | apply below_drew1) | exact HB.out)) hb); clear HO227; clear HB; have HO227 := n0_; have HO230 := n1_; have HB := n2_; clear n0_ n1_ n2_; (try clear hb); (try clear hb2); (try clear hk); (try clear hi); (try clear ho0); obtain ⟨Ao19, co19, eo19⟩ := Kd.R_slice HO230.out; subst eo19) | ((with_reducible refine gate_callee (f := 15) rfl ?_); refine goesL_ (some 13) rfl rfl Try.func15 (by kernel_rfl) rfl #[.slice Ao19 t228.length co19] rfl (by (try simp only [List.map_toArray, List.map_cons, List.map_nil]); first | done | rfl | (simp only [List.length_drop, List.length_take]; rfl)) ?_; (with_reducible refine (batch_Decode.calls k _ _ t228 t231 t232 _ ?side1 ?side2 A2.out).mono ?_); (case side1 => repeat (first | exact (Kd.R_reads' HO230.out).2.2 | (with_reducible refine Kd.C_alloc ?_ _) | (with_reducible refine Kd.C_drewN ?_ _) | (with_reducible refine Kd.C_drew ?_))); (case side2 => exact (Kd.R_reads' HO230.out).2.1); rintro e w20 ⟨v233, rfl, ho0, hb⟩; refine ⟨_, rfl, ?_⟩; have n0_ := Aside0.mk (Kd.R_elder' (by (with_reducible repeat (first | apply Kd.R_alloc | apply Kd.R_drewN | apply Kd.R_drew)); exact HO227.out) (Kd.R_base ho0) hb); have n1_ := Aside0.mk (Kd.R_below (by (with_reducible repeat (first | apply Kd.R_alloc | apply Kd.R_drewN | apply Kd.R_drew)); exact HO230.out) hb); have n2_ := Aside0.mk (Kd.R_lower (Kd.R_new' ho0 (Kd.R_lt (by (with_reducible repeat (first | apply Kd.R_alloc | apply Kd.R_drewN | apply Kd.R_drew)); exact HO227.out))) (below_size (by repeat (first | (with_reducible first | exact HB.out | apply below_alloc | apply pw_below_drewN | apply below_drew1) | exact HB.out)))); have n3_ := Aside0.mk (below_step (by repeat (first | (with_reducible first | exact HB.out | apply below_alloc | apply pw_below_drewN | apply below_drew1) | exact HB.out)) hb); clear HO227; clear HO230; clear HB; have HO227 := n0_; have HO230 := n1_; have HO234 := n2_; have HB := n3_; clear n0_ n1_ n2_ n3_; (try clear hb); (try clear hb2); (try clear hk); (try clear hi); (try clear ho0)) | ((with_reducible refine gate_callee (f := 15) rfl ?_); refine goesL_ (some 17) rfl rfl Try.func15 (by kernel_rfl) rfl #[.slice none 0 0] rfl (by (try simp only [List.map_toArray, List.map_cons, List.map_nil]); first | done | rfl | (simp only [List.length_drop, List.length_take]; rfl)) ?_; (refine (batch_Decode.calls k _ _ ([] : List Int) t235 t236 _ ?side1 ?side2 A3.out).mono ?_); (case side1 => exact Kd.C_nil _ _); (case side2 => exact Nat.le_refl _); rintro e w21 ⟨v237, rfl, ho0, hb⟩; refine ⟨_, rfl, ?_⟩; have n0_ := Aside0.mk (Kd.R_elder' (by (with_reducible repeat (first | apply Kd.R_alloc | apply Kd.R_drewN | apply Kd.R_drew)); exact HO227.out) (Kd.R_base ho0) hb); have n1_ := Aside0.mk (Kd.R_below (by (with_reducible repeat (first | apply Kd.R_alloc | apply Kd.R_drewN | apply Kd.R_drew)); exact HO230.out) hb); have n2_ := Aside0.mk (Kd.R_elder' (by (with_reducible repeat (first | apply Kd.R_alloc | apply Kd.R_drewN | apply Kd.R_drew)); exact HO234.out) (Kd.R_base ho0) hb); have n3_ := Aside0.mk (Kd.R_lower (Kd.R_new' (Kd.R_new' ho0 (Kd.R_lt (by (with_reducible repeat (first | apply Kd.R_alloc | apply Kd.R_drewN | apply Kd.R_drew)); exact HO227.out))) (Kd.R_lt (by (with_reducible repeat (first | apply Kd.R_alloc | apply Kd.R_drewN | apply Kd.R_drew)); exact HO234.out))) (below_size (by repeat (first | (with_reducible first | exact HB.out | apply below_alloc | apply pw_below_drewN | apply below_drew1) | exact HB.out)))); have n4_ := Aside0.mk (below_step (by repeat (first | (with_reducible first | exact HB.out | apply below_alloc | apply pw_below_drewN | apply below_drew1) | exact HB.out)) hb); clear HO227; clear HO230; clear HO234; clear HB; have HO227 := n0_; have HO230 := n1_; have HO234 := n2_; have HO238 := n3_; have HB := n4_; clear n0_ n1_ n2_ n3_ n4_; (try clear hb); (try clear hb2); (try clear hk); (try clear hi); (try clear ho0)) | ((with_reducible refine gate_callee (f := 10) rfl ?_); refine goesL_ (some 21) rfl rfl Try.func10 (by kernel_rfl) rfl #[.slice Ao17 y225.length co17] rfl (by (try simp only [List.map_toArray, List.map_cons, List.map_nil]); first | done | rfl | (simp only [List.length_drop, List.length_take]; rfl)) ?_; (with_reducible refine (batch_May.calls _ _ y225 true _ ?side1 ?side2 A4.out).mono ?_); (case side1 => repeat (first | exact (Kd.R_reads' HO227.out).2.2 | (with_reducible refine Kd.C_alloc ?_ _) | (with_reducible refine Kd.C_drewN ?_ _) | (with_reducible refine Kd.C_drew ?_))); (case side2 => exact (Kd.R_reads' HO227.out).2.1); rintro e w22 ⟨rfl, hb⟩; refine ⟨_, rfl, ?_⟩; have n0_ := Aside0.mk (Kd.R_below (by (with_reducible repeat (first | apply Kd.R_alloc | apply Kd.R_drewN | apply Kd.R_drew)); exact HO227.out) hb); have n1_ := Aside0.mk (Kd.R_below (by (with_reducible repeat (first | apply Kd.R_alloc | apply Kd.R_drewN | apply Kd.R_drew)); exact HO230.out) hb); have n2_ := Aside0.mk (Kd.R_below (by (with_reducible repeat (first | apply Kd.R_alloc | apply Kd.R_drewN | apply Kd.R_drew)); exact HO234.out) hb); have n3_ := Aside0.mk (Kd.R_below (by (with_reducible repeat (first | apply Kd.R_alloc | apply Kd.R_drewN | apply Kd.R_drew)); exact HO238.out) hb); have n4_ := Aside0.mk (below_step (by repeat (first | (with_reducible first | exact HB.out | apply below_alloc | apply pw_below_drewN | apply below_drew1) | exact HB.out)) hb); clear HO227; clear HO230; clear HO234; clear HO238; clear HB; have HO227 := n0_; have HO230 := n1_; have HO234 := n2_; have HO238 := n3_; have HB := n4_; clear n0_ n1_ n2_ n3_ n4_; (try clear hb); (try clear hb2); (try clear hk); (try clear hi)) | (go_at_call 10; (refine (batch_May.calls _ _ ([] : List (S38)) true _ ?side1 ?side2 A6.out).mono ?_); (case side1 => exact Kd.C_nil _ _); (case side2 => exact Nat.le_refl _); rintro e w23 ⟨rfl, hb⟩; have n0_ := Aside0.mk (Kd.R_below (by (with_reducible repeat (first | apply Kd.R_alloc | apply Kd.R_drewN | apply Kd.R_drew)); exact HO227.out) hb); have n1_ := Aside0.mk (Kd.R_below (by (with_reducible repeat (first | apply Kd.R_alloc | apply Kd.R_drewN | apply Kd.R_drew)); exact HO230.out) hb); have n2_ := Aside0.mk (Kd.R_below (by (with_reducible repeat (first | apply Kd.R_alloc | apply Kd.R_drewN | apply Kd.R_drew)); exact HO234.out) hb); have n3_ := Aside0.mk (Kd.R_below (by (with_reducible repeat (first | apply Kd.R_alloc | apply Kd.R_drewN | apply Kd.R_drew)); exact HO238.out) hb); have n4_ := Aside0.mk (below_step (by repeat (first | (with_reducible first | exact HB.out | apply below_alloc | apply pw_below_drewN | apply below_drew1) | exact HB.out)) hb); clear HO227; clear HO230; clear HO234; clear HO238; clear HB; have HO227 := n0_; have HO230 := n1_; have HO234 := n2_; have HO238 := n3_; have HB := n4_; clear n0_ n1_ n2_ n3_ n4_; (try clear hb); (try clear hb2); (try clear hk); (try clear hi); obtain ⟨Ao24, co24, eo24⟩ := Kd.R_slice HO234.out; subst eo24) | (go_at_call 13; (with_reducible refine (batch_Eq.calls _ _ y225 _ _ t231 true _ ?side1 ?side2 ?side3 ?side4 A9.out).mono ?_); (case side1 => repeat (first | exact (Kd.R_reads' HO227.out).2.2 | (with_reducible refine Kd.C_alloc ?_ _) | (with_reducible refine Kd.C_drewN ?_ _) | (with_reducible refine Kd.C_drew ?_))); (case side2 => exact (Kd.R_reads' HO227.out).2.1); (case side3 => repeat (first | exact (Kd.R_reads' HO234.out).2.2 | (with_reducible refine Kd.C_alloc ?_ _) | (with_reducible refine Kd.C_drewN ?_ _) | (with_reducible refine Kd.C_drew ?_))); (case side4 => exact (Kd.R_reads' HO234.out).2.1); rintro e w25 ⟨rfl, hb⟩; have n0_ := Aside0.mk (Kd.R_below (by (with_reducible repeat (first | apply Kd.R_alloc | apply Kd.R_drewN | apply Kd.R_drew)); exact HO227.out) hb); have n1_ := Aside0.mk (Kd.R_below (by (with_reducible repeat (first | apply Kd.R_alloc | apply Kd.R_drewN | apply Kd.R_drew)); exact HO230.out) hb); have n2_ := Aside0.mk (Kd.R_below (by (with_reducible repeat (first | apply Kd.R_alloc | apply Kd.R_drewN | apply Kd.R_drew)); exact HO234.out) hb); have n3_ := Aside0.mk (Kd.R_below (by (with_reducible repeat (first | apply Kd.R_alloc | apply Kd.R_drewN | apply Kd.R_drew)); exact HO238.out) hb); have n4_ := Aside0.mk (below_step (by repeat (first | (with_reducible first | exact HB.out | apply below_alloc | apply pw_below_drewN | apply below_drew1) | exact HB.out)) hb); clear HO227; clear HO230; clear HO234; clear HO238; clear HB; have HO227 := n0_; have HO230 := n1_; have HO234 := n2_; have HO238 := n3_; have HB := n4_; clear n0_ n1_ n2_ n3_ n4_; (try clear hb); (try clear hb2); (try clear hk); (try clear hi)) | (go_at_call 13; (refine (batch_Eq.calls _ _ y225 _ _ ([] : List (S38)) false _ ?side1 ?side2 ?side3 ?side4 A11.out).mono ?_); (case side1 => repeat (first | exact (Kd.R_reads' HO227.out).2.2 | (with_reducible refine Kd.C_alloc ?_ _) | (with_reducible refine Kd.C_drewN ?_ _) | (with_reducible refine Kd.C_drew ?_))); (case side2 => exact (Kd.R_reads' HO227.out).2.1); (case side3 => exact Kd.C_nil _ _); (case side4 => exact Nat.le_refl _); rintro e w26 ⟨rfl, hb⟩; have n0_ := Aside0.mk (Kd.R_below (by (with_reducible repeat (first | apply Kd.R_alloc | apply Kd.R_drewN | apply Kd.R_drew)); exact HO227.out) hb); have n1_ := Aside0.mk (Kd.R_below (by (with_reducible repeat (first | apply Kd.R_alloc | apply Kd.R_drewN | apply Kd.R_drew)); exact HO230.out) hb); have n2_ := Aside0.mk (Kd.R_below (by (with_reducible repeat (first | apply Kd.R_alloc | apply Kd.R_drewN | apply Kd.R_drew)); exact HO234.out) hb); have n3_ := Aside0.mk (Kd.R_below (by (with_reducible repeat (first | apply Kd.R_alloc | apply Kd.R_drewN | apply Kd.R_drew)); exact HO238.out) hb); have n4_ := Aside0.mk (below_step (by repeat (first | (with_reducible first | exact HB.out | apply below_alloc | apply pw_below_drewN | apply below_drew1) | exact HB.out)) hb); clear HO227; clear HO230; clear HO234; clear HO238; clear HB; have HO227 := n0_; have HO230 := n1_; have HO234 := n2_; have HO238 := n3_; have HB := n4_; clear n0_ n1_ n2_ n3_ n4_; (try clear hb); (try clear hb2); (try clear hk); (try clear hi)) | (go_at_call 9; (refine (batch_Encode.calls k _ _ ([] : List (S38)) t243 _ ?side1 ?side2 A14.out).mono ?_); (case side1 => exact Kd.C_nil _ _); (case side2 => exact Nat.le_refl _); rintro e w27 ⟨v244, rfl, ho0, hb⟩; have n0_ := Aside0.mk (Kd.R_below (by (with_reducible repeat (first | apply Kd.R_alloc | apply Kd.R_drewN | apply Kd.R_drew)); exact HO227.out) hb); have n1_ := Aside0.mk (Kd.R_elder' (by (with_reducible repeat (first | apply Kd.R_alloc | apply Kd.R_drewN | apply Kd.R_drew)); exact HO230.out) (Kd.R_base ho0) hb); have n2_ := Aside0.mk (Kd.R_below (by (with_reducible repeat (first | apply Kd.R_alloc | apply Kd.R_drewN | apply Kd.R_drew)); exact HO234.out) hb); have n3_ := Aside0.mk (Kd.R_below (by (with_reducible repeat (first | apply Kd.R_alloc | apply Kd.R_drewN | apply Kd.R_drew)); exact HO238.out) hb); have n4_ := Aside0.mk (Kd.R_lower (Kd.R_new' ho0 (Kd.R_lt (by (with_reducible repeat (first | apply Kd.R_alloc | apply Kd.R_drewN | apply Kd.R_drew)); exact HO230.out))) (below_size (by repeat (first | (with_reducible first | exact HB.out | apply below_alloc | apply pw_below_drewN | apply below_drew1) | exact HB.out)))); have n5_ := Aside0.mk (below_step (by repeat (first | (with_reducible first | exact HB.out | apply below_alloc | apply pw_below_drewN | apply below_drew1) | exact HB.out)) hb); clear HO227; clear HO230; clear HO234; clear HO238; clear HB; have HO227 := n0_; have HO230 := n1_; have HO234 := n2_; have HO238 := n3_; have HO245 := n4_; have HB := n5_; clear n0_ n1_ n2_ n3_ n4_ n5_; (try clear hb); (try clear hb2); (try clear hk); (try clear hi); (try clear ho0); obtain ⟨Ao28, co28, eo28⟩ := Kd.R_slice HO245.out; subst eo28))
              go_ret
              exact ⟨by first | rfl | (simp [errW_none, errW_some] <;> rfl) | (simp [*, errW_none, errW_some] <;> rfl), by repeat (first | (with_reducible first | exact HB.out | apply below_alloc | apply pw_below_drewN | apply below_drew1) | exact HB.out)⟩
            · rw [if_neg c13] at H
              exact absurd H (by simp)
        · replace c10 := Bool.eq_false_iff.mpr c10
          subst c10
          have H1 : (none) = some r := by rw [if_neg (show ¬ (false = true) by decide)] at H; exact H
          clear H
          have H := H1
          clear H1
          exact absurd H (by simp)
      · rw [if_neg c8] at H
        exact absurd H (by simp)
    · replace c7 := Bool.eq_false_iff.mpr c7
      subst c7
      have H1 : (none) = some r := by rw [if_neg (show ¬ (false = true) by decide)] at H; exact H
      clear H
      have H := H1
      clear H1
      exact absurd H (by simp)
  · replace c5 := Bool.eq_false_iff.mpr c5
    subst c5
    have H1 : (none) = some r := by rw [if_neg (show ¬ (false = true) by decide)] at H; exact H
    clear H
    have H := H1
    clear H1
    exact absurd H (by simp)

end Go.Proofs.Ytbogcnfmdakdmaa.XBat

/- package batch and its reference in plain Lean. -/
set_option linter.unusedVariables false
set_option linter.unusedSimpArgs false
namespace Go.Proofs.Ytbogcnfmdakdmaa.Q
open Go.RowKit Go.Proofs.YtbogcnfmdakdmaaW.PrintWords Go.Proofs.YtbogcnfmdakdmaaW.PrintMore Go.Proofs.Ytbogcnfmdakdmaa.G Go.Proofs.Ytbogcnfmdakdmaa.XBat Go.Proofs.Ytbogcnfmdakdmaa.GL
abbrev rr (l : List Rc) (i : Nat) : Rc := rd_T38 l (i : Int)
theorem rr_get {l : List Rc} {i : Nat} (h : i < l.length) : rr l i = l[i] := by simp [rd_T38, h]
theorem rr_mem {l : List Rc} {i : Nat} (h : i < l.length) : rr l i ∈ l := by rw [rr_get h]; exact List.getElem_mem h
theorem rr_drop {l : List Rc} {i : Nat} (h : i < l.length) : l.drop i = rr l i :: l.drop (i + 1) := by rw [List.drop_eq_getElem_cons h, rr_get h]
/-- A record as bytes can bear it. -/
def WkR (x : Rc) : Prop := x.f2.f2.size < 17592186044416 ∧ I64 x.f2.f0 ∧ I64 x.f2.f1
theorem SmR.wk {x : Rc} (h : SmR x) : WkR x := ⟨by have := h.2.1; omega, h.2.2.1, h.2.2.2⟩
theorem may_sm {x : Rc} (h : mayR x = true) (hw : WkR x) : SmR x := mayR_sm h hw.2.2
theorem mayB_iff (l : List Rc) : mayB l = true ↔ l.length ≤ 1000 ∧ ∀ x ∈ l, mayR x = true := by
  unfold mayB
  rw [Bool.and_eq_true, decide_eq_true_eq, List.all_eq_true]
def encF (l : List Rc) : List Int := putN l.length ++ l.flatMap putR
def encB (l : List Rc) : List Int := if mayB l = true then encF l else []
theorem encF_byt (l : List Rc) : Byt (encF l) := by
  unfold encF
  refine (putN_byt _).append ?_
  induction l with
  | nil => exact Byt.nil
  | cons x r ih => exact (putR_byt x).append ih
theorem encB_byt (l : List Rc) : Byt (encB l) := by
  unfold encB
  split
  · exact encF_byt l
  · exact Byt.nil
theorem flatR_len {l : List Rc} (h : ∀ x ∈ l, SmR x) : (l.flatMap putR).length ≤ 80 * l.length := by
  induction l with
  | nil => simp
  | cons x r ih =>
    have := putR_len (h x List.mem_cons_self)
    have := ih (fun y hy => h y (List.mem_cons_of_mem _ hy))
    simp only [List.flatMap_cons, List.length_append, List.length_cons]
    omega
theorem encF_len {l : List Rc} (hl : l.length ≤ 1000) (h : ∀ x ∈ l, SmR x) (i : Nat) : (putN (l.length : Int) ++ (l.take i).flatMap putR).length ≤ 80010 := by
  have h2 := flatR_len (l := l.take i) (fun x hx => h x (List.mem_of_mem_take hx))
  have h3 := putN_len (n := (l.length : Int)) (by unfold I64; omega)
  have h4 : (l.take i).length ≤ l.length := by rw [List.length_take]; omega
  rw [List.length_append]
  omega
theorem encF_step {l : List Rc} {i : Nat} (h : i < l.length) : putN (l.length : Int) ++ (l.take (i + 1)).flatMap putR = putN (l.length : Int) ++ (l.take i).flatMap putR ++ putR (rr l i) := by
  rw [List.take_succ_eq_append_getElem h, List.flatMap_append, rr_get h]
  simp [List.append_assoc]
theorem encode_l (l : List Rc) (hl : l.length ≤ 1000) (h : ∀ x ∈ l, SmR x) : ∀ (d i : Nat), i + d = l.length → Ev (fun k => batch_Encode.l0 k (putN (l.length : Int) ++ (l.take i).flatMap putR) l (l.length : Int) (i : Int)) (encF l) := by
  intro d
  induction d with
  | zero =>
    intro i hi
    refine Ev.step (fun k => by unfold batch_Encode.l0; rfl) (Ev.congr (fun k => if_neg (by omega)) (evEq (Ev.now _) ?_))
    rw [List.take_of_length_le (by omega)]
    rfl
  | succ d ih =>
    intro i hi
    have hrec := ih (i + 1) (by omega)
    rw [encF_step (show i < l.length by omega)] at hrec
    have hx := h _ (rr_mem (show i < l.length by omega))
    have hlen := encF_len hl h i
    refine Ev.step (fun k => by unfold batch_Encode.l0; rfl) (Ev.congr (fun k => if_pos (by omega)) (Ev.congr (fun k => if_pos (by omega)) (Ev.congr (fun k => if_pos (by omega)) ?_)))
    rw [w64 (x := (i : Int) + 1) (by omega) (by omega)]
    exact Ev.bind (record_Put_ev hx _ (by omega)) hrec
theorem batch_May_eq {l : List Rc} (h : ∀ x ∈ l, WkR x) : batch_May.f l = some (mayB l) := by
  unfold batch_May.f
  rw [if_pos (fun x hx => (h x hx).1)]
theorem encode_ev {l : List Rc} (h : ∀ x ∈ l, WkR x) : Ev (fun k => batch_Encode.f k l) (encB l) := by
  unfold batch_Encode.f encB
  refine Ev.bind (evC (batch_May_eq h)) ?_
  by_cases hm : mayB l = true
  · obtain ⟨h1, h2⟩ := (mayB_iff l).1 hm
    refine Ev.congr (fun k => if_pos hm) ?_
    rw [if_pos hm]
    refine Ev.bind (num_Put_ev (n := (l.length : Int)) (by unfold I64; omega) [] (by simp)) ?_
    have := encode_l l h1 (fun x hx => may_sm (h2 x hx) (h x hx)) l.length 0 (by omega)
    simpa using this
  · refine Ev.congr (fun k => if_neg hm) ?_
    rw [if_neg hm]
    exact Ev.now _
def readB (l : List Int) : Nat → Int → List Rc → Option (List Rc)
  | 0, _, acc => some acc
  | d + 1, p, acc => if (getR (l.drop p.toNat)).2.2 = 0 then readB l d (p + (getR (l.drop p.toNat)).2.1) (acc ++ [(getR (l.drop p.toNat)).1]) else none
theorem readB_succ (l : List Int) (d : Nat) (p : Int) (acc : List Rc) : readB l (d + 1) p acc = if (getR (l.drop p.toNat)).2.2 = 0 then readB l d (p + (getR (l.drop p.toNat)).2.1) (acc ++ [(getR (l.drop p.toNat)).1]) else none := rfl
def finB (l : List Int) : Option (List Rc) → List Rc × Int
  | none => ([], 8)
  | some r => if encB r = l then (r, 0) else ([], 8)
def decB (l : List Int) : List Rc × Int := if (getN l).2.2 = 0 ∧ 0 ≤ (getN l).1 ∧ (getN l).1 ≤ 1000 then finB l (readB l (getN l).1.toNat (getN l).2.1 []) else ([], 8)
theorem getV_ok {l : List Int} (hb : Byt l) : (getV l).2.2.1.size < 17592186044416 ∧ I64 (getV l).1 ∧ I64 (getV l).2.1 := by
  have b1 := getN_i64 (hb.drop (getN l).2.1.toNat)
  have b2 := getT_size _ (hb.drop (getN l).2.1.toNat)
  have z : I64 0 := by unfold I64; omega
  have z1 : I64 1 := by unfold I64; omega
  have z2 : I64 2 := by unfold I64; omega
  have e0 : (⟨#[]⟩ : ByteArray).size < 17592186044416 := by decide
  unfold getV
  split
  · split
    · split
      · exact ⟨e0, z1, b1⟩
      · exact ⟨e0, z, z⟩
    · split
      · split
        · split
          · exact ⟨by simp only; omega, z2, z⟩
          · exact ⟨e0, z, z⟩
        · exact ⟨e0, z, z⟩
      · exact ⟨e0, z, z⟩
  · exact ⟨e0, z, z⟩
theorem getR_ok {l : List Int} (hb : Byt l) : WkR (getR l).1 := by
  have b := getV_ok (hb.drop (getT l).2.1.toNat)
  have z : I64 0 := by unfold I64; omega
  have e0 : (⟨#[]⟩ : ByteArray).size < 17592186044416 := by decide
  unfold getR
  split
  · split
    · unfold tailR
      split
      · split
        · exact ⟨e0, z, z⟩
        · split
          · exact b
          · exact ⟨e0, z, z⟩
      · exact ⟨e0, z, z⟩
    · exact ⟨e0, z, z⟩
  · exact ⟨e0, z, z⟩
theorem decode_l (l : List Int) (hb : Byt l) (hl : l.length < 4611686018427387904) (N : Nat) (hN : N ≤ 1000) : ∀ (d i : Nat) (p : Int) (acc : List Rc), i + d = N → 0 ≤ p → p ≤ (l.length : Int) → acc.length = i → (∀ x ∈ acc, WkR x) → Ev (fun k => batch_Decode.l0 k l p acc (N : Int) (i : Int)) (finB l (readB l d p acc)) := by
  intro d
  induction d with
  | zero =>
    intro i p acc hi hp0 hp1 ha hw
    refine Ev.step (fun k => by unfold batch_Decode.l0; rfl) (Ev.congr (fun k => if_neg (by omega)) ?_)
    refine Ev.bind (encode_ev hw) ?_
    show Ev _ (if encB acc = l then (acc, 0) else ([], 8))
    have he : bytes_Equal.f (encB acc) l = some (decide (encB acc = l)) := by
      unfold bytes_Equal.f
      congr 1
      by_cases h : encB acc = l
      · rw [h, decide_eq_true rfl]; simp
      · rw [decide_eq_false h]
        exact beq_eq_false_iff_ne.mpr (fun e => h (str_inj (encB_byt acc) hb (toList_inj e)))
    refine Ev.bind (evC he) ?_
    by_cases h : encB acc = l
    · rw [if_pos h]
      exact Ev.congr (fun k => if_pos (decide_eq_true h)) (Ev.now _)
    · rw [if_neg h]
      exact Ev.congr (fun k => if_neg (by simpa using h)) (Ev.now _)
  | succ d ih =>
    intro i p acc hi hp0 hp1 ha hw
    have hbd := hb.drop p.toNat
    have hld : (l.drop p.toNat).length = l.length - p.toNat := List.length_drop
    have gb := getR_bound (l.drop p.toNat)
    have gk := getR_ok hbd
    rw [readB_succ]
    refine Ev.step (fun k => by unfold batch_Decode.l0; rfl) (Ev.congr (fun k => if_pos (by omega)) (Ev.congr (fun k => if_pos hp0) (Ev.congr (fun k => if_pos hp1) ?_)))
    refine Ev.bind (record_Get_ev hbd (by omega)) ?_
    by_cases c : (getR (l.drop p.toNat)).2.2 = 0
    · rw [if_pos c]
      refine Ev.congr (fun k => if_pos c) (Ev.congr (fun k => if_pos (by omega)) ?_)
      show Ev (fun k => batch_Decode.l0 k l (wrap64 (p + (getR (l.drop p.toNat)).2.1)) (acc ++ [(getR (l.drop p.toNat)).1]) (N : Int) (wrap64 ((i : Int) + 1))) _
      rw [w64 (x := (i : Int) + 1) (by omega) (by omega), w64 (x := p + (getR (l.drop p.toNat)).2.1) (by omega) (by omega)]
      have := ih (i + 1) (p + (getR (l.drop p.toNat)).2.1) (acc ++ [(getR (l.drop p.toNat)).1]) (by omega) (by omega) (by omega) (by rw [List.length_append, ha]; rfl) (fun x hx => by
        rcases List.mem_append.1 hx with hx | hx
        · exact hw x hx
        · rw [List.mem_singleton.1 hx]; exact gk)
      exact this
    · rw [if_neg c]
      exact Ev.congr (fun k => if_neg c) (Ev.now _)
theorem decode_ev {l : List Int} (hb : Byt l) (hl : l.length < 4611686018427387904) : Ev (fun k => batch_Decode.f k l) (decB l) := by
  have b := getN_bound l
  have hbad : ∀ n p : Int, Ev (fun k => batch_Decode.j0 k l n p true) (([] : List Rc), (8 : Int)) := fun n p => Ev.step (fun k => by unfold batch_Decode.j0; rfl) (Ev.congr (fun k => if_pos rfl) (Ev.now _))
  unfold batch_Decode.f decB
  refine Ev.bind (num_Get_ev hb (by omega)) ?_
  by_cases c : (getN l).2.2 = 0
  · refine Ev.congr (fun k => if_pos c) ?_
    by_cases c1 : (getN l).1 < 0
    · rw [if_neg (fun h => by omega)]
      exact Ev.congr (fun k => if_pos c1) (hbad _ _)
    refine Ev.congr (fun k => if_neg c1) ?_
    by_cases c2 : (getN l).1 > 1000
    · rw [if_neg (fun h => by omega), decide_eq_true c2]
      exact hbad _ _
    rw [if_pos ⟨c, by omega, by omega⟩, decide_eq_false c2]
    refine Ev.step (fun k => by unfold batch_Decode.j0; rfl) (Ev.congr (fun k => if_neg (by decide)) ?_)
    obtain ⟨N, hN⟩ := Int.eq_ofNat_of_zero_le (show 0 ≤ (getN l).1 by omega)
    rw [hN, Int.toNat_natCast]
    exact decode_l l hb hl N (by omega) N 0 (getN l).2.1 [] (by omega) b.1 b.2.1 rfl (by simp)
  · rw [if_neg (fun h => c h.1)]
    exact Ev.congr (fun k => if_neg c) (hbad _ _)
theorem putR_pos (x : Rc) : 0 < (putR x).length := by
  have := putN_pos (x.f0.size : Int)
  unfold putR putT
  simp only [List.length_append]
  omega
theorem readB_put : ∀ (r : List Rc) (pre : List Int) (acc : List Rc), (∀ x ∈ r, mayR x = true ∧ I64 x.f2.f1) → readB (pre ++ r.flatMap putR) r.length (pre.length : Int) acc = some (acc ++ r) := by
  intro r
  induction r with
  | nil => intro pre acc _; simp [readB]
  | cons x r ih =>
    intro pre acc h
    have hx := h x List.mem_cons_self
    rw [List.length_cons, readB_succ, List.flatMap_cons, Int.toNat_natCast, List.drop_left, getR_put hx.1 hx.2]
    simp only [if_true]
    have := ih (pre ++ putR x) (acc ++ [x]) (fun y hy => h y (List.mem_cons_of_mem _ hy))
    rw [List.append_assoc, List.append_assoc, List.length_append, Int.natCast_add] at this
    exact this
theorem encB_of {l : List Rc} (h : mayB l = true) : encB l = encF l := by unfold encB; rw [if_pos h]
theorem decB_enc {l : List Rc} (h : mayB l = true) (hw : ∀ x ∈ l, WkR x) : decB (encB l) = (l, 0) := by
  obtain ⟨h1, h2⟩ := (mayB_iff l).1 h
  have hg : getN (encB l) = ((l.length : Int), ((putN (l.length : Int)).length : Int), 0) := by rw [encB_of h]; exact getN_put (by unfold I64; omega) _
  unfold decB
  rw [hg]
  simp only
  rw [if_pos ⟨by first | trivial | rfl, by omega, by omega⟩, Int.toNat_natCast]
  have := readB_put l (putN (l.length : Int)) [] (fun x hx => ⟨h2 x hx, (hw x hx).2.2⟩)
  rw [List.nil_append] at this
  rw [encB_of h, show encF l = putN (l.length : Int) ++ l.flatMap putR from rfl, this]
  exact if_pos (encB_of h)
theorem encB_len {l : List Rc} (hw : ∀ x ∈ l, WkR x) : (encB l).length ≤ 80010 := by
  unfold encB
  split
  · rename_i h
    obtain ⟨h1, h2⟩ := (mayB_iff l).1 h
    have := encF_len h1 (fun x hx => may_sm (h2 x hx) (hw x hx)) l.length
    rw [List.take_length] at this
    exact this
  · simp
theorem decB_cases (b : List Int) : ((decB b).2 = 0 ∧ encB (decB b).1 = b) ∨ decB b = ([], 8) := by
  unfold decB
  split
  · cases readB b (getN b).1.toNat (getN b).2.1 [] with
    | none => exact .inr rfl
    | some r =>
      by_cases h : encB r = b
      · rw [show finB b (some r) = (r, 0) from if_pos h]
        exact .inl ⟨rfl, h⟩
      · exact .inr (if_neg h)
  · exact .inr rfl
theorem readB_wk {l : List Int} (hb : Byt l) : ∀ (d : Nat) (p : Int) (acc r : List Rc), (∀ x ∈ acc, WkR x) → readB l d p acc = some r → ∀ x ∈ r, WkR x := by
  intro d
  induction d with
  | zero =>
    intro p acc r h e
    rw [← Option.some.inj e]
    exact h
  | succ d ih =>
    intro p acc r h e
    rw [readB_succ] at e
    split at e
    · refine ih _ _ r (fun x hx => ?_) e
      rcases List.mem_append.1 hx with hx | hx
      · exact h x hx
      · rw [List.mem_singleton.1 hx]; exact getR_ok (hb.drop _)
    · cases e
theorem decB_wk {b : List Int} (hb : Byt b) : ∀ x ∈ (decB b).1, WkR x := by
  unfold decB
  split
  · cases h : readB b (getN b).1.toNat (getN b).2.1 [] with
    | none => intro x hx; cases hx
    | some r =>
      by_cases c : encB r = b
      · rw [show finB b (some r) = (r, 0) from if_pos c]
        exact readB_wk hb _ _ [] r (by simp) h
      · rw [show finB b (some r) = ([], 8) from if_neg c]
        intro x hx; cases hx
  · intro x hx; cases hx
theorem mayAll_l (l : List Rc) (hl : l.length ≤ 9223372036854775807) (h : ∀ x ∈ l, WkR x) : ∀ (d i : Nat), i + d = l.length → Ev (fun k => loessref10_MayAll.l0 k l (i : Int)) ((l.drop i).all mayR && decide (l.length ≤ 1000)) := by
  intro d
  induction d with
  | zero =>
    intro i hi
    refine Ev.step (fun k => by unfold loessref10_MayAll.l0; rfl) (Ev.congr (fun k => if_neg (by omega)) (evEq (Ev.now _) ?_))
    rw [List.drop_of_length_le (by omega), List.all_nil, Bool.true_and]
    exact decide_eq_decide.2 (by omega)
  | succ d ih =>
    intro i hi
    have hrec := ih (i + 1) (by omega)
    have hlt : i < l.length := by omega
    rw [rr_drop hlt, List.all_cons]
    refine Ev.step (fun k => by unfold loessref10_MayAll.l0; rfl) (Ev.congr (fun k => if_pos (by omega)) (Ev.congr (fun k => if_pos (by omega)) ?_))
    rw [w64 (x := (i : Int) + 1) (by omega) (by omega)]
    refine Ev.bind (ref_May_ev (rr l i) (h _ (rr_mem hlt)).1) ?_
    cases hm : mayR (rr l i) with
    | true =>
      refine Ev.congr (fun k => if_pos rfl) ?_
      rw [Bool.true_and]
      exact hrec
    | false => exact Ev.congr (fun k => if_neg (by decide)) (Ev.now _)
theorem mayAll_ev {l : List Rc} (hl : l.length ≤ 9223372036854775807) (h : ∀ x ∈ l, WkR x) : Ev (fun k => loessref10_MayAll.f k l) (mayB l) := by
  have := mayAll_l l hl h l.length 0 (by omega)
  rw [List.drop_zero, Bool.and_comm] at this
  exact this
theorem putVal_ev {a b : Int} {s : ByteArray} (ha : I64 a) (hb : I64 b) (h : s.size ≤ 30) : Ev (fun k => loessref1_PutVal.f k a b s) (putV a b s) := by
  have h1 := putN_len ha
  have h2 := putN_len hb
  have h3 := putT_len h (by decide)
  unfold loessref1_PutVal.f putV
  refine Ev.bind (ref_Put_ev ha) ?_
  by_cases e : a = 1
  · refine Ev.congr (fun k => if_pos e) ?_
    rw [if_pos e]
    exact Ev.bind (ref_Put_ev hb) (Ev.congr (fun k => if_pos (by omega)) (Ev.now _))
  · refine Ev.congr (fun k => if_neg e) ?_
    rw [if_neg e]
    exact Ev.bind (ref_PutText_ev (s := s) (by omega)) (Ev.congr (fun k => if_pos (by omega)) (Ev.now _))
theorem recBytes_ev {x : Rc} (h : SmR x) : Ev (fun k => loessref10_Bytes.f k x.f0 x.f1 x.f2.f0 x.f2.f1 x.f2.f2) (putR x) := by
  obtain ⟨h1, h2, h3, h4⟩ := h
  have a1 := putT_len h1 (by decide)
  have a2 := putV_len h3 h4 h2 (by decide)
  have a3 := putN_len (n := 0) (by unfold I64; omega)
  unfold loessref10_Bytes.f putR
  refine Ev.bind (ref_PutText_ev (s := x.f0) (by omega)) ?_
  by_cases g : x.f1 = true
  · refine Ev.congr (fun k => if_pos g) ?_
    rw [if_pos g]
    exact Ev.bind (ref_Put_ev (n := 0) (by unfold I64; omega)) (Ev.congr (fun k => if_pos (by omega)) (Ev.now _))
  · refine Ev.congr (fun k => if_neg g) ?_
    rw [if_neg g]
    exact Ev.bind (putVal_ev h3 h4 h2) (Ev.congr (fun k => if_pos (by omega)) (Ev.now _))
theorem row_l (l : List Rc) (hl : l.length ≤ 1000) (h : ∀ x ∈ l, SmR x) : ∀ (d i : Nat), i + d = l.length → Ev (fun k => loessref10_Row.l0 k l (putN (l.length : Int) ++ (l.take i).flatMap putR) (i : Int)) (encF l) := by
  intro d
  induction d with
  | zero =>
    intro i hi
    refine Ev.step (fun k => by unfold loessref10_Row.l0; rfl) (Ev.congr (fun k => if_neg (by omega)) (evEq (Ev.now _) ?_))
    rw [List.take_of_length_le (by omega)]
    rfl
  | succ d ih =>
    intro i hi
    have hrec := ih (i + 1) (by omega)
    rw [encF_step (show i < l.length by omega)] at hrec
    have hx := h _ (rr_mem (show i < l.length by omega))
    have hlen := encF_len hl h i
    have hpl : (putR (rd_T38 l (i : Int))).length ≤ 80 := putR_len hx
    refine Ev.step (fun k => by unfold loessref10_Row.l0; rfl) (Ev.congr (fun k => if_pos (by omega)) (Ev.congr (fun k => if_pos (by omega)) ?_))
    rw [w64 (x := (i : Int) + 1) (by omega) (by omega)]
    exact Ev.bind (recBytes_ev hx) (Ev.congr (fun k => if_pos (by omega)) hrec)
theorem row_ev {l : List Rc} (hl : l.length ≤ 9223372036854775807) (h : ∀ x ∈ l, WkR x) : Ev (fun k => loessref10_Row.f k l) (encB l) := by
  unfold loessref10_Row.f encB
  refine Ev.bind (mayAll_ev hl h) ?_
  by_cases hm : mayB l = true
  · obtain ⟨h1, h2⟩ := (mayB_iff l).1 hm
    refine Ev.congr (fun k => if_pos hm) ?_
    rw [if_pos hm]
    refine Ev.bind (ref_Put_ev (n := (l.length : Int)) (by unfold I64; omega)) ?_
    have := row_l l h1 (fun x hx => may_sm (h2 x hx) (h x hx)) l.length 0 (by omega)
    simpa using this
  · refine Ev.congr (fun k => if_neg hm) ?_
    rw [if_neg hm]
    exact Ev.now _
theorem eqRecs_l (a b : List Rc) (hl : a.length = b.length) (hb : a.length ≤ 9223372036854775807) : ∀ (d i : Nat), i + d = a.length → Ev (fun k => loessref10_EqRecs.l0 k a b (i : Int)) (decide (a.drop i = b.drop i)) := by
  intro d
  induction d with
  | zero =>
    intro i h
    refine Ev.step (fun k => by unfold loessref10_EqRecs.l0; rfl) (Ev.congr (fun k => if_neg (by omega)) (evEq (Ev.now _) ?_))
    rw [List.drop_of_length_le (by omega), List.drop_of_length_le (by omega)]
    simp
  | succ d ih =>
    intro i h
    have hrec := ih (i + 1) (by omega)
    rw [rr_drop (l := a) (by omega), rr_drop (l := b) (by omega)]
    refine Ev.step (fun k => by unfold loessref10_EqRecs.l0; rfl) (Ev.congr (fun k => if_pos (by omega)) (Ev.congr (fun k => if_pos (by omega)) (Ev.congr (fun k => if_pos (by omega)) ?_)))
    rw [w64 (x := (i : Int) + 1) (by omega) (by omega)]
    refine Ev.bind (evC (ref_Eq_eq (rr a i) (rr b i))) ?_
    by_cases hx : rr a i = rr b i
    · refine Ev.congr (fun k => if_pos (decide_eq_true hx)) ?_
      rw [hx]
      exact evEq hrec (decide_eq_decide.2 (by simp))
    · rw [decide_eq_false (fun h => hx (List.cons.inj h).1)]
      exact Ev.congr (fun k => if_neg (by simpa using hx)) (Ev.now _)
theorem eqRecs_ev (a b : List Rc) (hb : a.length ≤ 9223372036854775807) : Ev (fun k => loessref10_EqRecs.f k a b) (decide (a = b)) := by
  unfold loessref10_EqRecs.f
  by_cases h : a.length = b.length
  · refine Ev.congr (fun k => if_pos (by omega)) ?_
    exact eqRecs_l a b h hb a.length 0 (by omega)
  · refine Ev.congr (fun k => if_neg (by omega)) (evEq (Ev.now _) ?_)
    rw [decide_eq_false (fun e => h (by rw [e]))]
/-- Records that are cut. -/
def cutS (n : Nat) (s : ByteArray) : ByteArray := if (s.size : Int) > n then s.extract 0 n else s
def cutR (x : Rc) : Rc := ⟨cutS 20 x.f0, x.f1, ⟨x.f2.f0, x.f2.f1, cutS 30 x.f2.f2⟩⟩
theorem cutS_eq (n : Nat) (s : ByteArray) : loesslaw3_Cut.f s (n : Int) = some (cutS n s) := by
  unfold loesslaw3_Cut.f cutS
  split
  · rw [if_pos (by omega), if_pos (by omega), Int.toNat_natCast]
  · rfl
theorem cutS_size (n : Nat) (s : ByteArray) : (cutS n s).size ≤ n := by
  unfold cutS
  split
  · rw [ByteArray.size_extract]; omega
  · omega
theorem cutR_eq (x : Rc) : loesslaw10_Cut.f x.f0 x.f1 x.f2.f0 x.f2.f1 x.f2.f2 = some ((cutR x).f0, (cutR x).f1, (cutR x).f2.f0, (cutR x).f2.f1, (cutR x).f2.f2) := by
  unfold loesslaw10_Cut.f
  rw [show ((20 : Int)) = ((20 : Nat) : Int) from rfl, cutS_eq, Option.bind_some]
  unfold loesslaw4_Cut.f
  rw [show ((30 : Int)) = ((30 : Nat) : Int) from rfl, cutS_eq]
  rfl
def recsL (l : List Rc) (n : Nat) : List Rc := (l.take n).map cutR
theorem recs_l (l : List Rc) (n : Nat) (hn : n ≤ 100) : ∀ (d i : Nat), i + d = n → i ≤ l.length → Ev (fun k => loesslaw10_Recs.l0 k l (n : Int) ((l.take i).map cutR) (i : Int)) (recsL l n) := by
  intro d
  induction d with
  | zero =>
    intro i h hi
    obtain rfl : i = n := by omega
    refine Ev.step (fun k => by unfold loesslaw10_Recs.l0; rfl) ?_
    by_cases c : (i : Int) < (l.length : Int)
    · exact Ev.congr (fun k => if_pos c) (Ev.congr (fun k => if_neg (by omega)) (Ev.now _))
    · exact Ev.congr (fun k => if_neg c) (Ev.now _)
  | succ d ih =>
    intro i h hi
    refine Ev.step (fun k => by unfold loesslaw10_Recs.l0; rfl) ?_
    by_cases c : i < l.length
    · have hrec := ih (i + 1) (by omega) (by omega)
      rw [List.take_succ_eq_append_getElem c, List.map_append, ← rr_get c] at hrec
      have hlen : ((l.take i).map cutR).length = i := by rw [List.length_map, List.length_take]; omega
      refine Ev.congr (fun k => if_pos (by omega)) (Ev.congr (fun k => if_pos (by omega)) (Ev.congr (fun k => if_pos (by omega)) ?_))
      refine Ev.bind (evC (cutR_eq (rr l i))) (Ev.congr (fun k => if_pos (by omega)) ?_)
      rw [w64 (x := (i : Int) + 1) (by omega) (by omega)]
      exact hrec
    · refine Ev.congr (fun k => if_neg (by omega)) (evEq (Ev.now _) ?_)
      unfold recsL
      rw [List.take_of_length_le (by omega), List.take_of_length_le (by omega)]
theorem recs_ev (l : List Rc) (n : Nat) (hn : n ≤ 100) : Ev (fun k => loesslaw10_Recs.f k l (n : Int)) (recsL l n) := by
  have := recs_l l n hn n 0 (by omega) (Nat.zero_le _)
  exact this
theorem recsL_len (l : List Rc) (n : Nat) : (recsL l n).length ≤ n := by unfold recsL; rw [List.length_map, List.length_take]; omega
theorem recsL_sm {l : List Rc} (h : ∀ x ∈ l, I64 x.f2.f0 ∧ I64 x.f2.f1) (n : Nat) : ∀ x ∈ recsL l n, SmR x := by
  intro x hx
  obtain ⟨y, hy, rfl⟩ := List.mem_map.1 hx
  have := h y (List.mem_of_mem_take hy)
  exact ⟨cutS_size 20 _, cutS_size 30 _, this.1, this.2⟩
theorem vld_x : vld (⟨#[120]⟩ : ByteArray) = true := by
  unfold vld D
  have h : dec [120] = (120, 1, true) := by rfl
  rw [show bytesOf (⟨#[120]⟩ : ByteArray) = [120] from rfl, ds_cons (by decide), h]
  show (((120, 1, true) : Rn) :: ds []).all (·.2.2) = true
  rw [ds_nil]
  rfl
def R1 : Rc := ⟨(⟨#[98]⟩ : ByteArray), true, ⟨0, 0, (⟨#[]⟩ : ByteArray)⟩⟩
def R2 : Rc := ⟨(⟨#[97]⟩ : ByteArray), false, ⟨2, 0, (⟨#[120]⟩ : ByteArray)⟩⟩
theorem may_R1 : mayR R1 = true := by rfl
theorem may_R2 : mayR R2 = true := by
  have h : mayV 2 0 (⟨#[120]⟩ : ByteArray) = true := decide_eq_true (.inr ⟨rfl, rfl, by decide, vld_x⟩)
  show (keyB (⟨#[97]⟩ : ByteArray) && (if false = true then _ else mayV 2 0 (⟨#[120]⟩ : ByteArray))) = true
  rw [if_neg (by decide), h]
  rfl
theorem decB_nil : decB [] = ([], 8) := by
  have : getN [] = (0, 0, 2) := rfl
  unfold decB
  rw [this, if_neg (fun h => by cases h.1)]
theorem bat_begun : Ev (fun k => loesslaw16_begun.f k) true := by
  have z : I64 0 := by unfold I64; omega
  have z2 : I64 2 := by unfold I64; omega
  have hw : ∀ x ∈ [R1, R2], WkR x := by
    intro x hx
    rcases List.mem_cons.1 hx with rfl | hx
    · exact ⟨by decide, z, z⟩
    · rw [List.mem_singleton.1 hx]; exact ⟨by decide, z2, z⟩
  have hm : mayB [R1, R2] = true := (mayB_iff _).2 ⟨by decide, by
    intro x hx
    rcases List.mem_cons.1 hx with rfl | hx
    · exact may_R1
    · rw [List.mem_singleton.1 hx]; exact may_R2⟩
  have hm0 : mayB [] = true := rfl
  have hw0 : ∀ x ∈ ([] : List Rc), WkR x := by intro x hx; cases hx
  unfold loesslaw16_begun.f
  simp only [Option.bind_some]
  refine Ev.bind (encode_ev hw) ?_
  refine Ev.bind (evEq (decode_ev (encB_byt [R1, R2]) (show (encB [R1, R2]).length < 4611686018427387904 by have := encB_len hw; omega)) (decB_enc hm hw)) ?_
  refine Ev.bind (evEq (decode_ev Byt.nil (by decide)) decB_nil) ?_
  refine Ev.bind (evC (batch_May_eq hw)) (Ev.congr (fun k => if_pos hm) ?_)
  refine Ev.bind (evC (batch_May_eq hw0)) (Ev.congr (fun k => if_pos hm0) ?_)
  refine Ev.congr (fun k => if_pos rfl) (Ev.bind (evC (show batch_Eq.f [R1, R2] [R1, R2] = some true by unfold batch_Eq.f; rw [decide_eq_true rfl])) (Ev.congr (fun k => if_pos rfl) ?_))
  refine Ev.bind (evC (show batch_Eq.f [R1, R2] [] = some false by unfold batch_Eq.f; rw [decide_eq_false (by simp)])) (Ev.congr (fun k => if_neg (by decide)) ?_)
  refine Ev.congr (fun k => if_pos rfl) (Ev.bind (encode_ev hw0) (evC ?_))
  have h3 : encB [] = [0] := by
    rw [encB_of hm0]
    unfold encF
    rw [show (([] : List Rc).length : Int) = 0 from rfl, putN_small (by decide) (by decide)]
    rfl
  rw [h3]
  rfl
theorem bat_then {g : Nat → Option Bool} {r : Bool} (h : Ev g r) : Ev (fun k => (loesslaw16_begun.f k).bind fun t => if t = true then g k else none) r :=
  Ev.bind bat_begun (Ev.congr (fun k => by rw [if_pos rfl]) h)
end Go.Proofs.Ytbogcnfmdakdmaa.Q

/- Rows of structs and struct parameters, opened: what an argument's datum says of its cells, kind by kind. -/
set_option linter.unusedVariables false
set_option linter.unusedSimpArgs false
namespace Go.Proofs.Ytbogcnfmdakdmaa.O
open Go.RowKit Go.ChangeShapes Go.WideShapes Go.Deep Go.Proofs.YtbogcnfmdakdmaaW.PrintWords Go.Proofs.YtbogcnfmdakdmaaW.PrintMore
section
variable {H : Type} {enc : TypeId × Value → H} {P : Program}
/-- What the cells of a type's value are: a value of the kind d, of which ok holds. -/
def El (enc : TypeId × Value → H) (P : Program) (e : TypeId) {α : Type} (d : Kd α) (ok : α → Prop) : Prop :=
  ∀ (w : World) (base : Nat) (spare : Nat → Bool) (held : Bool) (n : Nat) (cs : List Value) (x : DataW H × List MemPlace), DataW.trod enc P w base spare held n e cs = some x → ∃ a, d.K w a cs ∧ ok a
theorem el_int {k : IntKind} {e : TypeId} (he : P.underlying e = some (.int k)) : El enc P e (Kd.int k) (fun n => (Lit.int k n).wf = true) := by
  intro w base spare held n cs x h
  obtain ⟨m, h1, h2, h3⟩ := DataW.trod_int he h
  exact ⟨m, h1, h3⟩
theorem el_bool {e : TypeId} (he : P.underlying e = some .bool) : El enc P e Kd.bool (fun _ => True) := by
  intro w base spare held n cs x h
  obtain ⟨m, h1, h2⟩ := DataW.trod_bool he h
  exact ⟨m, h1, trivial⟩
theorem el_string {e : TypeId} (he : P.underlying e = some .string) : El enc P e Kd.string (fun s => s.size ≤ 9223372036854775807) := by
  intro w base spare held n cs x h
  obtain ⟨m, h1, h2, h3⟩ := DataW.trod_string he h
  exact ⟨m, h1, h3⟩
theorem el_struct2 {e : TypeId} {f0 f1 : Field} {α β : Type} {a : Kd α} {b : Kd β} {oka : α → Prop} {okb : β → Prop} (he : P.underlying e = some (.struct #[f0, f1])) (hc : P.cellsOf e = a.sz + b.sz) (o0 : f0.offset = 0) (o1 : f1.offset = a.sz) (c0 : P.cellsOf f0.type = a.sz) (c1 : P.cellsOf f1.type = b.sz)
    (h0 : El enc P f0.type a oka) (h1 : El enc P f1.type b okb) : El enc P e (Kd.pair a b) (fun x => oka x.1 ∧ okb x.2) := by
  intro w base spare held n cs x h
  obtain ⟨y0, y1, m, hx, hl, g0, g1⟩ := trod_struct2 he h
  obtain ⟨x0, k0, q0⟩ := h0 _ _ _ _ _ _ _ g0
  obtain ⟨x1, k1, q1⟩ := h1 _ _ _ _ _ _ _ g1
  refine ⟨(x0, x1), ⟨_, _, ?_, k0, k1⟩, q0, q1⟩
  rw [o0, o1, c0, c1, List.drop_zero]
  rw [List.take_of_length_le (l := cs.drop a.sz) (by rw [List.length_drop]; omega), List.take_append_drop]
theorem el_struct3 {e : TypeId} {f0 f1 f2 : Field} {α β γ : Type} {a : Kd α} {b : Kd β} {c : Kd γ} {oka : α → Prop} {okb : β → Prop} {okc : γ → Prop} (he : P.underlying e = some (.struct #[f0, f1, f2])) (hc : P.cellsOf e = a.sz + (b.sz + c.sz))
    (o0 : f0.offset = 0) (o1 : f1.offset = a.sz) (o2 : f2.offset = a.sz + b.sz) (c0 : P.cellsOf f0.type = a.sz) (c1 : P.cellsOf f1.type = b.sz) (c2 : P.cellsOf f2.type = c.sz)
    (h0 : El enc P f0.type a oka) (h1 : El enc P f1.type b okb) (h2 : El enc P f2.type c okc) : El enc P e (Kd.pair a (Kd.pair b c)) (fun x => oka x.1 ∧ okb x.2.1 ∧ okc x.2.2) := by
  intro w base spare held n cs x h
  obtain ⟨y0, y1, y2, m, hx, hl, g0, g1, g2⟩ := trod_struct3 he h
  obtain ⟨x0, k0, q0⟩ := h0 _ _ _ _ _ _ _ g0
  obtain ⟨x1, k1, q1⟩ := h1 _ _ _ _ _ _ _ g1
  obtain ⟨x2, k2, q2⟩ := h2 _ _ _ _ _ _ _ g2
  refine ⟨(x0, x1, x2), ⟨_, _, ?_, k0, _, _, rfl, k1, k2⟩, q0, q1, q2⟩
  rw [o0, o1, o2, c0, c1, c2, List.drop_zero, ← List.drop_drop]
  rw [List.take_of_length_le (l := (cs.drop a.sz).drop b.sz) (by rw [List.length_drop, List.length_drop]; omega), List.take_append_drop, List.take_append_drop]
theorem el_iso {e : TypeId} {α β : Type} {d : Kd α} {ok : α → Prop} (f : β → α) (g : α → β) (hfg : ∀ x, f (g x) = x) (h : El enc P e d ok) : El enc P e (Kd.iso d f) (fun x => ok (f x)) := by
  intro w base spare held n cs x hx
  obtain ⟨a, h1, h2⟩ := h _ _ _ _ _ _ _ hx
  refine ⟨g a, ?_, ?_⟩
  · show d.K w (f (g a)) cs
    rw [hfg]; exact h1
  · show ok (f (g a))
    rw [hfg]; exact h2
def IsRows {α : Type} (d : Kd α) (ok : α → Prop) (w : World) (A : Option Addr) (len cap : Nat) (xs : List α) : Prop :=
  xs.length = len ∧ len ≤ cap ∧ cap ≤ 9223372036854775807 ∧ d.C w A len xs ∧ ∀ a ∈ xs, ok a
/-- A slice that came in, as a row of its element's kind. -/
theorem open_rows {t e : TypeId} {α : Type} [Inhabited α] {d : Kd α} {ok : α → Prop} {w : World} {base : Nat} {spare : Nat → Bool} {held : Bool} {fuel : Nat} {A : Option Addr} {len cap : Nat} {x : DataW H × List MemPlace} (ht : P.underlying t = some (.slice e)) (hc : P.cellsOf e = d.sz)
    (hE : El enc P e d ok) (h : DataW.trod enc P w base spare held fuel t (Value.slice A len cap).cells.toList = some x) :
    ∃ xs : List α, IsRows d ok w A len cap xs := by
  have hcs : (Value.slice A len cap).cells.toList = [.slice A len cap] := rfl
  rw [hcs] at h
  rcases open_slice ht h with ⟨h1, _⟩ | ⟨a, l, c, m, n, D, Pl, h1, hb, hl, hm, hmm, _, hx⟩
  · simp at h1
    obtain ⟨rfl, rfl, rfl⟩ := h1
    exact ⟨[], rfl, by omega, by omega, Kd.C_nil d w, by simp⟩
  · simp at h1
    obtain ⟨rfl, rfl, rfl⟩ := h1
    have hlm : len ≤ m := by rw [hmm]; split <;> omega
    have each : ∀ i, i < len → ∃ y : α, (∃ cs', w.cells? base (a.add (i * P.cellsOf e)) (P.cellsOf e) = some cs' ∧ d.K w y cs') ∧ ok y := fun i hi => by
      obtain ⟨cs', h2, h3⟩ := hx i (by omega)
      obtain ⟨y, h4, h5⟩ := hE _ _ _ _ _ _ _ h3
      exact ⟨y, ⟨cs', h2, h4⟩, h5⟩
    obtain ⟨f, hf⟩ := choose_lt each
    have hmax : maxLen = 9223372036854775807 := rfl
    refine ⟨(List.range len).map f, by simp, hl, by omega, ⟨by simp, by omega, fun _ => ⟨a, rfl, fun j p hj => ?_⟩⟩, fun y hy => ?_⟩
    · obtain ⟨h6, h7⟩ := List.getElem?_eq_some_iff.1 hj
      simp at h6 h7
      subst h7
      obtain ⟨cs', h2, h4⟩ := (hf j h6).1
      obtain ⟨_, hlen, hcell⟩ := World.cells?_some h2
      refine ⟨cs', by rw [hlen, hc], h4, fun i u hu => ?_⟩
      have hi : i < P.cellsOf e := by rw [← hlen]; exact (List.getElem?_eq_some_iff.1 hu).1
      have h8 := hcell i hi
      rw [hu] at h8
      rw [← h8, ← hc]
      congr 1
      exact (Go.Deep.add_add _ _ _).symm
    · simp at hy
      obtain ⟨i, hi, rfl⟩ := hy
      exact (hf i hi).2
end
end Go.Proofs.Ytbogcnfmdakdmaa.O

/- api.Rec that came in, in rows. -/
set_option linter.unusedVariables false
set_option linter.unusedSimpArgs false
namespace Go.Proofs.Ytbogcnfmdakdmaa.O
open Go.RowKit Go.ChangeShapes Go.WideShapes Go.Deep Go.Proofs.YtbogcnfmdakdmaaW.PrintWords Go.Proofs.YtbogcnfmdakdmaaW.PrintMore Go.Proofs.Ytbogcnfmdakdmaa.XBat
instance : Inhabited S38 := ⟨⟨ByteArray.empty, false, ⟨0, 0, ByteArray.empty⟩⟩⟩
def ok36 (x : S36) : Prop := (Lit.int .i64 x.f0).wf = true ∧ (Lit.int .i64 x.f1).wf = true ∧ x.f2.size ≤ 9223372036854775807
theorem el36 {H : Type} {enc : TypeId × Value → H} : El enc Try.prog 36 k36 ok36 :=
  el_iso (fun x : S36 => (x.f0, x.f1, x.f2)) (fun p => ⟨p.1, p.2.1, p.2.2⟩) (fun _ => rfl)
    (el_struct3 Try.underlying36 (by kernel_rfl) rfl rfl rfl (by kernel_rfl) (by kernel_rfl) (by kernel_rfl) (el_int Try.underlying3) (el_int Try.underlying2) (el_string Try.underlying9))
def ok38 (x : S38) : Prop := x.f0.size ≤ 9223372036854775807 ∧ True ∧ ok36 x.f2
theorem el38 {H : Type} {enc : TypeId × Value → H} : El enc Try.prog 38 k38 ok38 :=
  el_iso (fun x : S38 => (x.f0, x.f1, x.f2)) (fun p => ⟨p.1, p.2.1, p.2.2⟩) (fun _ => rfl)
    (el_struct3 Try.underlying38 (by kernel_rfl) rfl rfl rfl (by kernel_rfl) (by kernel_rfl) (by kernel_rfl) (el_string Try.underlying9) (el_bool Try.underlying4) el36)
end Go.Proofs.Ytbogcnfmdakdmaa.O

/- api.Rec that came in by value. -/
set_option linter.unusedVariables false
namespace Go.Proofs.Ytbogcnfmdakdmaa.O
open Go.RowKit Go.ChangeShapes Go.WideShapes Go.Deep Go.Proofs.YtbogcnfmdakdmaaW.PrintWords Go.Proofs.YtbogcnfmdakdmaaW.PrintMore Go.Proofs.Ytbogcnfmdakdmaa.XBat
def v38 (x : S38) : Value := .agg #[.string x.f0, .bool x.f1, .int .i64 x.f2.f0, .int .i64 x.f2.f1, .string x.f2.f2]
theorem st38 {H : Type} {enc : TypeId × Value → H} {w : World} {base : Nat} {spare : Nat → Bool} {held : Bool} {r : Reach} {b0 : Nat} {v : Value} {d : DataW H} {p : List MemPlace} (hv : Value.okWide Try.prog w r b0 38 v) (h : DataW.Trod enc Try.prog w base spare held 38 v d p) : ∃ x, v = v38 x ∧ ok38 x := by
  obtain ⟨cs, rfl, hs⟩ := okWide_struct Try.underlying38 hv
  obtain ⟨n, hn⟩ := h
  obtain ⟨a, ha, ho⟩ := el38 _ _ _ _ _ _ _ hn
  refine ⟨a, ?_, ho⟩
  have e2 : cs.toList = [.string a.f0, .bool a.f1, .int .i64 a.f2.f0, .int .i64 a.f2.f1, .string a.f2.f2] := k38_open ha
  unfold v38
  rw [← Array.toList_inj.1 (show cs.toList = (#[.string a.f0, .bool a.f1, .int .i64 a.f2.f0, .int .i64 a.f2.f1, .string a.f2.f2] : Array Value).toList from e2)]
end Go.Proofs.Ytbogcnfmdakdmaa.O

/- The law BatchOne, walked by hand. -/
namespace Go.Proofs.Ytbogcnfmdakdmaa.GL
open Go.RowKit Go.Proofs.YtbogcnfmdakdmaaW.PrintWords Go.Proofs.YtbogcnfmdakdmaaW.PrintLast Go.Proofs.YtbogcnfmdakdmaaW.PrintMore Go.Proofs.Ytbogcnfmdakdmaa.Q Go.Proofs.Ytbogcnfmdakdmaa.XBat Go.Proofs.Ytbogcnfmdakdmaa.G
set_option linter.unusedVariables false
set_option linter.unusedSimpArgs false
theorem cells5 {W : World} {gb : Nat} {y : Rc} (h : W.heap[gb]? = some (.cells #[.string y.f0, .bool y.f1, .int .i64 y.f2.f0, .int .i64 y.f2.f1, .string y.f2.f2] 38 (0, 0))) : W.cell? ⟨gb, 0, none⟩ = some (.string y.f0) ∧ W.cell? ⟨gb, 1, none⟩ = some (.bool y.f1) ∧ W.cell? ⟨gb, 2, none⟩ = some (.int .i64 y.f2.f0) ∧ W.cell? ⟨gb, 3, none⟩ = some (.int .i64 y.f2.f1) ∧ W.cell? ⟨gb, 4, none⟩ = some (.string y.f2.f2) :=
  ⟨(blk_cell h 0).trans rfl, (blk_cell h 1).trans rfl, (blk_cell h 2).trans rfl, (blk_cell h 3).trans rfl, (blk_cell h 4).trans rfl⟩
theorem blk_C {W : World} {g : Nat} {y : Rc} (h : W.heap[g]? = some (.cells #[.string y.f0, .bool y.f1, .int .i64 y.f2.f0, .int .i64 y.f2.f1, .string y.f2.f2] 38 (0, 0))) : Kd.C k38 W (some ⟨g, 0, none⟩) 1 [y] := by
  refine ⟨rfl, by omega, fun _ => ⟨_, rfl, fun j p hj => ?_⟩⟩
  rcases j with _ | j
  · obtain rfl : y = p := by simpa using hj
    refine ⟨_, rfl, k38_mk _ y, fun i u hu => ?_⟩
    simp only [Nat.zero_mul, Nat.zero_add, add_plain]
    exact (blk_cell h i).trans (by rw [← hu]; simp)
  · simp at hj
theorem app1_ {ops : Array Oper} {o : Oper} {a : Act} {Q : Exit → Act → World → Prop} {Kc : Act → World → Prop} {w0 W : World} (hw : Region.wanted o (yielded ops a.tmps) = true) (s x : Operand)
    (ho : o.op = .call { callee := .builtin .append, args := #[s, x], argTypes := #[22, 22] }) (v : Value) (xs ys : List Rc) (A : Option Addr) (m c : Nat) (hs : a.eval s = v) (hx : a.eval x = .slice A m c)
    (HO : Kd.R k38 38 W w0.heap.size (fun _ => True) v xs) (HR : Kd.C k38 W A m ys) (HB : Below w0.heap.size w0 W) (hl : xs.length + m ≤ 1000000)
    (h : ∀ v1 w1, Kd.R k38 38 w1 w0.heap.size (fun _ => True) v1 (xs ++ ys) → Below w0.heap.size w0 w1 → W.grownBy w1 v.ownBlock → Kc (a.put o.dst v1) w1) :
    if Region.wanted o (yielded ops a.tmps) = true then Oper.wp Try.prog o a W Kc Q else Kc (a.put o.dst undef) W :=
  Kd.R_append_rows_step k38 (w0 := w0) w0.heap.size hw s x 22 38 (.agg #[(.string ⟨#[]⟩), (.bool false), (.int .i64 0), (.int .i64 0), (.string ⟨#[]⟩)]) 56 ho Try.underlying22 info38 (by rfl) (by decide) (by omega) v xs ys A m c (fun _ => True) (fun _ => False) hs hx HO HR (fun _ _ h => h) (fun _ h => h.elim) (fun _ _ => trivial) HB HB.size (by omega) (fun v1 w1 h1 h2 h3 _ => h v1 w1 h1 h2 h3)
theorem one_wk {L M : List Rc} {y : Rc} {p : Nat} (hL : ∀ z ∈ L, WkR z) (hy : WkR y) (hM : M = [] ++ L.take p ++ [y] ++ L.drop p) : ∀ z ∈ M, WkR z := by
  intro z hz
  rw [hM, List.nil_append, List.mem_append, List.mem_append] at hz
  rcases hz with (hz | hz) | hz
  · exact hL z (List.mem_of_mem_take hz)
  · rw [List.mem_singleton.1 hz]; exact hy
  · exact hL z (List.mem_of_mem_drop hz)
theorem one_may {L M : List Rc} {y : Rc} {p : Nat} (hL : mayB L = true) (hl : L.length ≤ 15) (hM : M = [] ++ L.take p ++ [y] ++ L.drop p) : mayB M = mayR y := by
  obtain ⟨_, h2⟩ := (mayB_iff L).1 hL
  have h3 : (L.take p).all mayR = true := List.all_eq_true.2 fun z hz => h2 z (List.mem_of_mem_take hz)
  have h4 : (L.drop p).all mayR = true := List.all_eq_true.2 fun z hz => h2 z (List.mem_of_mem_drop hz)
  unfold mayB
  rw [hM, decide_eq_true (by simp only [List.nil_append, List.length_append, List.length_singleton, List.length_take, List.length_drop]; omega), List.nil_append, List.all_append, List.all_append, h3, h4]
  simp
theorem enc_pos (M : List Rc) : decide (0 < (encB M).length) = mayB M := by
  unfold encB
  by_cases h : mayB M = true
  · rw [if_pos h, h]
    have := putN_pos (M.length : Int)
    exact decide_eq_true (by unfold encF; rw [List.length_append]; omega)
  · rw [if_neg h, Bool.eq_false_iff.2 h]
    rfl
theorem put5 {w W W5 : World} {gb : Nat} {v : Value} {L : List Rc} {base : Nat} {x y : Rc} (hB : Below w.heap.size w W) (hG : w.heap.size ≤ gb) (hK : W.heap[gb]? = some (.cells #[.string x.f0, .bool x.f1, .int .i64 x.f2.f0, .int .i64 x.f2.f1, .string x.f2.f2] 38 (0, 0))) (hR : Kd.R k38 38 W base (fun k => k ≠ gb) v L)
    (hw : W5 = (((((W.setCell ⟨gb, 0, none⟩ (.string y.f0)).setCell ⟨gb, 1, none⟩ (.bool y.f1)).setCell ⟨gb, 2, none⟩ (.int .i64 y.f2.f0)).setCell ⟨gb, 3, none⟩ (.int .i64 y.f2.f1)).setCell ⟨gb, 4, none⟩ (.string y.f2.f2))) :
    Below w.heap.size w W5 ∧ W5.heap[gb]? = some (.cells #[.string y.f0, .bool y.f1, .int .i64 y.f2.f0, .int .i64 y.f2.f1, .string y.f2.f2] 38 (0, 0)) ∧ Kd.R k38 38 W5 base (fun k => k ≠ gb) v L := by
  subst hw
  refine ⟨below_set (below_set (below_set (below_set (below_set hB hG) hG) hG) hG) hG, ?_, Kd.R_far (Kd.R_far (Kd.R_far (Kd.R_far (Kd.R_far hR (fun _ h => h) _) (fun _ h => h) _) (fun _ h => h) _) (fun _ h => h) _) (fun _ h => h) _⟩
  exact blk_put (blk_put (blk_put (blk_put (blk_put hK 0 _ rfl) 1 _ rfl) 2 _ rfl) 3 _ rfl) 4 _ rfl
set_option maxRecDepth 1000000 in
set_option maxHeartbeats 8000000 in
theorem BatchOne.in (A0 : Option Addr) (c0 : Nat) (l : List Rc) (x : Rc) (at_ : Int) (w : World) (hC0 : Kd.C k38 w A0 l.length l) (hlc : l.length ≤ c0) (hl : ∀ y ∈ l, I64 y.f2.f0 ∧ I64 y.f2.f1) (hx : I64 x.f2.f0 ∧ I64 x.f2.f1) (hat : I64 at_) :
    Calls Try.prog 6 #[.slice A0 l.length c0, .agg #[.string x.f0, .bool x.f1, .int .i64 x.f2.f0, .int .i64 x.f2.f1, .string x.f2.f2], .int .i64 at_] w fun e w' => e = .returned (.bool true) ∧ Below w.heap.size w w' := by
  have HB := Aside0.mk (Below.refl w.heap.size w)
  have HC := Aside0.mk hC0
  have HLC := Aside0.mk hlc
  have HLW := Aside0.mk (recsL_sm hl 15)
  have HLL := Aside0.mk (recsL_len l 15)
  have HCX := Aside0.mk (cutR_eq x)
  have HSX : Aside0 (SmR (cutR x)) := ⟨⟨cutS_size 20 _, cutS_size 30 _, hx.1, hx.2⟩⟩
  obtain ⟨k1, hk1⟩ := Ev.rounds bat_begun
  obtain ⟨k2, hk2⟩ := Ev.rounds (recs_ev l 15 (by decide))
  have HK1 := Aside0.mk hk1
  have HK2 := Aside0.mk (show loesslaw10_Recs.f k2 l 15 = some (recsL l 15) from hk2)
  have HI := Aside0.mk hat
  obtain ⟨L, hL⟩ : ∃ L, L = recsL l 15 := ⟨_, rfl⟩
  obtain ⟨y, hy⟩ : ∃ y, y = cutR x := ⟨_, rfl⟩
  rw [← hL] at HLW HLL HK2
  rw [← hy] at HCX HSX
  have hu := Try.underlying38
  clear hk1 hk2 hL hy hC0 hlc hl hx hat
  go_enter Try.func6, Try.ntmps6
  go_wp2_with (first
    | ((with_reducible refine gate_dst (N := 4) rfl ?_); refine box_event ?hg (N := 4) ?hd (cs := #[.string x.f0, .bool x.f1, .int .i64 x.f2.f0, .int .i64 x.f2.f1, .string x.f2.f2]) (t := 38) ?hr ?_; (case hd => rfl); (case hg => rfl); (case hr => first | (go_simp; done) | (go_simp; rfl)); intro gb hg w1 hbox hb; have GB := Aside0.mk (show w.heap.size ≤ gb by omega); have n0_ := Aside0.mk (hb : Below w.heap.size w w1); have BK := Aside0.mk hbox; clear HB; have HB := n0_; clear n0_; clear hbox hg hb; have hc0 : w1.cell? ⟨gb, 0, none⟩ = some (.string x.f0) := (blk_cell BK.out 0).trans rfl; have hc1 : w1.cell? ⟨gb, 1, none⟩ = some (.bool x.f1) := (blk_cell BK.out 1).trans rfl; have hc2 : w1.cell? ⟨gb, 2, none⟩ = some (.int .i64 x.f2.f0) := (blk_cell BK.out 2).trans rfl; have hc3 : w1.cell? ⟨gb, 3, none⟩ = some (.int .i64 x.f2.f1) := (blk_cell BK.out 3).trans rfl; have hc4 : w1.cell? ⟨gb, 4, none⟩ = some (.string x.f2.f2) := (blk_cell BK.out 4).trans rfl; have hf0 := blk_frozen BK.out 0; have hf1 := blk_frozen BK.out 1; have hf2 := blk_frozen BK.out 2; have hf3 := blk_frozen BK.out 3; have hf4 := blk_frozen BK.out 4)
    | (go_at_call 7; (with_reducible refine (loesslaw16_begun.calls k1 true _ HK1.out).mono ?_); rintro e w2 ⟨rfl, hb⟩; have n1_ := Aside0.mk (below_step (by first | exact HB.out | exact HB.out.drew) hb); have n2_ := Aside0.mk (blk_below (by first | exact BK.out | exact BK.out) hb); clear HB BK hb; have HB := n1_; have BK := n2_; clear n1_ n2_; clear hc0 hc1 hc2 hc3 hc4 hf0 hf1 hf2 hf3 hf4; have hc0 : w2.cell? ⟨gb, 0, none⟩ = some (.string x.f0) := (blk_cell BK.out 0).trans rfl; have hc1 : w2.cell? ⟨gb, 1, none⟩ = some (.bool x.f1) := (blk_cell BK.out 1).trans rfl; have hc2 : w2.cell? ⟨gb, 2, none⟩ = some (.int .i64 x.f2.f0) := (blk_cell BK.out 2).trans rfl; have hc3 : w2.cell? ⟨gb, 3, none⟩ = some (.int .i64 x.f2.f1) := (blk_cell BK.out 3).trans rfl; have hc4 : w2.cell? ⟨gb, 4, none⟩ = some (.string x.f2.f2) := (blk_cell BK.out 4).trans rfl; have hf0 := blk_frozen BK.out 0; have hf1 := blk_frozen BK.out 1; have hf2 := blk_frozen BK.out 2; have hf3 := blk_frozen BK.out 3; have hf4 := blk_frozen BK.out 4))
  go_region_with (first
    | (go_at_call 8; (with_reducible refine (loesslaw10_Recs.calls k2 A0 c0 l 15 L _ (Kd.C_below HC.out (by first | exact HB.out | exact HB.out.drew)) HLC.out HK2.out).mono ?_); rintro e w3 ⟨v3, rfl, hR, hb⟩; have HR := Aside0.mk (Kd.R_mono (Kd.R_bound hR) (fun k hk => (show k ≠ gb by have h1 := blk_lt BK.out; have h2 : w2.heap.size ≤ k := hk.2.1; omega))); clear hR; have n1_ := Aside0.mk (below_step (by first | exact HB.out | exact HB.out.drew) hb); have n2_ := Aside0.mk (blk_below (by first | exact BK.out | exact BK.out) hb); clear HB BK hb; have HB := n1_; have BK := n2_; clear n1_ n2_; clear hc0 hc1 hc2 hc3 hc4 hf0 hf1 hf2 hf3 hf4; have hc0 : w3.cell? ⟨gb, 0, none⟩ = some (.string x.f0) := (blk_cell BK.out 0).trans rfl; have hc1 : w3.cell? ⟨gb, 1, none⟩ = some (.bool x.f1) := (blk_cell BK.out 1).trans rfl; have hc2 : w3.cell? ⟨gb, 2, none⟩ = some (.int .i64 x.f2.f0) := (blk_cell BK.out 2).trans rfl; have hc3 : w3.cell? ⟨gb, 3, none⟩ = some (.int .i64 x.f2.f1) := (blk_cell BK.out 3).trans rfl; have hc4 : w3.cell? ⟨gb, 4, none⟩ = some (.string x.f2.f2) := (blk_cell BK.out 4).trans rfl; have hf0 := blk_frozen BK.out 0; have hf1 := blk_frozen BK.out 1; have hf2 := blk_frozen BK.out 2; have hf3 := blk_frozen BK.out 3; have hf4 := blk_frozen BK.out 4)
    | (go_at_call 18; (with_reducible refine (loesslaw10_Cut.calls x.f0 x.f1 x.f2.f0 x.f2.f1 x.f2.f2 y.f0 y.f1 y.f2.f0 y.f2.f1 y.f2.f2 _ HCX.out).mono ?_); rintro e w4 ⟨rfl, hb⟩; have HR2 := Aside0.mk (Kd.R_below HR.out hb); clear HR; have HR := HR2; clear HR2; have n1_ := Aside0.mk (below_step (by first | exact HB.out | exact HB.out.drew) hb); have n2_ := Aside0.mk (blk_below (by first | exact BK.out | exact BK.out) hb); clear HB BK hb; have HB := n1_; have BK := n2_; clear n1_ n2_; clear hc0 hc1 hc2 hc3 hc4 hf0 hf1 hf2 hf3 hf4; have hc0 : w4.cell? ⟨gb, 0, none⟩ = some (.string x.f0) := (blk_cell BK.out 0).trans rfl; have hc1 : w4.cell? ⟨gb, 1, none⟩ = some (.bool x.f1) := (blk_cell BK.out 1).trans rfl; have hc2 : w4.cell? ⟨gb, 2, none⟩ = some (.int .i64 x.f2.f0) := (blk_cell BK.out 2).trans rfl; have hc3 : w4.cell? ⟨gb, 3, none⟩ = some (.int .i64 x.f2.f1) := (blk_cell BK.out 3).trans rfl; have hc4 : w4.cell? ⟨gb, 4, none⟩ = some (.string x.f2.f2) := (blk_cell BK.out 4).trans rfl; have hf0 := blk_frozen BK.out 0; have hf1 := blk_frozen BK.out 1; have hf2 := blk_frozen BK.out 2; have hf3 := blk_frozen BK.out 3; have hf4 := blk_frozen BK.out 4))
  all_goals
    obtain ⟨w5, hw5⟩ : ∃ w5, w5 = (((((w4.setCell ⟨gb, 0, none⟩ (.string y.f0)).setCell ⟨gb, 1, none⟩ (.bool y.f1)).setCell ⟨gb, 2, none⟩ (.int .i64 y.f2.f0)).setCell ⟨gb, 3, none⟩ (.int .i64 y.f2.f1)).setCell ⟨gb, 4, none⟩ (.string y.f2.f2)) := ⟨_, rfl⟩
    rw [← hw5]
    obtain ⟨hb5, hk5, hr5⟩ := put5 HB.out GB.out BK.out HR.out hw5
    clear HB BK HR hw5 hc0 hc1 hc2 hc3 hc4 hf0 hf1 hf2 hf3 hf4
    obtain ⟨A, c, rfl, hnc, hC⟩ := Kd.R_reads hr5
    have HB := Aside0.mk hb5
    have BK := Aside0.mk hk5
    have HCL := Aside0.mk hC
    have HNC := Aside0.mk hnc
    have hc0 : w5.cell? ⟨gb, 0, none⟩ = some (.string y.f0) := (blk_cell BK.out 0).trans rfl; have hc1 : w5.cell? ⟨gb, 1, none⟩ = some (.bool y.f1) := (blk_cell BK.out 1).trans rfl; have hc2 : w5.cell? ⟨gb, 2, none⟩ = some (.int .i64 y.f2.f0) := (blk_cell BK.out 2).trans rfl; have hc3 : w5.cell? ⟨gb, 3, none⟩ = some (.int .i64 y.f2.f1) := (blk_cell BK.out 3).trans rfl; have hc4 : w5.cell? ⟨gb, 4, none⟩ = some (.string y.f2.f2) := (blk_cell BK.out 4).trans rfl; have hf0 := blk_frozen BK.out 0; have hf1 := blk_frozen BK.out 1; have hf2 := blk_frozen BK.out 2; have hf3 := blk_frozen BK.out 3; have hf4 := blk_frozen BK.out 4
    clear hb5 hk5 hr5 hnc hC w1 w2 w3 w4
    have HWK := Aside0.mk (show ∀ z ∈ L, WkR z from fun z hz => (HLW.out z hz).wk)
    obtain ⟨k3, hk3⟩ := Ev.rounds (mayAll_ev (l := L) (by have := HLL.out; omega) HWK.out)
    have HK3 := Aside0.mk hk3
    clear hk3
    have hLz : (L.length : Int) ≤ 15 := by have := HLL.out; omega
    by_cases h1 : at_ < 0
    · have hd1 := decide_eq_true h1
      clear h1
      go_wp2
      go_ret
      exact ⟨rfl, HB.out⟩
    have hd1 := decide_eq_false h1
    by_cases h2 : (L.length : Int) < at_
    · have hd2 := decide_eq_true h2
      clear h1 h2
      go_wp2
      go_ret
      exact ⟨rfl, HB.out⟩
    have hd2 := decide_eq_false h2
    cases hm : mayB L with
    | false =>
      rw [hm] at HK3
      clear h1 h2 hm
      go_wp2_with (first | (go_at_call 11; (with_reducible refine (loessref10_MayAll.calls k3 A c L false _ HCL.out HNC.out HK3.out).mono ?_); rintro e w6 ⟨rfl, hb⟩; have m1_ := Aside0.mk (Kd.C_below HCL.out hb); clear HCL; have HCL := m1_; clear m1_; have n1_ := Aside0.mk (below_step (by first | exact HB.out | exact HB.out.drew) hb); have n2_ := Aside0.mk (blk_below (by first | exact BK.out | exact BK.out) hb); clear HB BK hb; have HB := n1_; have BK := n2_; clear n1_ n2_; clear hc0 hc1 hc2 hc3 hc4 hf0 hf1 hf2 hf3 hf4; have hc0 : w6.cell? ⟨gb, 0, none⟩ = some (.string y.f0) := (blk_cell BK.out 0).trans rfl; have hc1 : w6.cell? ⟨gb, 1, none⟩ = some (.bool y.f1) := (blk_cell BK.out 1).trans rfl; have hc2 : w6.cell? ⟨gb, 2, none⟩ = some (.int .i64 y.f2.f0) := (blk_cell BK.out 2).trans rfl; have hc3 : w6.cell? ⟨gb, 3, none⟩ = some (.int .i64 y.f2.f1) := (blk_cell BK.out 3).trans rfl; have hc4 : w6.cell? ⟨gb, 4, none⟩ = some (.string y.f2.f2) := (blk_cell BK.out 4).trans rfl; have hf0 := blk_frozen BK.out 0; have hf1 := blk_frozen BK.out 1; have hf2 := blk_frozen BK.out 2; have hf3 := blk_frozen BK.out 3; have hf4 := blk_frozen BK.out 4))
      go_ret
      exact ⟨rfl, HB.out⟩
    | true =>
      rw [hm] at HK3
      have HM := Aside0.mk hm
      obtain ⟨p, rfl⟩ := Int.eq_ofNat_of_zero_le (show 0 ≤ at_ by omega)
      have hpz : (p : Int) ≤ (L.length : Int) := by omega
      have HP := Aside0.mk (show p ≤ L.length by omega)
      clear h1 h2 hm
      go_wp2_with (first | (go_at_call 11; (with_reducible refine (loessref10_MayAll.calls k3 A c L true _ HCL.out HNC.out HK3.out).mono ?_); rintro e w6 ⟨rfl, hb⟩; have m1_ := Aside0.mk (Kd.C_below HCL.out hb); clear HCL; have HCL := m1_; clear m1_; have n1_ := Aside0.mk (below_step (by first | exact HB.out | exact HB.out.drew) hb); have n2_ := Aside0.mk (blk_below (by first | exact BK.out | exact BK.out) hb); clear HB BK hb; have HB := n1_; have BK := n2_; clear n1_ n2_; clear hc0 hc1 hc2 hc3 hc4 hf0 hf1 hf2 hf3 hf4; have hc0 : w6.cell? ⟨gb, 0, none⟩ = some (.string y.f0) := (blk_cell BK.out 0).trans rfl; have hc1 : w6.cell? ⟨gb, 1, none⟩ = some (.bool y.f1) := (blk_cell BK.out 1).trans rfl; have hc2 : w6.cell? ⟨gb, 2, none⟩ = some (.int .i64 y.f2.f0) := (blk_cell BK.out 2).trans rfl; have hc3 : w6.cell? ⟨gb, 3, none⟩ = some (.int .i64 y.f2.f1) := (blk_cell BK.out 3).trans rfl; have hc4 : w6.cell? ⟨gb, 4, none⟩ = some (.string y.f2.f2) := (blk_cell BK.out 4).trans rfl; have hf0 := blk_frozen BK.out 0; have hf1 := blk_frozen BK.out 1; have hf2 := blk_frozen BK.out 2; have hf3 := blk_frozen BK.out 3; have hf4 := blk_frozen BK.out 4))
      obtain ⟨i0, hi0, _, hsz0, _⟩ := info_parts info38
      have hr1 := cut_to (P := Try.prog) 22 38 .i64 Try.underlying22 hi0 A L.length c (p : Int) (by omega) hpz HNC.out
      have hr2 := cut_from (P := Try.prog) 22 38 .i64 Try.underlying22 hi0 5 hsz0 A L.length c (p : Int) (by omega) hpz
      rw [Int.toNat_natCast] at hr1 hr2
      have hC2 := Kd.C_drop (c := c) (m := p) HCL.out HP.out HNC.out
      obtain ⟨A2, hA2⟩ : ∃ A2, A2 = (if c = p then A else A.map (·.add (p * 5))) := ⟨_, rfl⟩
      replace hC2 : Kd.C k38 w6 A2 (L.length - p) (L.drop p) := by rw [hA2, ← List.length_drop]; exact hC2
      rw [← hA2] at hr2
      have hC1 := Kd.C_take (m := p) HCL.out HP.out
      rw [List.length_take, Nat.min_eq_left HP.out] at hC1
      have HC1 := Aside0.mk hC1
      have HC2 := Aside0.mk hC2
      obtain ⟨m2, hm2⟩ : ∃ m2, m2 = L.length - p := ⟨_, rfl⟩
      rw [← hm2] at HC2 hr2
      have HM2 := Aside0.mk hm2
      have HT1 := Aside0.mk (show (L.take p).length = p by rw [List.length_take, Nat.min_eq_left HP.out])
      have hpz0 : (0 : Int) ≤ (p : Int) := by omega
      obtain ⟨n, hn⟩ : ∃ n, n = L.length := ⟨_, rfl⟩
      have HLN := Aside0.mk hn
      have HB6 := Aside0.mk (Below.refl w6.heap.size w6)
      have HBK6 := Aside0.mk BK.out
      clear hA2 hC1 hC2 hi0 hsz0 hm2 hn
      go_region_held3 (fun w' => w'.cell? ⟨gb, 0, none⟩ = some (.string y.f0) ∧ w'.cell? ⟨gb, 1, none⟩ = some (.bool y.f1) ∧ w'.cell? ⟨gb, 2, none⟩ = some (.int .i64 y.f2.f0) ∧ w'.cell? ⟨gb, 3, none⟩ = some (.int .i64 y.f2.f1) ∧ w'.cell? ⟨gb, 4, none⟩ = some (.string y.f2.f2))
        (first | exact cells5 BK.out | exact cells5 (blk_below BK.out (below_alloc (Below.refl _ _) _)) | exact cells5 (blk_below BK.out (below_alloc (Below.drew (Below.refl _ _)) _)))
        (first
          | ((refine app1_ (w0 := w6) (by simp [Region.wanted]) (.const (.slice none 0 0)) (.tmp 32) (by rfl) (.slice none 0 0) [] (L.take p) A p c (by rfl) (by rfl) (Kd.R_nil _ _ _ _ _) HC1.out HB6.out.drew (by simp; omega) ?_); intro v7 w7 ho hb hg; have n2_ := Aside0.mk (blk_below HBK6.out hb); have n1_ := Aside0.mk hb; have HO := Aside0.mk ho; clear HB6 BK; have HB6 := n1_; have BK := n2_; clear n1_ n2_ ho hb hg)
          | ((refine app1_ (w0 := w6) (by simp [Region.wanted]) (.const (.slice none 0 0)) (.tmp 32) (by rfl) (.slice none 0 0) [] (L.take p) A p c (by rfl) (by rfl) (Kd.R_nil _ _ _ _ _) (Kd.C_alloc HC1.out _) (below_alloc HB6.out.drew _) (by simp; omega) ?_); intro v7 w7 ho hb hg; have n2_ := Aside0.mk (blk_below HBK6.out hb); have n1_ := Aside0.mk hb; have BL := Aside0.mk ((hg.block w6.heap.size (by simp) (show some w6.heap.size ≠ (Value.slice none 0 0).ownBlock by simp [Value.ownBlock])).trans (blk_new w6.drew _)); have HO := Aside0.mk ho; clear HB6 BK; have HB6 := n1_; have BK := n2_; clear n1_ n2_ ho hb hg)
          | ((refine app1_ (w0 := w6) (by simp [Region.wanted]) (.tmp 33) (.tmp 35) (by rfl) v7 ([] ++ L.take p) [y] (some ⟨w7.heap.size, 0, none⟩) 1 1 (by rfl) (by rfl) (Kd.R_alloc HO.out _) (blk_C (blk_new w7 _)) (below_alloc HB6.out _) (by rw [List.nil_append, HT1.out]; omega) ?_); intro v8 w8 ho hb hg; have n2_ := Aside0.mk (blk_below HBK6.out hb); have n1_ := Aside0.mk hb; clear HO; have HO := Aside0.mk ho; clear HB6 BK; have HB6 := n1_; have BK := n2_; clear n1_ n2_ ho hb hg)
          | ((refine app1_ (w0 := w6) (by simp [Region.wanted]) (.tmp 33) (.tmp 35) (by rfl) v7 ([] ++ L.take p) [y] (some ⟨w6.heap.size, 0, none⟩) 1 1 (by rfl) (by rfl) HO.out (blk_C BL.out) HB6.out (by rw [List.nil_append, HT1.out]; omega) ?_); intro v8 w8 ho hb hg; have n2_ := Aside0.mk (blk_below HBK6.out hb); have n1_ := Aside0.mk hb; clear HO; have HO := Aside0.mk ho; clear HB6 BK; have HB6 := n1_; have BK := n2_; clear n1_ n2_ ho hb hg)
          | ((refine app1_ (w0 := w6) (by simp [Region.wanted]) (.tmp 36) (.tmp 39) (by rfl) v8 (([] ++ L.take p) ++ [y]) (L.drop p) A2 m2 (c - p) (by rfl) (by rfl) HO.out (Kd.C_below HC2.out HB6.out) HB6.out (by rw [List.nil_append, List.length_append, HT1.out, List.length_singleton]; have := HM2.out; omega) ?_); intro v9 w9 ho hb hg; have n2_ := Aside0.mk (blk_below HBK6.out hb); have n1_ := Aside0.mk hb; clear HO; have HO := Aside0.mk ho; clear HB6 BK; have HB6 := n1_; have BK := n2_; clear n1_ n2_ ho hb hg))
      all_goals
        obtain ⟨M, hM⟩ : ∃ M, M = [] ++ L.take p ++ [y] ++ L.drop p := ⟨_, rfl⟩
        rw [← hM] at HO
        have HML := Aside0.mk (show M.length ≤ 16 by rw [hM]; simp only [List.nil_append, List.length_append, List.length_singleton, List.length_take, List.length_drop]; have := HLL.out; omega)
        have HMW := Aside0.mk (one_wk HWK.out HSX.out.wk hM)
        have HMM := Aside0.mk (one_may HM.out HLL.out hM)
        have HB9 := Aside0.mk (below_step HB.out HB6.out)
        obtain ⟨AM, cM, rfl, hnM, hCM⟩ := Kd.R_reads HO.out
        have HCM := Aside0.mk hCM
        have HNM := Aside0.mk hnM
        obtain ⟨k5, hk5⟩ := Ev.rounds (encode_ev HMW.out)
        obtain ⟨k6, hk6⟩ := Ev.rounds (ref_May_ev y HSX.out.wk.1)
        have HK5 := Aside0.mk hk5
        have HK6 := Aside0.mk hk6
        have HK7 := Aside0.mk (batch_May_eq HMW.out)
        rw [HMM.out] at HK7
        have HLB := Aside0.mk (enc_pos M)
        rw [HMM.out] at HLB
        obtain ⟨b, hb⟩ : ∃ b, b = mayR y := ⟨_, rfl⟩
        rw [← hb] at HK6 HK7 HLB
        obtain ⟨E, hE⟩ : ∃ E, E = encB M := ⟨_, rfl⟩
        rw [← hE] at HK5 HLB
        clear HB HO hM hCM hnM hk5 hk6 hb hE HMM HB6 HC HLC HK1 HK2 HLW HCX HWK HK3 HM hd1 hd2 hpz hr1 hr2 HC1 HC2 HM2 HT1 hpz0 HBK6 HCL HNC
        have HB := HB9
        clear HB9
        have hd := HLB.out
        clear HLB
        have hc0 : w9.cell? ⟨gb, 0, none⟩ = some (.string y.f0) := (blk_cell BK.out 0).trans rfl; have hc1 : w9.cell? ⟨gb, 1, none⟩ = some (.bool y.f1) := (blk_cell BK.out 1).trans rfl; have hc2 : w9.cell? ⟨gb, 2, none⟩ = some (.int .i64 y.f2.f0) := (blk_cell BK.out 2).trans rfl; have hc3 : w9.cell? ⟨gb, 3, none⟩ = some (.int .i64 y.f2.f1) := (blk_cell BK.out 3).trans rfl; have hc4 : w9.cell? ⟨gb, 4, none⟩ = some (.string y.f2.f2) := (blk_cell BK.out 4).trans rfl; have hf0 := blk_frozen BK.out 0; have hf1 := blk_frozen BK.out 1; have hf2 := blk_frozen BK.out 2; have hf3 := blk_frozen BK.out 3; have hf4 := blk_frozen BK.out 4
        cases b
        all_goals
          go_wp2_with (first | (go_at_call 9; (with_reducible refine (batch_Encode.calls k5 AM cM M E _ HCM.out HNM.out HK5.out).mono ?_); rintro e w10 ⟨v10, rfl, hR, hb⟩; obtain ⟨A10, c10, rfl, hn10, hC10⟩ := Kd.R_reads hR; have m1_ := Aside0.mk (Kd.C_below HCM.out hb); clear HCM hR hn10 hC10; have HCM := m1_; clear m1_; have n1_ := Aside0.mk (below_step (by first | exact HB.out | exact HB.out.drew) hb); have n2_ := Aside0.mk (blk_below (by first | exact BK.out | exact BK.out) hb); clear HB BK hb; have HB := n1_; have BK := n2_; clear n1_ n2_; clear hc0 hc1 hc2 hc3 hc4 hf0 hf1 hf2 hf3 hf4; have hc0 : w10.cell? ⟨gb, 0, none⟩ = some (.string y.f0) := (blk_cell BK.out 0).trans rfl; have hc1 : w10.cell? ⟨gb, 1, none⟩ = some (.bool y.f1) := (blk_cell BK.out 1).trans rfl; have hc2 : w10.cell? ⟨gb, 2, none⟩ = some (.int .i64 y.f2.f0) := (blk_cell BK.out 2).trans rfl; have hc3 : w10.cell? ⟨gb, 3, none⟩ = some (.int .i64 y.f2.f1) := (blk_cell BK.out 3).trans rfl; have hc4 : w10.cell? ⟨gb, 4, none⟩ = some (.string y.f2.f2) := (blk_cell BK.out 4).trans rfl; have hf0 := blk_frozen BK.out 0; have hf1 := blk_frozen BK.out 1; have hf2 := blk_frozen BK.out 2; have hf3 := blk_frozen BK.out 3; have hf4 := blk_frozen BK.out 4))
          go_region_held3 (fun w' => w'.cell? ⟨gb, 0, none⟩ = some (.string y.f0) ∧ w'.cell? ⟨gb, 1, none⟩ = some (.bool y.f1) ∧ w'.cell? ⟨gb, 2, none⟩ = some (.int .i64 y.f2.f0) ∧ w'.cell? ⟨gb, 3, none⟩ = some (.int .i64 y.f2.f1) ∧ w'.cell? ⟨gb, 4, none⟩ = some (.string y.f2.f2))
            (first | exact cells5 BK.out)
            (first
              | (go_at_call 10; (with_reducible refine (batch_May.calls AM cM M _ _ (by first | exact HCM.out | exact Kd.C_drew HCM.out) HNM.out HK7.out).mono ?_); rintro e w11 ⟨rfl, hb⟩; have n1_ := Aside0.mk (below_step (by first | exact HB.out | exact HB.out.drew) hb); have n2_ := Aside0.mk (blk_below (by first | exact BK.out | exact BK.out) hb); clear HB BK hb; have HB := n1_; have BK := n2_; clear n1_ n2_; clear hc0 hc1 hc2 hc3 hc4 hf0 hf1 hf2 hf3 hf4)
              | (go_at_call 19; (with_reducible refine (loessref10_May.calls k6 y.f0 y.f1 y.f2.f0 y.f2.f1 y.f2.f2 _ _ HK6.out).mono ?_); rintro e w12 ⟨rfl, hb⟩; have n1_ := Aside0.mk (below_step (by first | exact HB.out | exact HB.out.drew) hb); have n2_ := Aside0.mk (blk_below (by first | exact BK.out | exact BK.out) hb); clear HB BK hb; have HB := n1_; have BK := n2_; clear n1_ n2_))
          go_wp2
          go_ret
          exact ⟨rfl, HB.out⟩
theorem BatchOne.walk (P : True) (a0 : Option Addr) (len0 cap0 : Nat) (z0 : List S38) (x : S38) (n : Int) (w : World) (w0 : O.IsRows k38 O.ok38 w a0 len0 cap0 z0) (w1 : O.ok38 x) (w2 : (Lit.int .i64 n).wf = true) :
    Calls Try.prog 6 #[.slice a0 len0 cap0, O.v38 x, .int .i64 n] w fun e w' => e = .returned (.bool true) ∧ Below w.heap.size w w' := by
  obtain ⟨rfl, g1, g2, g3, g4⟩ := w0
  exact BatchOne.in a0 cap0 z0 x n w g3 g1 (fun y hy => ⟨wfI64 (g4 y hy).2.2.1, wfI64 (g4 y hy).2.2.2.1⟩) ⟨wfI64 w1.2.2.1, wfI64 w1.2.2.2.1⟩ (wfI64 w2)
end Go.Proofs.Ytbogcnfmdakdmaa.GL
