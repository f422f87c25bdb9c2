import Derived.Test.YtkhcmddeeodbkaaZSortedAny24
-- Own texts and, of the words that the kit's print program wrote for this claim, those that are needed here: put together by wip/prune.py.
set_option linter.unusedSimpArgs false
set_option linter.unusedVariables false
namespace Go.Proofs.Ytkhcmddeeodbkaa.GL
open Go.RowKit Go.Proofs.YtkhcmddeeodbkaaW.PrintWords Go.Proofs.YtkhcmddeeodbkaaW.PrintLast Go.Proofs.YtkhcmddeeodbkaaW.PrintMore Go.Proofs.Ytkhcmddeeodbkaa.Q Go.Proofs.Ytkhcmddeeodbkaa.XSor Go.Proofs.Ytkhcmddeeodbkaa.G
theorem row_C {W : World} {g : Nat} {L : List Rc} (hL : L.length ≤ 100) (hh : W.heap[g]? = some (.cells (List.toArray (rowC L)) 27 (0, 0))) : Kd.C k27 W (some ⟨g, 0, none⟩) L.length L := by
  obtain ⟨A, c, e, hn, hC⟩ := Kd.R_reads (R_of_cells (base := 0) (Nat.zero_le _) hh (Nat.le_refl _) (Nat.le_trans hL (by decide)) (rowC_len L) (List.take_of_length_le (by rw [rowC_len]; exact Nat.le_refl _)))
  injection e with e1 e2 e3
  rw [e1]
  exact hC
theorem enc_len : (encP [pB, pA]).length < 4611686018427387904 := of_decide_eq_true (by kernel_rfl)
theorem get_b {W : World} {g : Nat} (h : SO W g [pB, pA]) : Calls Try.prog 19 #[.pointer (some ⟨g, 0, none⟩), .string ⟨#[98]⟩] W fun e w' => e = .returned (.tuple #[.agg #[.int .i64 1, .int .i64 2, .string ⟨#[]⟩], .bool true]) ∧ Below W.heap.size W w' := by
  have h1 := st_Get (k := kB) h (by decide)
  rw [val_b] at h1
  exact h1
theorem get_c {W : World} {g : Nat} (h : SO W g [pB, pA]) : Calls Try.prog 19 #[.pointer (some ⟨g, 0, none⟩), .string ⟨#[99]⟩] W fun e w' => e = .returned (.tuple #[.agg #[.int .i64 0, .int .i64 0, .string ⟨#[]⟩], .bool false]) ∧ Below W.heap.size W w' := by
  have h1 := st_Get (k := kC) h (by decide)
  rw [val_c] at h1
  exact h1
theorem lit2 (W : World) (base : Nat) : Reps (Kd.M k30 W base (fun _ => True)) k30.sz [pA, pB] [.string kA, .int .i64 1, .int .i64 1, .string ⟨#[]⟩, .string kB, .int .i64 1, .int .i64 2, .string ⟨#[]⟩] := by
  refine ⟨rfl, fun j p hj => ?_⟩
  rcases j with _ | _ | j
  · obtain rfl : pA = p := by simpa using hj
    exact k30_mkM W base _ pA
  · obtain rfl : pB = p := by simpa using hj
    exact k30_mkM W base _ pB
  · simp at hj
theorem new_ab {W : World} {A : Option Addr} {c : Nat} (hC : Kd.C k30 W A 2 [pA, pB]) (hc : 2 ≤ c) : Calls Try.prog 13 #[.slice A 2 c] W fun e w' => e = .returned (.tuple #[.pointer none, .int .i64 1]) ∧ Below W.heap.size W w' := by
  refine (st_New (L := [pA, pB]) rfl hC hc (fun p hp => ?_)).mono ?_
  · rcases List.mem_cons.1 hp with rfl | hp
    · exact ⟨by decide, by decide⟩
    · rcases List.mem_cons.1 hp with rfl | hp
      · exact ⟨by decide, by decide⟩
      · cases hp
  · rintro e w' ⟨hb, ⟨h, _⟩ | ⟨_, h⟩⟩
    · exact absurd h not_ab
    · exact ⟨h, hb⟩
theorem open_nil_p (W : World) : Calls Try.prog 22 #[.slice none 0 0] W fun e w' => e = .returned (.tuple #[.pointer none, .int .i64 8]) ∧ Below W.heap.size W w' := by
  obtain ⟨A, c, e, hn, hC⟩ := Kd.R_reads (Kd.R_nil (Kd.int .u8) 5 W 0 (fun _ => True))
  injection e with e1 e2 e3
  subst e1
  refine (st_Open (l := []) rfl hC (Nat.le_refl 0) Byt.nil (by decide)).mono ?_
  rintro e w' ⟨hb, ⟨L, g, h, _⟩ | ⟨_, h⟩⟩
  · exact absurd h (open_nil L)
  · exact ⟨h, hb⟩
theorem reads_a {W : World} {g : Nat} (h : SO W g [pB, pA]) : Calls Try.prog 20 #[.pointer (some ⟨g, 0, none⟩), .string ⟨#[97]⟩] W fun e w' => e = .returned (.int .i64 1) ∧ Below W.heap.size W w' := by
  have h1 := st_Reads (k := kA) h (by decide)
  rw [like_a] at h1
  exact h1
theorem len_2 {W : World} {g : Nat} (h : SO W g [pB, pA]) : Calls Try.prog 18 #[.pointer (some ⟨g, 0, none⟩)] W fun e w' => e = .returned (.int .i64 2) ∧ Below W.heap.size W w' := by
  refine (st_Len h).mono ?_
  rintro e w' ⟨h1, rfl⟩
  exact ⟨h1, Below.refl _ _⟩
theorem less_ba (W : World) : Calls Try.prog 15 #[.string kB, .string kA] W fun e w' => e = .returned (.bool true) ∧ Below W.heap.size W w' := by
  obtain ⟨k, hk⟩ := (less_ev (a := kB) (b := kA) (by decide) (by decide)).rounds
  rw [ba_lt] at hk
  exact sorted_Less.calls k kB kA _ _ hk
set_option maxRecDepth 1000000 in
set_option maxHeartbeats 8000000 in
theorem st_begun (w : World) : Calls Try.prog 10 #[] w fun e w' => e = .returned (.bool true) ∧ Below w.heap.size w w' := by
  have HR1 := Aside0.mk (row_C (W := w.alloc (.cells #[.string kA, .bool false, .int .i64 1, .int .i64 1, .string ⟨#[]⟩, .string kB, .bool false, .int .i64 1, .int .i64 2, .string ⟨#[]⟩] 27 (0, 0))) (L := [rA, rB]) (by decide) (blk_new _ _))
  have HB := Aside0.mk (below_alloc (Below.refl w.heap.size w) (.cells #[.string kA, .bool false, .int .i64 1, .int .i64 1, .string ⟨#[]⟩, .string kB, .bool false, .int .i64 1, .int .i64 2, .string ⟨#[]⟩] 27 (0, 0)))
  go_enter Try.func10, Try.ntmps10
  go_wp2_with (first
    | (go_at_call 17; refine (st_Pairs (n := 2) (l := [rA, rB]) rfl HR1.out (Nat.le_refl _)).mono ?_; rintro e w1 ⟨v1, rfl, hR, hb⟩; rw [pairs_ab] at hR; obtain ⟨A1, c1, rfl, hn1, hC1⟩ := Kd.R_reads hR; have HC1 := Aside0.mk hC1; have HN1 := Aside0.mk hn1; have HB1 := Aside0.mk (below_step HB.out hb); clear hR hn1 hC1 hb)
    | (go_at_call 13; refine (st_New (n := 2) (L := [pB, pA]) rfl HC1.out HN1.out (fun p hp => ⟨Nat.lt_of_le_of_lt (sm_ba p hp).1 (by decide), Nat.lt_of_le_of_lt (sm_ba p hp).2.1 (by decide)⟩)).mono ?_; rintro e w2 ⟨hb, h2⟩; rcases h2 with ⟨_, g, rfl, hso⟩ | ⟨hbad, _⟩; rotate_left; exact absurd may_ba hbad; have HSO := Aside0.mk hso; have HB2 := Aside0.mk (below_step HB1.out hb); have HC2 := Aside0.mk (Kd.C_below HC1.out hb); clear hso hb)
    | (go_at_call 19; (with_reducible refine (get_b HSO.out).mono ?_); rintro e w3 ⟨rfl, hb⟩; have n1_ := Aside0.mk (below_step HB2.out hb); have n2_ := Aside0.mk (HSO.out.below hb); have n3_ := Aside0.mk (Kd.C_below HC2.out hb); clear HB2 HSO HC2 hb; have HB2 := n1_; have HSO := n2_; have HC2 := n3_; clear n1_ n2_ n3_)
    | ((with_reducible refine gate_dst (N := 4) rfl ?_); refine box_event ?hg (N := 4) ?hd (cs := #[.int .i64 0, .int .i64 0, .string ⟨#[]⟩]) (t := 25) ?hr ?_; (case hd => rfl); (case hg => rfl); (case hr => first | (go_simp; done) | (go_simp; rfl)); intro g4 hg w4 hbox hb; have G4 := Aside0.mk (show w3.heap.size ≤ g4 by omega); have X4 := Aside0.mk hbox; have HV := Aside0.mk (show Below w3.heap.size w3 w4 from hb); clear hbox hg hb; have hs0 : w4.cell? ⟨g4, 0, none⟩ = some (.int .i64 0) := (blk_cell X4.out 0).trans rfl; have hs1 : w4.cell? ⟨g4, 1, none⟩ = some (.int .i64 0) := (blk_cell X4.out 1).trans rfl; have hs2 : w4.cell? ⟨g4, 2, none⟩ = some (.string ⟨#[]⟩) := (blk_cell X4.out 2).trans rfl; have hf0 := blk_frozen X4.out 0; have hf1 := blk_frozen X4.out 1; have hf2 := blk_frozen X4.out 2)
    | ((with_reducible refine gate_store (t := 25) (p := 4) rfl ?_); refine store_event (t := 25) (p := 4) (v := ?vo4) (w1 := (((w4.setCell ⟨g4, 0, none⟩ (.int .i64 1)).setCell ⟨g4, 1, none⟩ (.int .i64 2)).setCell ⟨g4, 2, none⟩ (.string ⟨#[]⟩))) ?hg ?ho ?hn ?hr ?_; (case ho => rfl); (case hg => rfl); (case hn => rfl); (case hr => first | (go_simp; done) | (go_simp; rfl)); intro w5 hw; have hb : Below w3.heap.size w3 w5 := (by rw [hw]; exact below_set (below_set (below_set HV.out G4.out) G4.out) G4.out); have n1_ := Aside0.mk (below_step HB2.out hb); have n2_ := Aside0.mk (HSO.out.below hb); have n3_ := Aside0.mk (Kd.C_below HC2.out hb); clear HB2 HSO HC2 hb; have HB2 := n1_; have HSO := n2_; have HC2 := n3_; clear n1_ n2_ n3_; have B4 := Aside0.mk (show w5.heap[g4]? = some (.cells #[.int .i64 1, .int .i64 2, .string ⟨#[]⟩] 25 (0, 0)) by rw [hw]; exact blk_put (blk_put (blk_put X4.out 0 _ rfl) 1 _ rfl) 2 _ rfl); clear HV X4 hs0 hs1 hs2 hf0 hf1 hf2 hw)
    | (go_at_call 19; (with_reducible refine (get_c HSO.out).mono ?_); rintro e w6 ⟨rfl, hb⟩; have n4_ := Aside0.mk (blk_below B4.out hb); clear B4; have B4 := n4_; clear n4_; have n1_ := Aside0.mk (below_step HB2.out hb); have n2_ := Aside0.mk (HSO.out.below hb); have n3_ := Aside0.mk (Kd.C_below HC2.out hb); clear HB2 HSO HC2 hb; have HB2 := n1_; have HSO := n2_; have HC2 := n3_; clear n1_ n2_ n3_)
    | ((with_reducible refine gate_dst (N := 6) rfl ?_); refine box_event ?hg (N := 6) ?hd (cs := #[.int .i64 0, .int .i64 0, .string ⟨#[]⟩]) (t := 25) ?hr ?_; (case hd => rfl); (case hg => rfl); (case hr => first | (go_simp; done) | (go_simp; rfl)); intro g6 hg w7 hbox hb; have G6 := Aside0.mk (show w6.heap.size ≤ g6 by omega); have X6 := Aside0.mk hbox; have HV := Aside0.mk (show Below w6.heap.size w6 w7 from hb); clear hbox hg hb; have hs0 : w7.cell? ⟨g6, 0, none⟩ = some (.int .i64 0) := (blk_cell X6.out 0).trans rfl; have hs1 : w7.cell? ⟨g6, 1, none⟩ = some (.int .i64 0) := (blk_cell X6.out 1).trans rfl; have hs2 : w7.cell? ⟨g6, 2, none⟩ = some (.string ⟨#[]⟩) := (blk_cell X6.out 2).trans rfl; have hf0 := blk_frozen X6.out 0; have hf1 := blk_frozen X6.out 1; have hf2 := blk_frozen X6.out 2)
    | ((with_reducible refine gate_store (t := 25) (p := 6) rfl ?_); refine store_event (t := 25) (p := 6) (v := ?vo6) (w1 := (((w7.setCell ⟨g6, 0, none⟩ (.int .i64 0)).setCell ⟨g6, 1, none⟩ (.int .i64 0)).setCell ⟨g6, 2, none⟩ (.string ⟨#[]⟩))) ?hg ?ho ?hn ?hr ?_; (case ho => rfl); (case hg => rfl); (case hn => rfl); (case hr => first | (go_simp; done) | (go_simp; rfl)); intro w8 hw; have hb : Below w6.heap.size w6 w8 := (by rw [hw]; exact below_set (below_set (below_set HV.out G6.out) G6.out) G6.out); have n4_ := Aside0.mk (blk_below B4.out hb); clear B4; have B4 := n4_; clear n4_; have n1_ := Aside0.mk (below_step HB2.out hb); have n2_ := Aside0.mk (HSO.out.below hb); have n3_ := Aside0.mk (Kd.C_below HC2.out hb); clear HB2 HSO HC2 hb; have HB2 := n1_; have HSO := n2_; have HC2 := n3_; clear n1_ n2_ n3_; clear HV X6 hs0 hs1 hs2 hf0 hf1 hf2 hw)
    | (go_at_call 23; refine (st_Bytes HSO.out sm_ba).mono ?_; rintro e w9 ⟨v9, rfl, hR, hb⟩; obtain ⟨A9, c9, rfl, hn9, hC9⟩ := Kd.R_reads hR; have HC9 := Aside0.mk hC9; have HN9 := Aside0.mk hn9; clear hR hn9 hC9; have n4_ := Aside0.mk (blk_below B4.out hb); clear B4; have B4 := n4_; clear n4_; have n1_ := Aside0.mk (below_step HB2.out hb); have n2_ := Aside0.mk (HSO.out.below hb); have n3_ := Aside0.mk (Kd.C_below HC2.out hb); clear HB2 HSO HC2 hb; have HB2 := n1_; have HSO := n2_; have HC2 := n3_; clear n1_ n2_ n3_)
    | (go_at_call 22; refine (st_Open rfl HC9.out HN9.out (encP_byt _) enc_len).mono ?_; rintro e w10 ⟨hb, h10⟩; rcases h10 with ⟨L2, g2, ho2, rfl, hso2⟩ | ⟨hbad, _⟩; rotate_left; exact absurd open_ba (hbad _); obtain rfl : [pB, pA] = L2 := Option.some.inj (open_ba.1.symm.trans ho2.1); have HSO2 := Aside0.mk hso2; clear ho2 hso2; have n4_ := Aside0.mk (blk_below B4.out hb); clear B4; have B4 := n4_; clear n4_; have n1_ := Aside0.mk (below_step HB2.out hb); have n2_ := Aside0.mk (HSO.out.below hb); have n3_ := Aside0.mk (Kd.C_below HC2.out hb); clear HB2 HSO HC2 hb; have HB2 := n1_; have HSO := n2_; have HC2 := n3_; clear n1_ n2_ n3_))
  have HV := Aside0.mk (Below.refl w10.heap.size w10)
  obtain ⟨ad, e, b0, b1, b2, b3⟩ := at_T30 HC2.out 0 (by decide) (by decide)
  obtain ⟨ad', e', a0, a1, a2, a3⟩ := at_T30 HC2.out 1 (by decide) (by decide)
  cases e
  obtain rfl : ad = ad' := Option.some.inj e'
  clear e'
  have z0 : ad.add ((0 : Int).toNat * 4) = ad := by cases ad; rfl
  have z1 : ad.add ((1 : Int).toNat * 4) = ⟨ad.block, ad.off + 4, none⟩ := rfl
  rw [z0] at b0 b1 b2 b3
  rw [z1] at a0 a1 a2 a3
  refine start_ (n := 13) (S := fun w' => w'.cell? ad = some (.string pB.f0) ∧ w'.cell? ⟨ad.block, ad.off + 1, none⟩ = some (.int .i64 pB.f1.f0) ∧ w'.cell? ⟨ad.block, ad.off + 2, none⟩ = some (.int .i64 pB.f1.f1) ∧ w'.cell? ⟨ad.block, ad.off + 3, none⟩ = some (.string pB.f1.f2) ∧ w'.cell? ⟨ad.block, ad.off + 4, none⟩ = some (.string pA.f0) ∧ w'.cell? ⟨ad.block, ad.off + 4 + 1, none⟩ = some (.int .i64 pA.f1.f0) ∧ w'.cell? ⟨ad.block, ad.off + 4 + 2, none⟩ = some (.int .i64 pA.f1.f1) ∧ w'.cell? ⟨ad.block, ad.off + 4 + 3, none⟩ = some (.string pA.f1.f2)) (ds := []) #[false, false, false, false, false, false, false, false, false, false, false, false, false] (by kernel_rfl) rfl rfl ⟨((HV.out.drew.cell (World.block_lt_of_cell? w10 _ b0)).trans b0), ((HV.out.drew.cell (World.block_lt_of_cell? w10 _ b1)).trans b1), ((HV.out.drew.cell (World.block_lt_of_cell? w10 _ b2)).trans b2), ((HV.out.drew.cell (World.block_lt_of_cell? w10 _ b3)).trans b3), ((HV.out.drew.cell (World.block_lt_of_cell? w10 _ a0)).trans a0), ((HV.out.drew.cell (World.block_lt_of_cell? w10 _ a1)).trans a1), ((HV.out.drew.cell (World.block_lt_of_cell? w10 _ a2)).trans a2), ((HV.out.drew.cell (World.block_lt_of_cell? w10 _ a3)).trans a3)⟩ (fun hHeld => ?_)
  refine pure_ (i := 0) (N := some 53) (v := ?_) (a' := ?_) #[true, false, false, false, false, false, false, false, false, false, false, false, false] rfl rfl (by kernel_rfl) (fun _ _ _ h => h) (Or.inl ⟨by rfl, ?_⟩) ?_ ?_
  rotate_left
  · intro w'
    go_simp
    with_reducible rfl
  rotate_left
  · simp only [Act.put, List.setIfInBounds_toArray, List.set_cons_zero, List.set_cons_succ, i64_w, i32_w]
    rfl
  refine pure_ (i := 1) (N := some 54) (v := ?_) (a' := ?_) #[true, true, false, false, false, false, false, false, false, false, false, false, false] rfl rfl (by kernel_rfl) (fun _ _ _ h => h) (Or.inl ⟨by rfl, ?_⟩) ?_ ?_
  rotate_left
  · intro w'
    go_simp
    with_reducible rfl
  rotate_left
  · simp only [Act.put, List.setIfInBounds_toArray, List.set_cons_zero, List.set_cons_succ, i64_w, i32_w]
    rfl
  refine pure_ (i := 3) (N := some 56) (v := ?_) (a' := ?_) #[true, true, false, true, false, false, false, false, false, false, false, false, false] rfl rfl (by kernel_rfl) (fun _ _ _ h => h) (Or.inl ⟨by rfl, ?_⟩) ?_ ?_
  rotate_left
  · intro w'
    go_simp
    with_reducible rfl
  rotate_left
  · simp only [Act.put, List.setIfInBounds_toArray, List.set_cons_zero, List.set_cons_succ, i64_w, i32_w]
    rfl
  refine pure_ (i := 4) (N := some 57) (v := ?_) (a' := ?_) #[true, true, false, true, true, false, false, false, false, false, false, false, false] rfl rfl (by kernel_rfl) (fun _ _ _ h => h) (Or.inl ⟨by rfl, ?_⟩) ?_ ?_
  rotate_left
  · intro w'
    go_simp
    with_reducible rfl
  rotate_left
  · simp only [Act.put, List.setIfInBounds_toArray, List.set_cons_zero, List.set_cons_succ, i64_w, i32_w]
    rfl
  refine take_ (i := 2) (N := some 55) (v := ?_) (a' := ?_) #[true, true, true, true, true, false, false, false, false, false, false, false, false] rfl rfl (by kernel_rfl) (fun _ _ _ h => h) (Or.inl ⟨by rfl, ?_⟩) hHeld ?_ ?_
  rotate_left
  · rintro w' ⟨s0, s1, s2, s3, s4, s5, s6, s7⟩
    go_simp
    with_reducible rfl
  rotate_left
  · simp only [Act.put, List.setIfInBounds_toArray, List.set_cons_zero, List.set_cons_succ, i64_w, i32_w]
    rfl
  refine take_ (i := 5) (N := some 58) (v := ?_) (a' := ?_) #[true, true, true, true, true, true, false, false, false, false, false, false, false] rfl rfl (by kernel_rfl) (fun _ _ _ h => h) (Or.inl ⟨by rfl, ?_⟩) hHeld ?_ ?_
  rotate_left
  · rintro w' ⟨s0, s1, s2, s3, s4, s5, s6, s7⟩
    go_simp
    with_reducible rfl
  rotate_left
  · simp only [Act.put, List.setIfInBounds_toArray, List.set_cons_zero, List.set_cons_succ, i64_w, i32_w]
    rfl
  refine one_ (i := 6) (N := some 59) #[true, true, true, true, true, true, true, false, false, false, false, false, false] rfl rfl (by kernel_rfl) (by decide) (fun K hK => ?_)
  refine Kd.R_lit_step k30 (w0 := w10) w10.heap.size 30 (by rfl) (N := 59) rfl (xs := [pA, pB]) (inner := [.string kA, .int .i64 1, .int .i64 1, .string ⟨#[]⟩, .string kB, .int .i64 1, .int .i64 2, .string ⟨#[]⟩]) (ok := fun _ => True) (okp := fun _ => True) ?hr1 (lit2 _ _) (fun _ hk => hk) trivial (by first | exact HV.out | exact HV.out.drew) (by first | exact HV.out.size | exact HV.out.drew.size) (by simp) ?_
  (case hr1 => first | (go_simp; done) | (go_simp; rfl))
  intro v59 w59 ho hb hg hat
  obtain ⟨A59, c59, rfl, hn59, hC59⟩ := Kd.R_reads ho
  have n1_ := Aside0.mk hb
  clear HV ho hb hg hat
  have HV := n1_
  clear n1_
  refine hK.out _ _ ⟨((HV.out.cell (World.block_lt_of_cell? w10 _ b0)).trans b0), ((HV.out.cell (World.block_lt_of_cell? w10 _ b1)).trans b1), ((HV.out.cell (World.block_lt_of_cell? w10 _ b2)).trans b2), ((HV.out.cell (World.block_lt_of_cell? w10 _ b3)).trans b3), ((HV.out.cell (World.block_lt_of_cell? w10 _ a0)).trans a0), ((HV.out.cell (World.block_lt_of_cell? w10 _ a1)).trans a1), ((HV.out.cell (World.block_lt_of_cell? w10 _ a2)).trans a2), ((HV.out.cell (World.block_lt_of_cell? w10 _ a3)).trans a3)⟩ (fun hHeld => ?_)
  clear hK K
  refine norm_ (a' := ?_) ?_ ?_
  rotate_left
  · show Act.put _ (some 59) _ = _
    simp only [Act.put, List.setIfInBounds_toArray, List.set_cons_zero, List.set_cons_succ, i64_w, i32_w]
    rfl
  refine one_ (i := 7) (N := some 60) #[true, true, true, true, true, true, true, true, false, false, false, false, false] rfl rfl (by kernel_rfl) (by decide) (fun K hK => ?_)
  refine goes_ Try.func13 (by kernel_rfl) rfl #[.slice A59 2 c59] (by rfl) rfl rfl (by simp only [List.map_toArray, List.map_cons, List.map_nil]; rfl) ?_
  with_reducible refine (new_ab hC59 hn59).mono ?_
  rintro e w60 ⟨rfl, hb⟩
  refine ⟨_, rfl, ?_⟩
  have n1_ := Aside0.mk (below_step HV.out hb)
  clear HV hb
  have HV := n1_
  clear n1_
  refine hK.out _ _ ⟨((HV.out.cell (World.block_lt_of_cell? w10 _ b0)).trans b0), ((HV.out.cell (World.block_lt_of_cell? w10 _ b1)).trans b1), ((HV.out.cell (World.block_lt_of_cell? w10 _ b2)).trans b2), ((HV.out.cell (World.block_lt_of_cell? w10 _ b3)).trans b3), ((HV.out.cell (World.block_lt_of_cell? w10 _ a0)).trans a0), ((HV.out.cell (World.block_lt_of_cell? w10 _ a1)).trans a1), ((HV.out.cell (World.block_lt_of_cell? w10 _ a2)).trans a2), ((HV.out.cell (World.block_lt_of_cell? w10 _ a3)).trans a3)⟩ (fun hHeld => ?_)
  clear hK K
  refine norm_ (a' := ?_) ?_ ?_
  rotate_left
  · show Act.put _ (some 60) _ = _
    simp only [Act.put, List.setIfInBounds_toArray, List.set_cons_zero, List.set_cons_succ, i64_w, i32_w]
    rfl
  refine pure_ (i := 8) (N := some 52) (v := ?_) (a' := ?_) #[true, true, true, true, true, true, true, true, true, false, false, false, false] rfl rfl (by kernel_rfl) (fun _ _ _ h => h) (Or.inl ⟨by rfl, ?_⟩) ?_ ?_
  rotate_left
  · intro w'
    go_simp
    with_reducible rfl
  rotate_left
  · simp only [Act.put, List.setIfInBounds_toArray, List.set_cons_zero, List.set_cons_succ, i64_w, i32_w]
    rfl
  refine pure_ (i := 9) (N := some 61) (v := ?_) (a' := ?_) #[true, true, true, true, true, true, true, true, true, true, false, false, false] rfl rfl (by kernel_rfl) (fun _ _ _ h => h) (Or.inl ⟨by rfl, ?_⟩) ?_ ?_
  rotate_left
  · intro w'
    go_simp
    with_reducible rfl
  rotate_left
  · simp only [Act.put, List.setIfInBounds_toArray, List.set_cons_zero, List.set_cons_succ, i64_w, i32_w]
    rfl
  refine pure_ (i := 10) (N := some 62) (v := ?_) (a' := ?_) #[true, true, true, true, true, true, true, true, true, true, true, false, false] rfl rfl (by kernel_rfl) (fun _ _ _ h => h) (Or.inl ⟨by rfl, ?_⟩) ?_ ?_
  rotate_left
  · intro w'
    go_simp
    with_reducible rfl
  rotate_left
  · simp only [Act.put, List.setIfInBounds_toArray, List.set_cons_zero, List.set_cons_succ, i64_w, i32_w]
    rfl
  refine pure_ (i := 11) (N := some 10) (v := ?_) (a' := ?_) #[true, true, true, true, true, true, true, true, true, true, true, true, false] rfl rfl (by kernel_rfl) (fun _ _ _ h => h) (Or.inl ⟨by rfl, ?_⟩) ?_ ?_
  rotate_left
  · intro w'
    go_simp
    with_reducible rfl
  rotate_left
  · simp only [Act.put, List.setIfInBounds_toArray, List.set_cons_zero, List.set_cons_succ, i64_w, i32_w]
    rfl
  refine pure_ (i := 12) (N := some 11) (v := ?_) (a' := ?_) #[true, true, true, true, true, true, true, true, true, true, true, true, true] rfl rfl (by kernel_rfl) (fun _ _ _ h => h) (Or.inl ⟨by rfl, ?_⟩) ?_ ?_
  rotate_left
  · intro w'
    go_simp
    with_reducible rfl
  rotate_left
  · simp only [Act.put, List.setIfInBounds_toArray, List.set_cons_zero, List.set_cons_succ, i64_w, i32_w]
    rfl
  refine done_ (by kernel_rfl) ?_
  go_wp2_with (first
    | (go_at_call 22; (with_reducible refine (open_nil_p _).mono ?_); rintro e w11 ⟨rfl, hb⟩; have n1_ := Aside0.mk (below_step HV.out hb); clear HV hb; have HV := n1_; clear n1_)
    | (fail))
  have q4 : w11.cell? ⟨g4, 1, none⟩ = some (.int .i64 2) := (blk_cell (blk_below B4.out HV.out) 1).trans rfl
  have qb : w11.cell? ad = some (.string kB) := (HV.out.cell (World.block_lt_of_cell? w10 _ b0)).trans b0
  have qa : w11.cell? ⟨ad.block, ad.off + 4, none⟩ = some (.string kA) := (HV.out.cell (World.block_lt_of_cell? w10 _ a0)).trans a0
  have n1_ := Aside0.mk (HSO.out.below HV.out)
  have n2_ := Aside0.mk (HSO2.out.below HV.out)
  have n3_ := Aside0.mk (below_step HB2.out HV.out)
  clear HSO HSO2 HB2 HV b0 b1 b2 b3 a0 a1 a2 a3
  have HSO := n1_
  have HSO2 := n2_
  have HB2 := n3_
  have HV := Aside0.mk (Below.refl w11.heap.size w11)
  clear n1_ n2_ n3_
  refine start_ (n := 44) (S := fun w' => w'.cell? ⟨g4, 1, none⟩ = some (.int .i64 2) ∧ w'.cell? ad = some (.string kB) ∧ w'.cell? ⟨ad.block, ad.off + 4, none⟩ = some (.string kA)) (ds := []) #[false, false, false, false, false, false, false, false, false, false, false, false, false, false, false, false, false, false, false, false, false, false, false, false, false, false, false, false, false, false, false, false, false, false, false, false, false, false, false, false, false, false, false, false] (by kernel_rfl) rfl rfl ⟨((HV.out.drew.cell (World.block_lt_of_cell? w11 _ q4)).trans q4), ((HV.out.drew.cell (World.block_lt_of_cell? w11 _ qb)).trans qb), ((HV.out.drew.cell (World.block_lt_of_cell? w11 _ qa)).trans qa)⟩ (fun hHeld => ?_)
  refine pure_ (i := 0) (N := some 67) (v := ?_) (a' := ?_) #[true, false, false, false, false, false, false, false, false, false, false, false, false, false, false, false, false, false, false, false, false, false, false, false, false, false, false, false, false, false, false, false, false, false, false, false, false, false, false, false, false, false, false, false] rfl rfl (by kernel_rfl) (fun _ _ _ h => h) (Or.inl ⟨by rfl, ?_⟩) ?_ ?_
  rotate_left
  · intro w'
    go_simp
    with_reducible rfl
  rotate_left
  · simp only [Act.put, List.setIfInBounds_toArray, List.set_cons_zero, List.set_cons_succ, i64_w, i32_w]
    rfl
  refine take_ (i := 1) (N := some 68) (v := ?_) (a' := ?_) #[true, true, false, false, false, false, false, false, false, false, false, false, false, false, false, false, false, false, false, false, false, false, false, false, false, false, false, false, false, false, false, false, false, false, false, false, false, false, false, false, false, false, false, false] rfl rfl (by kernel_rfl) (fun _ _ _ h => h) (Or.inl ⟨by rfl, ?_⟩) hHeld ?_ ?_
  rotate_left
  · rintro w' ⟨s0, s1, s2⟩
    go_simp
    with_reducible rfl
  rotate_left
  · simp only [Act.put, List.setIfInBounds_toArray, List.set_cons_zero, List.set_cons_succ, i64_w, i32_w]
    rfl
  refine pure_ (i := 2) (N := some 69) (v := ?_) (a' := ?_) #[true, true, true, false, false, false, false, false, false, false, false, false, false, false, false, false, false, false, false, false, false, false, false, false, false, false, false, false, false, false, false, false, false, false, false, false, false, false, false, false, false, false, false, false] rfl rfl (by kernel_rfl) (fun _ _ _ h => h) (Or.inl ⟨by rfl, ?_⟩) ?_ ?_
  rotate_left
  · intro w'
    go_simp
    with_reducible rfl
  rotate_left
  · simp only [Act.put, List.setIfInBounds_toArray, List.set_cons_zero, List.set_cons_succ, i64_w, i32_w]
    rfl
  refine pure_ (i := 3) (N := some 70) (v := ?_) (a' := ?_) #[true, true, true, true, false, false, false, false, false, false, false, false, false, false, false, false, false, false, false, false, false, false, false, false, false, false, false, false, false, false, false, false, false, false, false, false, false, false, false, false, false, false, false, false] rfl rfl (by kernel_rfl) (fun _ _ _ h => h) (Or.inl ⟨by rfl, ?_⟩) ?_ ?_
  rotate_left
  · intro w'
    go_simp
    with_reducible rfl
  rotate_left
  · simp only [Act.put, List.setIfInBounds_toArray, List.set_cons_zero, List.set_cons_succ, i64_w, i32_w]
    rfl
  refine pure_ (i := 4) (N := some 71) (v := ?_) (a' := ?_) #[true, true, true, true, true, false, false, false, false, false, false, false, false, false, false, false, false, false, false, false, false, false, false, false, false, false, false, false, false, false, false, false, false, false, false, false, false, false, false, false, false, false, false, false] rfl rfl (by kernel_rfl) (fun _ _ _ h => h) (Or.inl ⟨by rfl, ?_⟩) ?_ ?_
  rotate_left
  · intro w'
    go_simp
    with_reducible rfl
  rotate_left
  · simp only [Act.put, List.setIfInBounds_toArray, List.set_cons_zero, List.set_cons_succ, i64_w, i32_w]
    rfl
  refine pure_ (i := 5) (N := some 72) (v := ?_) (a' := ?_) #[true, true, true, true, true, true, false, false, false, false, false, false, false, false, false, false, false, false, false, false, false, false, false, false, false, false, false, false, false, false, false, false, false, false, false, false, false, false, false, false, false, false, false, false] rfl rfl (by kernel_rfl) (fun _ _ _ h => h) (Or.inl ⟨by rfl, ?_⟩) ?_ ?_
  rotate_left
  · intro w'
    go_simp
    with_reducible rfl
  rotate_left
  · simp only [Act.put, List.setIfInBounds_toArray, List.set_cons_zero, List.set_cons_succ, i64_w, i32_w]
    rfl
  refine pure_ (i := 6) (N := some 73) (v := ?_) (a' := ?_) #[true, true, true, true, true, true, true, false, false, false, false, false, false, false, false, false, false, false, false, false, false, false, false, false, false, false, false, false, false, false, false, false, false, false, false, false, false, false, false, false, false, false, false, false] rfl rfl (by kernel_rfl) (fun _ _ _ h => h) (Or.inl ⟨by rfl, ?_⟩) ?_ ?_
  rotate_left
  · intro w'
    go_simp
    with_reducible rfl
  rotate_left
  · simp only [Act.put, List.setIfInBounds_toArray, List.set_cons_zero, List.set_cons_succ, i64_w, i32_w]
    rfl
  refine pure_ (i := 7) (N := some 74) (v := ?_) (a' := ?_) #[true, true, true, true, true, true, true, true, false, false, false, false, false, false, false, false, false, false, false, false, false, false, false, false, false, false, false, false, false, false, false, false, false, false, false, false, false, false, false, false, false, false, false, false] rfl rfl (by kernel_rfl) (fun _ _ _ h => h) (Or.inl ⟨by rfl, ?_⟩) ?_ ?_
  rotate_left
  · intro w'
    go_simp
    with_reducible rfl
  rotate_left
  · simp only [Act.put, List.setIfInBounds_toArray, List.set_cons_zero, List.set_cons_succ, i64_w, i32_w]
    rfl
  refine pure_ (i := 8) (N := some 75) (v := ?_) (a' := ?_) #[true, true, true, true, true, true, true, true, true, false, false, false, false, false, false, false, false, false, false, false, false, false, false, false, false, false, false, false, false, false, false, false, false, false, false, false, false, false, false, false, false, false, false, false] rfl rfl (by kernel_rfl) (fun _ _ _ h => h) (Or.inl ⟨by rfl, ?_⟩) ?_ ?_
  rotate_left
  · intro w'
    go_simp
    with_reducible rfl
  rotate_left
  · simp only [Act.put, List.setIfInBounds_toArray, List.set_cons_zero, List.set_cons_succ, i64_w, i32_w]
    rfl
  refine pure_ (i := 9) (N := some 76) (v := ?_) (a' := ?_) #[true, true, true, true, true, true, true, true, true, true, false, false, false, false, false, false, false, false, false, false, false, false, false, false, false, false, false, false, false, false, false, false, false, false, false, false, false, false, false, false, false, false, false, false] rfl rfl (by kernel_rfl) (fun _ _ _ h => h) (Or.inl ⟨by rfl, ?_⟩) ?_ ?_
  rotate_left
  · intro w'
    go_simp
    with_reducible rfl
  rotate_left
  · simp only [Act.put, List.setIfInBounds_toArray, List.set_cons_zero, List.set_cons_succ, i64_w, i32_w]
    rfl
  refine pure_ (i := 10) (N := some 77) (v := ?_) (a' := ?_) #[true, true, true, true, true, true, true, true, true, true, true, false, false, false, false, false, false, false, false, false, false, false, false, false, false, false, false, false, false, false, false, false, false, false, false, false, false, false, false, false, false, false, false, false] rfl rfl (by kernel_rfl) (fun _ _ _ h => h) (Or.inl ⟨by rfl, ?_⟩) ?_ ?_
  rotate_left
  · intro w'
    go_simp
    with_reducible rfl
  rotate_left
  · simp only [Act.put, List.setIfInBounds_toArray, List.set_cons_zero, List.set_cons_succ, i64_w, i32_w]
    rfl
  refine pure_ (i := 11) (N := some 78) (v := ?_) (a' := ?_) #[true, true, true, true, true, true, true, true, true, true, true, true, false, false, false, false, false, false, false, false, false, false, false, false, false, false, false, false, false, false, false, false, false, false, false, false, false, false, false, false, false, false, false, false] rfl rfl (by kernel_rfl) (fun _ _ _ h => h) (Or.inl ⟨by rfl, ?_⟩) ?_ ?_
  rotate_left
  · intro w'
    go_simp
    with_reducible rfl
  rotate_left
  · simp only [Act.put, List.setIfInBounds_toArray, List.set_cons_zero, List.set_cons_succ, i64_w, i32_w]
    rfl
  refine one_ (i := 12) (N := some 79) #[true, true, true, true, true, true, true, true, true, true, true, true, true, false, false, false, false, false, false, false, false, false, false, false, false, false, false, false, false, false, false, false, false, false, false, false, false, false, false, false, false, false, false, false] rfl rfl (by kernel_rfl) (by decide) (fun K hK => ?_)
  refine goes_ Try.func20 (by kernel_rfl) rfl #[.pointer (some ⟨g, 0, none⟩), .string ⟨#[97]⟩] (by rfl) rfl rfl (by simp only [List.map_toArray, List.map_cons, List.map_nil]; rfl) ?_
  with_reducible refine (reads_a (HSO.out.below (by first | exact HV.out | exact HV.out.drew))).mono ?_
  rintro e w12 ⟨rfl, hb⟩
  refine ⟨_, rfl, ?_⟩
  have n1_ := Aside0.mk (below_step (by first | exact HV.out | exact HV.out.drew) hb)
  clear HV hb
  have HV := n1_
  clear n1_
  refine hK.out _ _ ⟨((HV.out.cell (World.block_lt_of_cell? w11 _ q4)).trans q4), ((HV.out.cell (World.block_lt_of_cell? w11 _ qb)).trans qb), ((HV.out.cell (World.block_lt_of_cell? w11 _ qa)).trans qa)⟩ (fun hHeld => ?_)
  clear hK K
  refine norm_ (a' := ?_) ?_ ?_
  rotate_left
  · show Act.put _ (some 79) _ = _
    simp only [Act.put, List.setIfInBounds_toArray, List.set_cons_zero, List.set_cons_succ, i64_w, i32_w]
    rfl
  refine pure_ (i := 13) (N := some 80) (v := ?_) (a' := ?_) #[true, true, true, true, true, true, true, true, true, true, true, true, true, true, false, false, false, false, false, false, false, false, false, false, false, false, false, false, false, false, false, false, false, false, false, false, false, false, false, false, false, false, false, false] rfl rfl (by kernel_rfl) (fun _ _ _ h => h) (Or.inl ⟨by rfl, ?_⟩) ?_ ?_
  rotate_left
  · intro w'
    go_simp
    with_reducible rfl
  rotate_left
  · simp only [Act.put, List.setIfInBounds_toArray, List.set_cons_zero, List.set_cons_succ, i64_w, i32_w]
    rfl
  refine pure_ (i := 14) (N := some 81) (v := ?_) (a' := ?_) #[true, true, true, true, true, true, true, true, true, true, true, true, true, true, true, false, false, false, false, false, false, false, false, false, false, false, false, false, false, false, false, false, false, false, false, false, false, false, false, false, false, false, false, false] rfl rfl (by kernel_rfl) (fun _ _ _ h => h) (Or.inl ⟨by rfl, ?_⟩) ?_ ?_
  rotate_left
  · intro w'
    go_simp
    with_reducible rfl
  rotate_left
  · simp only [Act.put, List.setIfInBounds_toArray, List.set_cons_zero, List.set_cons_succ, i64_w, i32_w]
    rfl
  refine pure_ (i := 15) (N := some 82) (v := ?_) (a' := ?_) #[true, true, true, true, true, true, true, true, true, true, true, true, true, true, true, true, false, false, false, false, false, false, false, false, false, false, false, false, false, false, false, false, false, false, false, false, false, false, false, false, false, false, false, false] rfl rfl (by kernel_rfl) (fun _ _ _ h => h) (Or.inl ⟨by rfl, ?_⟩) ?_ ?_
  rotate_left
  · intro w'
    go_simp
    with_reducible rfl
  rotate_left
  · simp only [Act.put, List.setIfInBounds_toArray, List.set_cons_zero, List.set_cons_succ, i64_w, i32_w]
    rfl
  refine pure_ (i := 16) (N := some 83) (v := ?_) (a' := ?_) #[true, true, true, true, true, true, true, true, true, true, true, true, true, true, true, true, true, false, false, false, false, false, false, false, false, false, false, false, false, false, false, false, false, false, false, false, false, false, false, false, false, false, false, false] rfl rfl (by kernel_rfl) (fun _ _ _ h => h) (Or.inl ⟨by rfl, ?_⟩) ?_ ?_
  rotate_left
  · intro w'
    go_simp
    with_reducible rfl
  rotate_left
  · simp only [Act.put, List.setIfInBounds_toArray, List.set_cons_zero, List.set_cons_succ, i64_w, i32_w]
    rfl
  refine pure_ (i := 17) (N := some 84) (v := ?_) (a' := ?_) #[true, true, true, true, true, true, true, true, true, true, true, true, true, true, true, true, true, true, false, false, false, false, false, false, false, false, false, false, false, false, false, false, false, false, false, false, false, false, false, false, false, false, false, false] rfl rfl (by kernel_rfl) (fun _ _ _ h => h) (Or.inl ⟨by rfl, ?_⟩) ?_ ?_
  rotate_left
  · intro w'
    go_simp
    with_reducible rfl
  rotate_left
  · simp only [Act.put, List.setIfInBounds_toArray, List.set_cons_zero, List.set_cons_succ, i64_w, i32_w]
    rfl
  refine pure_ (i := 18) (N := some 85) (v := ?_) (a' := ?_) #[true, true, true, true, true, true, true, true, true, true, true, true, true, true, true, true, true, true, true, false, false, false, false, false, false, false, false, false, false, false, false, false, false, false, false, false, false, false, false, false, false, false, false, false] rfl rfl (by kernel_rfl) (fun _ _ _ h => h) (Or.inl ⟨by rfl, ?_⟩) ?_ ?_
  rotate_left
  · intro w'
    go_simp
    with_reducible rfl
  rotate_left
  · simp only [Act.put, List.setIfInBounds_toArray, List.set_cons_zero, List.set_cons_succ, i64_w, i32_w]
    rfl
  refine pure_ (i := 19) (N := some 86) (v := ?_) (a' := ?_) #[true, true, true, true, true, true, true, true, true, true, true, true, true, true, true, true, true, true, true, true, false, false, false, false, false, false, false, false, false, false, false, false, false, false, false, false, false, false, false, false, false, false, false, false] rfl rfl (by kernel_rfl) (fun _ _ _ h => h) (Or.inl ⟨by rfl, ?_⟩) ?_ ?_
  rotate_left
  · intro w'
    go_simp
    with_reducible rfl
  rotate_left
  · simp only [Act.put, List.setIfInBounds_toArray, List.set_cons_zero, List.set_cons_succ, i64_w, i32_w]
    rfl
  refine pure_ (i := 20) (N := some 87) (v := ?_) (a' := ?_) #[true, true, true, true, true, true, true, true, true, true, true, true, true, true, true, true, true, true, true, true, true, false, false, false, false, false, false, false, false, false, false, false, false, false, false, false, false, false, false, false, false, false, false, false] rfl rfl (by kernel_rfl) (fun _ _ _ h => h) (Or.inl ⟨by rfl, ?_⟩) ?_ ?_
  rotate_left
  · intro w'
    go_simp
    with_reducible rfl
  rotate_left
  · simp only [Act.put, List.setIfInBounds_toArray, List.set_cons_zero, List.set_cons_succ, i64_w, i32_w]
    rfl
  refine one_ (i := 21) (N := some 88) #[true, true, true, true, true, true, true, true, true, true, true, true, true, true, true, true, true, true, true, true, true, true, false, false, false, false, false, false, false, false, false, false, false, false, false, false, false, false, false, false, false, false, false, false] rfl rfl (by kernel_rfl) (by decide) (fun K hK => ?_)
  refine goes_ Try.func18 (by kernel_rfl) rfl #[.pointer (some ⟨g2, 0, none⟩)] (by rfl) rfl rfl (by simp only [List.map_toArray, List.map_cons, List.map_nil]; rfl) ?_
  with_reducible refine (len_2 (HSO2.out.below (by first | exact HV.out | exact HV.out.drew))).mono ?_
  rintro e w13 ⟨rfl, hb⟩
  refine ⟨_, rfl, ?_⟩
  have n1_ := Aside0.mk (below_step (by first | exact HV.out | exact HV.out.drew) hb)
  clear HV hb
  have HV := n1_
  clear n1_
  refine hK.out _ _ ⟨((HV.out.cell (World.block_lt_of_cell? w11 _ q4)).trans q4), ((HV.out.cell (World.block_lt_of_cell? w11 _ qb)).trans qb), ((HV.out.cell (World.block_lt_of_cell? w11 _ qa)).trans qa)⟩ (fun hHeld => ?_)
  clear hK K
  refine norm_ (a' := ?_) ?_ ?_
  rotate_left
  · show Act.put _ (some 88) _ = _
    simp only [Act.put, List.setIfInBounds_toArray, List.set_cons_zero, List.set_cons_succ, i64_w, i32_w]
    rfl
  refine pure_ (i := 22) (N := some 89) (v := ?_) (a' := ?_) #[true, true, true, true, true, true, true, true, true, true, true, true, true, true, true, true, true, true, true, true, true, true, true, false, false, false, false, false, false, false, false, false, false, false, false, false, false, false, false, false, false, false, false, false] rfl rfl (by kernel_rfl) (fun _ _ _ h => h) (Or.inl ⟨by rfl, ?_⟩) ?_ ?_
  rotate_left
  · intro w'
    go_simp
    with_reducible rfl
  rotate_left
  · simp only [Act.put, List.setIfInBounds_toArray, List.set_cons_zero, List.set_cons_succ, i64_w, i32_w]
    rfl
  refine pure_ (i := 23) (N := some 90) (v := ?_) (a' := ?_) #[true, true, true, true, true, true, true, true, true, true, true, true, true, true, true, true, true, true, true, true, true, true, true, true, false, false, false, false, false, false, false, false, false, false, false, false, false, false, false, false, false, false, false, false] rfl rfl (by kernel_rfl) (fun _ _ _ h => h) (Or.inl ⟨by rfl, ?_⟩) ?_ ?_
  rotate_left
  · intro w'
    go_simp
    with_reducible rfl
  rotate_left
  · simp only [Act.put, List.setIfInBounds_toArray, List.set_cons_zero, List.set_cons_succ, i64_w, i32_w]
    rfl
  refine pure_ (i := 24) (N := some 91) (v := ?_) (a' := ?_) #[true, true, true, true, true, true, true, true, true, true, true, true, true, true, true, true, true, true, true, true, true, true, true, true, true, false, false, false, false, false, false, false, false, false, false, false, false, false, false, false, false, false, false, false] rfl rfl (by kernel_rfl) (fun _ _ _ h => h) (Or.inl ⟨by rfl, ?_⟩) ?_ ?_
  rotate_left
  · intro w'
    go_simp
    with_reducible rfl
  rotate_left
  · simp only [Act.put, List.setIfInBounds_toArray, List.set_cons_zero, List.set_cons_succ, i64_w, i32_w]
    rfl
  refine pure_ (i := 25) (N := some 92) (v := ?_) (a' := ?_) #[true, true, true, true, true, true, true, true, true, true, true, true, true, true, true, true, true, true, true, true, true, true, true, true, true, true, false, false, false, false, false, false, false, false, false, false, false, false, false, false, false, false, false, false] rfl rfl (by kernel_rfl) (fun _ _ _ h => h) (Or.inl ⟨by rfl, ?_⟩) ?_ ?_
  rotate_left
  · intro w'
    go_simp
    with_reducible rfl
  rotate_left
  · simp only [Act.put, List.setIfInBounds_toArray, List.set_cons_zero, List.set_cons_succ, i64_w, i32_w]
    rfl
  refine pure_ (i := 26) (N := some 93) (v := ?_) (a' := ?_) #[true, true, true, true, true, true, true, true, true, true, true, true, true, true, true, true, true, true, true, true, true, true, true, true, true, true, true, false, false, false, false, false, false, false, false, false, false, false, false, false, false, false, false, false] rfl rfl (by kernel_rfl) (fun _ _ _ h => h) (Or.inl ⟨by rfl, ?_⟩) ?_ ?_
  rotate_left
  · intro w'
    go_simp
    with_reducible rfl
  rotate_left
  · simp only [Act.put, List.setIfInBounds_toArray, List.set_cons_zero, List.set_cons_succ, i64_w, i32_w]
    rfl
  refine pure_ (i := 27) (N := some 94) (v := ?_) (a' := ?_) #[true, true, true, true, true, true, true, true, true, true, true, true, true, true, true, true, true, true, true, true, true, true, true, true, true, true, true, true, false, false, false, false, false, false, false, false, false, false, false, false, false, false, false, false] rfl rfl (by kernel_rfl) (fun _ _ _ h => h) (Or.inl ⟨by rfl, ?_⟩) ?_ ?_
  rotate_left
  · intro w'
    go_simp
    with_reducible rfl
  rotate_left
  · simp only [Act.put, List.setIfInBounds_toArray, List.set_cons_zero, List.set_cons_succ, i64_w, i32_w]
    rfl
  refine pure_ (i := 28) (N := some 95) (v := ?_) (a' := ?_) #[true, true, true, true, true, true, true, true, true, true, true, true, true, true, true, true, true, true, true, true, true, true, true, true, true, true, true, true, true, false, false, false, false, false, false, false, false, false, false, false, false, false, false, false] rfl rfl (by kernel_rfl) (fun _ _ _ h => h) (Or.inl ⟨by rfl, ?_⟩) ?_ ?_
  rotate_left
  · intro w'
    go_simp
    with_reducible rfl
  rotate_left
  · simp only [Act.put, List.setIfInBounds_toArray, List.set_cons_zero, List.set_cons_succ, i64_w, i32_w]
    rfl
  refine pure_ (i := 29) (N := some 96) (v := ?_) (a' := ?_) #[true, true, true, true, true, true, true, true, true, true, true, true, true, true, true, true, true, true, true, true, true, true, true, true, true, true, true, true, true, true, false, false, false, false, false, false, false, false, false, false, false, false, false, false] rfl rfl (by kernel_rfl) (fun _ _ _ h => h) (Or.inl ⟨by rfl, ?_⟩) ?_ ?_
  rotate_left
  · intro w'
    go_simp
    with_reducible rfl
  rotate_left
  · simp only [Act.put, List.setIfInBounds_toArray, List.set_cons_zero, List.set_cons_succ, i64_w, i32_w]
    rfl
  refine pure_ (i := 30) (N := some 97) (v := ?_) (a' := ?_) #[true, true, true, true, true, true, true, true, true, true, true, true, true, true, true, true, true, true, true, true, true, true, true, true, true, true, true, true, true, true, true, false, false, false, false, false, false, false, false, false, false, false, false, false] rfl rfl (by kernel_rfl) (fun _ _ _ h => h) (Or.inl ⟨by rfl, ?_⟩) ?_ ?_
  rotate_left
  · intro w'
    go_simp
    with_reducible rfl
  rotate_left
  · simp only [Act.put, List.setIfInBounds_toArray, List.set_cons_zero, List.set_cons_succ, i64_w, i32_w]
    rfl
  refine pure_ (i := 31) (N := some 98) (v := ?_) (a' := ?_) #[true, true, true, true, true, true, true, true, true, true, true, true, true, true, true, true, true, true, true, true, true, true, true, true, true, true, true, true, true, true, true, true, false, false, false, false, false, false, false, false, false, false, false, false] rfl rfl (by kernel_rfl) (fun _ _ _ h => h) (Or.inl ⟨by rfl, ?_⟩) ?_ ?_
  rotate_left
  · intro w'
    go_simp
    with_reducible rfl
  rotate_left
  · simp only [Act.put, List.setIfInBounds_toArray, List.set_cons_zero, List.set_cons_succ, i64_w, i32_w]
    rfl
  refine pure_ (i := 32) (N := some 99) (v := ?_) (a' := ?_) #[true, true, true, true, true, true, true, true, true, true, true, true, true, true, true, true, true, true, true, true, true, true, true, true, true, true, true, true, true, true, true, true, true, false, false, false, false, false, false, false, false, false, false, false] rfl rfl (by kernel_rfl) (fun _ _ _ h => h) (Or.inl ⟨by rfl, ?_⟩) ?_ ?_
  rotate_left
  · intro w'
    go_simp
    with_reducible rfl
  rotate_left
  · simp only [Act.put, List.setIfInBounds_toArray, List.set_cons_zero, List.set_cons_succ, i64_w, i32_w]
    rfl
  refine pure_ (i := 33) (N := some 100) (v := ?_) (a' := ?_) #[true, true, true, true, true, true, true, true, true, true, true, true, true, true, true, true, true, true, true, true, true, true, true, true, true, true, true, true, true, true, true, true, true, true, false, false, false, false, false, false, false, false, false, false] rfl rfl (by kernel_rfl) (fun _ _ _ h => h) (Or.inl ⟨by rfl, ?_⟩) ?_ ?_
  rotate_left
  · intro w'
    go_simp
    with_reducible rfl
  rotate_left
  · simp only [Act.put, List.setIfInBounds_toArray, List.set_cons_zero, List.set_cons_succ, i64_w, i32_w]
    rfl
  refine pure_ (i := 34) (N := some 101) (v := ?_) (a' := ?_) #[true, true, true, true, true, true, true, true, true, true, true, true, true, true, true, true, true, true, true, true, true, true, true, true, true, true, true, true, true, true, true, true, true, true, true, false, false, false, false, false, false, false, false, false] rfl rfl (by kernel_rfl) (fun _ _ _ h => h) (Or.inl ⟨by rfl, ?_⟩) ?_ ?_
  rotate_left
  · intro w'
    go_simp
    with_reducible rfl
  rotate_left
  · simp only [Act.put, List.setIfInBounds_toArray, List.set_cons_zero, List.set_cons_succ, i64_w, i32_w]
    rfl
  refine pure_ (i := 35) (N := some 102) (v := ?_) (a' := ?_) #[true, true, true, true, true, true, true, true, true, true, true, true, true, true, true, true, true, true, true, true, true, true, true, true, true, true, true, true, true, true, true, true, true, true, true, true, false, false, false, false, false, false, false, false] rfl rfl (by kernel_rfl) (fun _ _ _ h => h) (Or.inl ⟨by rfl, ?_⟩) ?_ ?_
  rotate_left
  · intro w'
    go_simp
    with_reducible rfl
  rotate_left
  · simp only [Act.put, List.setIfInBounds_toArray, List.set_cons_zero, List.set_cons_succ, i64_w, i32_w]
    rfl
  refine pure_ (i := 37) (N := some 104) (v := ?_) (a' := ?_) #[true, true, true, true, true, true, true, true, true, true, true, true, true, true, true, true, true, true, true, true, true, true, true, true, true, true, true, true, true, true, true, true, true, true, true, true, false, true, false, false, false, false, false, false] rfl rfl (by kernel_rfl) (fun _ _ _ h => h) (Or.inl ⟨by rfl, ?_⟩) ?_ ?_
  rotate_left
  · intro w'
    go_simp
    with_reducible rfl
  rotate_left
  · simp only [Act.put, List.setIfInBounds_toArray, List.set_cons_zero, List.set_cons_succ, i64_w, i32_w]
    rfl
  refine pure_ (i := 38) (N := some 105) (v := ?_) (a' := ?_) #[true, true, true, true, true, true, true, true, true, true, true, true, true, true, true, true, true, true, true, true, true, true, true, true, true, true, true, true, true, true, true, true, true, true, true, true, false, true, true, false, false, false, false, false] rfl rfl (by kernel_rfl) (fun _ _ _ h => h) (Or.inl ⟨by rfl, ?_⟩) ?_ ?_
  rotate_left
  · intro w'
    go_simp
    with_reducible rfl
  rotate_left
  · simp only [Act.put, List.setIfInBounds_toArray, List.set_cons_zero, List.set_cons_succ, i64_w, i32_w]
    rfl
  refine pure_ (i := 39) (N := some 106) (v := ?_) (a' := ?_) #[true, true, true, true, true, true, true, true, true, true, true, true, true, true, true, true, true, true, true, true, true, true, true, true, true, true, true, true, true, true, true, true, true, true, true, true, false, true, true, true, false, false, false, false] rfl rfl (by kernel_rfl) (fun _ _ _ h => h) (Or.inl ⟨by rfl, ?_⟩) ?_ ?_
  rotate_left
  · intro w'
    go_simp
    with_reducible rfl
  rotate_left
  · simp only [Act.put, List.setIfInBounds_toArray, List.set_cons_zero, List.set_cons_succ, i64_w, i32_w]
    rfl
  refine take_ (i := 36) (N := some 103) (v := ?_) (a' := ?_) #[true, true, true, true, true, true, true, true, true, true, true, true, true, true, true, true, true, true, true, true, true, true, true, true, true, true, true, true, true, true, true, true, true, true, true, true, true, true, true, true, false, false, false, false] rfl rfl (by kernel_rfl) (fun _ _ _ h => h) (Or.inl ⟨by rfl, ?_⟩) hHeld ?_ ?_
  rotate_left
  · rintro w' ⟨s0, s1, s2⟩
    go_simp
    with_reducible rfl
  rotate_left
  · simp only [Act.put, List.setIfInBounds_toArray, List.set_cons_zero, List.set_cons_succ, i64_w, i32_w]
    rfl
  refine take_ (i := 40) (N := some 107) (v := ?_) (a' := ?_) #[true, true, true, true, true, true, true, true, true, true, true, true, true, true, true, true, true, true, true, true, true, true, true, true, true, true, true, true, true, true, true, true, true, true, true, true, true, true, true, true, true, false, false, false] rfl rfl (by kernel_rfl) (fun _ _ _ h => h) (Or.inl ⟨by rfl, ?_⟩) hHeld ?_ ?_
  rotate_left
  · rintro w' ⟨s0, s1, s2⟩
    go_simp
    with_reducible rfl
  rotate_left
  · simp only [Act.put, List.setIfInBounds_toArray, List.set_cons_zero, List.set_cons_succ, i64_w, i32_w]
    rfl
  refine one_ (i := 41) (N := some 108) #[true, true, true, true, true, true, true, true, true, true, true, true, true, true, true, true, true, true, true, true, true, true, true, true, true, true, true, true, true, true, true, true, true, true, true, true, true, true, true, true, true, true, false, false] rfl rfl (by kernel_rfl) (by decide) (fun K hK => ?_)
  refine goes_ Try.func15 (by kernel_rfl) rfl #[.string kB, .string kA] (by rfl) rfl rfl (by simp only [List.map_toArray, List.map_cons, List.map_nil]; rfl) ?_
  with_reducible refine (less_ba _).mono ?_
  rintro e w14 ⟨rfl, hb⟩
  refine ⟨_, rfl, ?_⟩
  have n1_ := Aside0.mk (below_step (by first | exact HV.out | exact HV.out.drew) hb)
  clear HV hb
  have HV := n1_
  clear n1_
  refine hK.out _ _ ⟨((HV.out.cell (World.block_lt_of_cell? w11 _ q4)).trans q4), ((HV.out.cell (World.block_lt_of_cell? w11 _ qb)).trans qb), ((HV.out.cell (World.block_lt_of_cell? w11 _ qa)).trans qa)⟩ (fun hHeld => ?_)
  clear hK K
  refine norm_ (a' := ?_) ?_ ?_
  rotate_left
  · show Act.put _ (some 108) _ = _
    simp only [Act.put, List.setIfInBounds_toArray, List.set_cons_zero, List.set_cons_succ, i64_w, i32_w]
    rfl
  refine pure_ (i := 42) (N := some 109) (v := ?_) (a' := ?_) #[true, true, true, true, true, true, true, true, true, true, true, true, true, true, true, true, true, true, true, true, true, true, true, true, true, true, true, true, true, true, true, true, true, true, true, true, true, true, true, true, true, true, true, false] rfl rfl (by kernel_rfl) (fun _ _ _ h => h) (Or.inl ⟨by rfl, ?_⟩) ?_ ?_
  rotate_left
  · intro w'
    go_simp
    with_reducible rfl
  rotate_left
  · simp only [Act.put, List.setIfInBounds_toArray, List.set_cons_zero, List.set_cons_succ, i64_w, i32_w]
    rfl
  refine pure_ (i := 43) (N := some 0) (v := ?_) (a' := ?_) #[true, true, true, true, true, true, true, true, true, true, true, true, true, true, true, true, true, true, true, true, true, true, true, true, true, true, true, true, true, true, true, true, true, true, true, true, true, true, true, true, true, true, true, true] rfl rfl (by kernel_rfl) (fun _ _ _ h => h) (Or.inl ⟨by rfl, ?_⟩) ?_ ?_
  rotate_left
  · intro w'
    go_simp
    with_reducible rfl
  rotate_left
  · simp only [Act.put, List.setIfInBounds_toArray, List.set_cons_zero, List.set_cons_succ, i64_w, i32_w]
    rfl
  refine done_ (by kernel_rfl) ?_
  go_wp2
  go_ret
  exact ⟨rfl, below_step HB2.out HV.out⟩
end Go.Proofs.Ytkhcmddeeodbkaa.GL
namespace Go.Proofs.Ytkhcmddeeodbkaa.GR
open Go.RowKit Go.Proofs.YtkhcmddeeodbkaaW.PrintWords Go.Proofs.YtkhcmddeeodbkaaW.PrintLast Go.Proofs.YtkhcmddeeodbkaaW.PrintMore
def pre (n k : Nat) : Array Bool := (List.replicate k true ++ List.replicate (n - k) false).toArray
section
variable {P : Program} {ops : Array Oper} {Q : Exit → Act → World → Prop} {md : Region.Mode} {S : World → Prop} {ds : List Nat}
theorem start_p {id n : Nat} {a : Act} {w : World} (hm : P.follows .mixedOrders = true) (hn : ops.size = n) (hS : S w.drew) (h : S w.drew → wpAnyLast P .any ops Q S ds n (pre n 0) a w.drew) : (Code.region id ops true).wp P Q a w :=
  start_ (pre n 0) hm hn (by unfold pre; rw [List.replicate_zero, List.nil_append, Nat.sub_zero, List.toArray_replicate]) hS h
theorem take_p {n k : Nat} {oi : Oper} {N : Option Tmp} {v : Value} {fuel : Nat} {a : Act} {w : World} (hi : ops[k]? = some oi) (hN : oi.dst = N) (hc : takeB md ops ds (pre n k) (pre n (k + 1)) k = true)
    (hQ : ∀ c a w, Q (.panic c) (a.put oi.dst v) w → Q (.panic c) a w) (hw : Region.wanted oi (yielded ops a.tmps) = true) (hy : ∀ w', S w' → (execOp a.eval oi).run P w' = .ok (.value v) w') (hS : S w) {a' : Act} (ha : a.put N v = a')
    (h : wpAnyLast P md ops Q S ds fuel (pre n (k + 1)) a' w) : wpAnyLast P md ops Q S ds (fuel + 1) (pre n k) a w :=
  take_ (pre n (k + 1)) hi hN hc hQ (Or.inl ⟨hw, hy⟩) hS ha h
theorem pure_p {n k : Nat} {oi : Oper} {N : Option Tmp} {v : Value} {fuel : Nat} {a : Act} {w : World} (hi : ops[k]? = some oi) (hN : oi.dst = N) (hc : anyB md ops (pre n k) (pre n (k + 1)) k = true)
    (hQ : ∀ c a w, Q (.panic c) (a.put oi.dst v) w → Q (.panic c) a w) (hw : Region.wanted oi (yielded ops a.tmps) = true) (hy : ∀ w', (execOp a.eval oi).run P w' = .ok (.value v) w') {a' : Act} (ha : a.put N v = a')
    (h : wpAnyLast P md ops Q S ds fuel (pre n (k + 1)) a' w) : wpAnyLast P md ops Q S ds (fuel + 1) (pre n k) a w :=
  pure_ (pre n (k + 1)) hi hN hc hQ (Or.inl ⟨hw, hy⟩) ha h
theorem off_p {n k : Nat} {oi : Oper} {N : Option Tmp} {fuel : Nat} {a : Act} {w : World} (hi : ops[k]? = some oi) (hN : oi.dst = N) (hc : anyB md ops (pre n k) (pre n (k + 1)) k = true)
    (hQ : ∀ c a w, Q (.panic c) (a.put oi.dst undef) w → Q (.panic c) a w) (hw : Region.wanted oi (yielded ops a.tmps) = false) {a' : Act} (ha : a.put N undef = a')
    (h : wpAnyLast P md ops Q S ds fuel (pre n (k + 1)) a' w) : wpAnyLast P md ops Q S ds (fuel + 1) (pre n k) a w :=
  pure_ (pre n (k + 1)) hi hN hc hQ (Or.inr ⟨hw, rfl⟩) ha h
theorem one_p {n k : Nat} {oi : Oper} {N : Option Tmp} {fuel : Nat} {a : Act} {w : World} (hi : ops[k]? = some oi) (hN : oi.dst = N) (hc : readyB md ops (pre n k) (pre n (k + 1)) k = true) (hd : k ∉ ds)
    (h : ∀ K : Act → World → Prop, Shut (∀ a' w', S w' → (S w' → wpAnyLast P md ops Q S ds fuel (pre n (k + 1)) a' w') → K a' w') → if Region.wanted oi (yielded ops a.tmps) = true then Oper.wp P oi a w K Q else K (a.put N undef) w) :
    wpAnyLast P md ops Q S ds (fuel + 1) (pre n k) a w := one_ (pre n (k + 1)) hi hN hc hd h
end
end Go.Proofs.Ytkhcmddeeodbkaa.GR
