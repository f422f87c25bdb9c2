import Derived.Test.YtkhcmddeeodbkaaZSortedAll18
-- Own texts and, of the words that the kit's print program wrote for this claim, those that are needed here: put together by wip/prune.py.
set_option linter.unusedSimpArgs false
set_option linter.unusedVariables false
namespace Go.Proofs.Ytkhcmddeeodbkaa.GL
open Go.RowKit Go.Proofs.YtkhcmddeeodbkaaW.PrintWords Go.Proofs.YtkhcmddeeodbkaaW.PrintLast Go.Proofs.YtkhcmddeeodbkaaW.PrintMore Go.Proofs.Ytkhcmddeeodbkaa.Q Go.Proofs.Ytkhcmddeeodbkaa.XSor Go.Proofs.Ytkhcmddeeodbkaa.G
theorem cellP {W : World} {g : Nat} {x : Pr} (h : W.heap[g]? = some (.cells (pr4 x) 30 (0, 0))) : W.cell? ⟨g, 0, none⟩ = some (.string x.f0) ∧ W.cell? ⟨g, 1, none⟩ = some (.int .i64 x.f1.f0) ∧ W.cell? ⟨g, 2, none⟩ = some (.int .i64 x.f1.f1) ∧ W.cell? ⟨g, 3, none⟩ = some (.string x.f1.f2) := ⟨(blk_cell h 0).trans rfl, (blk_cell h 1).trans rfl, (blk_cell h 2).trans rfl, (blk_cell h 3).trans rfl⟩
theorem lit1 {k : IntKind} (W : World) (base : Nat) (x : Int) : Reps ((Kd.int k).M W base (fun _ => True)) (Kd.int k).sz [x] [.int k x] := by
 refine ⟨rfl, fun j p hj => ?_⟩
 rcases j with _ | j
 · obtain rfl : x = p := by simpa using hj
   exact rfl
 · simp at hj
theorem blk_over {α : Type} {d : Kd α} {e b g : Nat} {t : TypeId} {ok : Nat → Prop} {W w1 : World} {v : Value} {xs : List α} {cs : Array Value} (h : W.heap[g]? = some (.cells cs t (0, 0))) (hv : d.R e W b ok v xs) (hne : t ≠ e) (hg : W.grownBy w1 v.ownBlock) : w1.heap[g]? = some (.cells cs t (0, 0)) := by
 refine blk_grown h hg (fun he => ?_)
 obtain ⟨inner, ho⟩ := Kd.R_own hv
 obtain ⟨cells, hc⟩ := own_typed ho g he.symm
 rw [hc] at h
 injection h with h
 injection h with _ h
 exact hne h.symm
def SNewPost (w : World) (L : List Pr) (e : Ending) (w' : World) : Prop :=
 Below w.heap.size w w' ∧ ((MayP L ∧ ∃ g, e = .returned (.tuple #[.pointer (some ⟨g, 0, none⟩), .int .i64 0]) ∧ SO w' g L) ∨ (¬ MayP L ∧ e = .returned (.tuple #[.pointer none, .int .i64 1])))
theorem take_i {L : List Pr} {i : Nat} (h : i < L.length) : L.take (i + 1) = L.take i ++ [rd_T30 L (i : Int)] := by
 have e : rd_T30 L (i : Int) = L[i] := by simp [rd_T30, h]
 rw [List.take_succ_eq_append_getElem h, e]
theorem sort_take {L : List Pr} {i : Nat} (hl : L.length ≤ 1000) (hi : i ≤ L.length) (h : ∀ j, j < i → good L j) : SortH (L.take i) := by
 refine MayP.sortH ⟨by rw [List.length_take]; omega, fun j hj => ?_⟩
 rw [List.length_take] at hj
 obtain ⟨h1, h2, h3⟩ := h j (by omega)
 refine ⟨by rw [List.length_take]; exact hj, ?_, fun h0 => ?_⟩
 · rw [List.getElem_take]; exact h2
 · rw [List.getElem_take, List.getElem_take]; exact h3 h0
theorem R_set {α : Type} {d : Kd α} {e base gs : Nat} {t : TypeId} {ok : Nat → Prop} {W : World} {v : Value} {xs : List α} {cs : Array Value} (h : d.R e W base ok v xs) (hb : W.heap[gs]? = some (.cells cs t (0, 0))) (ht : ∀ q, q ∈ e :: d.E → q ≠ t) (i : Nat) (u : Value) : d.R e (W.setCell ⟨gs, i, none⟩ u) base ok v xs := by
 refine Kd.R_mono (Kd.R_far (p := ⟨gs, i, none⟩) (Kd.R_mono (Kd.R_bound h) (fun k hk => (show ok k ∧ k ≠ gs from ⟨hk.1, ?_⟩))) (fun _ h => h.2) u) (fun _ h => h.1)
 rintro rfl
 obtain ⟨q, hq, cells, hc⟩ := hk.2.2.2
 rw [hb] at hc
 injection hc with hc
 injection hc with _ hc
 exact ht q hq hc.symm
theorem BO.set {base p gs : Nat} {t : TypeId} {W : World} {L : List Bool} {cs : Array Value} (h : BO base W p L) (hb : W.heap[gs]? = some (.cells cs t (0, 0))) (h5 : 5 ≠ t) (h35 : 101 ≠ t) (i : Nat) (u : Value) : BO base (W.setCell ⟨gs, i, none⟩ u) p L := by
 obtain ⟨vb, h1, h2, h3⟩ := h
 exact ⟨vb, blk_far h1 (blk_ne h1 hb h35) _, h2, R_set h3 hb (by intro q hq; (rcases List.mem_cons.1 hq with rfl | h); exact h5; cases h) _ _⟩
set_option maxRecDepth 1000000 in
set_option maxHeartbeats 8000000 in
theorem st_New {w : World} {A : Option Addr} {n c : Nat} {L : List Pr} (hn : n = L.length) (hC : Kd.C k30 w A n L) (hc : n ≤ c) (hk : ∀ p ∈ L, p.f0.size < 17592186044416 ∧ p.f1.f2.size < 17592186044416) :
    Calls Try.prog 13 #[.slice A n c] w (SNewPost w L) := by
 have HN := Aside0.mk hn
 have HK := Aside0.mk hk
 have HB := Aside0.mk (Below.refl w.heap.size w)
 by_cases hlen : 1000 < n
 · have hd : decide ((1000 : Int) < (n : Int)) = true := decide_eq_true (by omega)
   have hd2 : decide (1000 < n) = true := decide_eq_true hlen
   have HBAD := Aside0.mk (show ¬ MayP L from fun hM => by have := hM.1; omega)
   clear hn hC hc hk hlen
   go_enter Try.func13, Try.ntmps13
   go_wp2
   go_ret2
   exact ⟨HB.out, .inr ⟨HBAD.out, rfl⟩⟩
 have hd : decide ((1000 : Int) < (n : Int)) = false := decide_eq_false (by omega)
 have hd2 : decide (1000 < n) = false := decide_eq_false hlen
 have HNL := Aside0.mk (show n ≤ 1000 by omega)
 have hnz : (n : Int) ≤ 1000 := by omega
 have HC := Aside0.mk hC
 have HCC := Aside0.mk hc
 clear hn hC hc hk hlen
 go_enter Try.func13, Try.ntmps13
 go_wp2_with (first
  | (go_at_call 29; refine (clone_p HN.out HC.out HCC.out (by have := HNL.out; omega)).mono ?_; rintro e w1 ⟨v1, rfl, hR, hb⟩; obtain ⟨A1, c1, e1, hn1, hC1⟩ := Kd.R_reads hR; rw [← HN.out] at e1 hn1; subst e1; have HCL := Aside0.mk hR; have HC1 := Aside0.mk hn1; clear hn1 hC1; have n1_ := Aside0.mk (below_step HB.out hb); clear HB hR hb; have HB := n1_; clear n1_)
  | ((with_reducible refine gate_dst (N := 14) rfl ?_); refine box_event ?hg (N := 14) ?hd (cs := #[.slice A1 n c1, .slice none 0 0, .slice none 0 0, .pointer none]) (t := 64) ?hr ?_; (case hd => rfl); (case hg => rfl); (case hr => first | (go_simp; done) | (go_simp; rfl)); intro gs hg w2 hbox hb; have GS := Aside0.mk (show w.heap.size ≤ gs by rw [hg]; exact HB.out.size); have BS := Aside0.mk hbox; have n1_ := Aside0.mk (below_step HB.out hb); have n2_ := Aside0.mk (Kd.R_below HCL.out hb); clear HB HCL hbox hg hb; have HB := n1_; have HCL := n2_; clear n1_ n2_))
 go_loopw [17] (fun v17 wr => ∃ (i : Nat) (Ah : Option Addr) (ch : Nat) (Aa : Option Addr) (ca : Nat), v17 = .int .i64 i ∧ i ≤ n ∧ Aside0 (∀ j, j < i → good L j) ∧ Aside0 (Kd.R (Kd.int .u64) 67 wr w.heap.size (fun _ => True) (.slice Ah (hsL (L.take i)).length ch) (hsL (L.take i))) ∧ Aside0 (Kd.R (Kd.int .i64) 3 wr w.heap.size (fun _ => True) (.slice Aa (hsL (L.take i)).length ca) (atL (L.take i))) ∧ Aside0 (Kd.R k30 30 wr w.heap.size (fun _ => True) (.slice A1 n c1) L) ∧ Aside0 (Below w.heap.size w wr) ∧ Aside0 (wr.heap[gs]? = some (.cells #[.slice A1 n c1, .slice Ah (hsL (L.take i)).length ch, .slice Aa (hsL (L.take i)).length ca, .pointer none] 64 (0, 0)))) (fun v _ => n - (intOf v).toNat)
 case atStart => exact ⟨0, none, 0, none, 0, by first | rfl | go_num, Nat.zero_le _, ⟨fun j hj => by omega⟩, ⟨Kd.R_nil _ _ _ _ _⟩, ⟨Kd.R_nil _ _ _ _ _⟩, HCL, HB, BS⟩
 case round =>
  clear HCL HB BS
  obtain ⟨i, Ah, ch, Aa, ca, rfl, hi, HG, HV, HA, HCL, HB, BS⟩ := hrel
  obtain ⟨HS, hHS⟩ : ∃ S, S = hsL (L.take i) := ⟨_, rfl⟩
  obtain ⟨AT, hAT⟩ : ∃ S, S = atL (L.take i) := ⟨_, rfl⟩
  obtain ⟨m, hm⟩ : ∃ m, m = HS.length := ⟨_, rfl⟩
  rw [← hHS, ← hm] at HV BS
  rw [← hAT, ← hHS, ← hm] at HA
  have HHS := Aside0.mk hHS
  have HAT := Aside0.mk hAT
  have HM := Aside0.mk hm
  have HML := Aside0.mk (show m ≤ 1000 ∧ HS.length ≤ 1000 ∧ AT.length ≤ 1000 by
   have h1 := hsL_len_le (L.take i)
   have h2 := HNL.out
   rw [List.length_take] at h1
   rw [hm, hHS, hAT, atL_len]
   omega)
  have hmz : (m : Int) ≤ 1000 := by have := HML.out.1; omega
  clear hHS hAT hm
  by_cases hlt : i < n
  · have HLT := Aside0.mk hlt
    have hltz : (i : Int) < (L.length : Int) := by rw [← HN.out]; omega
    have hltz2 : (i : Int) < (n : Int) := by omega
    have hl1 : decide ((i : Int) < (n : Int)) = true := decide_eq_true (by omega)
    have hl2 := decide_eq_true hlt
    obtain ⟨ad, e, h0, h1, h2, h3⟩ := at_T30 (by have := HC.out; rw [HN.out] at this; exact this) (i : Int) (Int.natCast_nonneg _) hltz
    cases e
    simp only [Int.toNat_natCast] at h0 h1 h2 h3
    replace h0 := (HB.out.cell (World.block_lt_of_cell? w _ h0)).trans h0
    replace h1 := (HB.out.cell (World.block_lt_of_cell? w _ h1)).trans h1
    replace h2 := (HB.out.cell (World.block_lt_of_cell? w _ h2)).trans h2
    replace h3 := (HB.out.cell (World.block_lt_of_cell? w _ h3)).trans h3
    have hLi : rd_T30 L (i : Int) = L[i]'(by rw [← HN.out]; exact HLT.out) := by simp [rd_T30, ← HN.out, hlt]
    have HTK := Aside0.mk (take_i (L := L) (i := i) (by rw [← HN.out]; exact hlt))
    obtain ⟨x, hx⟩ : ∃ x, x = rd_T30 L (i : Int) := ⟨_, rfl⟩
    rw [← hx] at h0 h1 h2 h3 hLi HTK
    have HLI := Aside0.mk hLi
    have hkx := HK.out x (by rw [hLi]; exact List.getElem_mem _)
    have HRC := Aside0.mk (show sorted_rec.f x.f0 x.f1.f0 x.f1.f1 x.f1.f2 = some (x.f0, false, x.f1.f0, x.f1.f1, x.f1.f2) from rfl)
    obtain ⟨kM, hkM⟩ := (record_May_ev (recP x) hkx.2).rounds
    have HKM := Aside0.mk (show record_May.f kM x.f0 false x.f1.f0 x.f1.f1 x.f1.f2 = some (okP x) from hkM)
    obtain ⟨kH, hkH⟩ := (hash_ev hkx.1).rounds
    obtain ⟨X, hX⟩ : ∃ X, X = H x.f0 := ⟨_, rfl⟩
    rw [← hX] at hkH
    have HKH := Aside0.mk hkH
    have HXX := Aside0.mk hX
    have HKX := Aside0.mk hkx.1
    have HW := Aside0.mk (Below.refl wr.heap.size wr)
    clear hx hLi hkx hkM hkH hX hltz hlt hi
    go_upto_region 7 with (first
     | ((with_reducible refine gate_dst (N := 6) rfl ?_); refine box_event ?hg (N := 6) ?hd (cs := pr4 ⟨⟨#[]⟩, ⟨0, 0, ⟨#[]⟩⟩⟩) (t := 30) ?hr ?_; (case hd => rfl); (case hg => rfl); (case hr => first | (go_simp; done) | (go_simp; rfl)); intro g6 hg w7 hbox hb; have G6 := Aside0.mk (show wr.heap.size ≤ g6 by omega); have B6 := Aside0.mk hbox; have n1_ := Aside0.mk (show Below wr.heap.size wr w7 from hb); clear HW h0 h1 h2 h3 hbox hg hb; have HW := n1_; clear n1_; have hs0 : w7.cell? ⟨g6, 0, none⟩ = some (.string ⟨#[]⟩) := (blk_cell B6.out 0).trans rfl; have hs1 : w7.cell? ⟨g6, 1, none⟩ = some (.int .i64 0) := (blk_cell B6.out 1).trans rfl; have hs2 : w7.cell? ⟨g6, 2, none⟩ = some (.int .i64 0) := (blk_cell B6.out 2).trans rfl; have hs3 : w7.cell? ⟨g6, 3, none⟩ = some (.string ⟨#[]⟩) := (blk_cell B6.out 3).trans rfl; have hf0 := blk_frozen B6.out 0; have hf1 := blk_frozen B6.out 1; have hf2 := blk_frozen B6.out 2; have hf3 := blk_frozen B6.out 3)
     | ((with_reducible refine gate_store (t := 30) (p := 6) rfl ?_); refine store_event (t := 30) (p := 6) (v := ?vo1) (w1 := ((((w7.setCell ⟨g6, 0, none⟩ (.string x.f0)).setCell ⟨g6, 1, none⟩ (.int .i64 x.f1.f0)).setCell ⟨g6, 2, none⟩ (.int .i64 x.f1.f1)).setCell ⟨g6, 3, none⟩ (.string x.f1.f2))) ?hg ?ho ?hn ?hr ?_; (case ho => rfl); (case hg => rfl); (case hn => rfl); (case hr => first | (go_simp; done) | (go_simp; rfl)); intro w8 hw; have n1_ : Aside0 (Below wr.heap.size wr w8) := ⟨by rw [hw]; exact bel4 HW.out G6.out⟩; have n3_ : Aside0 (w8.heap[g6]? = some (.cells (pr4 x) 30 (0, 0))) := ⟨by rw [hw]; exact put4 B6.out⟩; clear HW B6 hs0 hs1 hs2 hs3 hf0 hf1 hf2 hf3 hw; have HW := n1_; have B6 := n3_; clear n1_ n3_))
    go_cut [6, 41] (fun v6 v41 wx => ∃ bb : Bool, v6 = .pointer (some ⟨g6, 0, none⟩) ∧ v41 = .bool bb ∧ (bb = false ↔ good L i) ∧ Below wr.heap.size wr wx ∧ wx.heap[g6]? = some (.cells (pr4 x) 30 (0, 0)))
    case first =>
     by_cases hok : okP x = true
     · rw [hok] at HKM
       by_cases hi0 : i = 0
       · have hz : decide ((0 : Int) < (i : Int)) = false := decide_eq_false (by omega)
         have hz2 : decide (0 < i) = false := decide_eq_false (by omega)
         have HGI := Aside0.mk (show good L i from ⟨by rw [← HN.out]; exact HLT.out, by rw [← HLI.out]; exact hok, fun h => by omega⟩)
         clear hi0 hok
         refine GR.start_p (n := 20) (S := fun w' => w'.cell? ⟨g6, 0, none⟩ = some (.string x.f0) ∧ w'.cell? ⟨g6, 1, none⟩ = some (.int .i64 x.f1.f0) ∧ w'.cell? ⟨g6, 2, none⟩ = some (.int .i64 x.f1.f1) ∧ w'.cell? ⟨g6, 3, none⟩ = some (.string x.f1.f2)) (ds := []) (by kernel_rfl) rfl ⟨(cellP (W := w8.drew) B6.out).1, (cellP (W := w8.drew) B6.out).2.1, (cellP (W := w8.drew) B6.out).2.2.1, (cellP (W := w8.drew) B6.out).2.2.2⟩ (fun hHeld => ?_)
         repeat (first
          | (refine GR.off_p (a' := ?_) (by simp only [List.getElem?_toArray, List.getElem?_cons_succ, List.getElem?_cons_zero] <;> rfl) (by first | (dsimp only; done) | (dsimp only; rfl) | rfl) (by kernel_rfl) (by exact fun _ _ _ h => h) (by rfl) ?_ ?_; rotate_left; (simp only [Act.put, List.setIfInBounds_toArray, List.set_cons_zero, List.set_cons_succ, i64_w, i32_w]; rfl))
          | (refine GR.pure_p (v := ?_) (a' := ?_) (by simp only [List.getElem?_toArray, List.getElem?_cons_succ, List.getElem?_cons_zero] <;> rfl) (by first | (dsimp only; done) | (dsimp only; rfl) | rfl) (by kernel_rfl) (by exact fun _ _ _ h => h) (by rfl) ?_ ?_ ?_; rotate_left; (intro w'; go_simp; with_reducible rfl); rotate_left; (simp only [Act.put, List.setIfInBounds_toArray, List.set_cons_zero, List.set_cons_succ, i64_w, i32_w]; rfl))
          | (refine GR.take_p (v := ?_) (a' := ?_) (by simp only [List.getElem?_toArray, List.getElem?_cons_succ, List.getElem?_cons_zero] <;> rfl) (by first | (dsimp only; done) | (dsimp only; rfl) | rfl) (by kernel_rfl) (by exact fun _ _ _ h => h) (by rfl) ?_ hHeld ?_ ?_; rotate_left; (rintro w' ⟨s0, s1, s2, s3⟩; go_simp; with_reducible rfl); rotate_left; (simp only [Act.put, List.setIfInBounds_toArray, List.set_cons_zero, List.set_cons_succ, i64_w, i32_w]; rfl))
          | (refine GR.one_p (by simp only [List.getElem?_toArray, List.getElem?_cons_succ, List.getElem?_cons_zero] <;> rfl) (by first | (dsimp only; done) | (dsimp only; rfl) | rfl) (by kernel_rfl) (by decide) (fun K hK => ?_); (first
         | (refine goes_ Try.func31 (by kernel_rfl) rfl #[.agg #[.string x.f0, .int .i64 x.f1.f0, .int .i64 x.f1.f1, .string x.f1.f2]] (by rfl) rfl rfl (by simp only [List.map_toArray, List.map_cons, List.map_nil]; rfl) ?_; (with_reducible refine (sorted_rec.calls x.f0 x.f1.f0 x.f1.f1 x.f1.f2 x.f0 false x.f1.f0 x.f1.f1 x.f1.f2 _ HRC.out).mono ?_); rintro e w9 ⟨rfl, hb⟩; refine ⟨_, rfl, ?_⟩; have n1_ := Aside0.mk (below_step (by first | exact HW.out | exact HW.out.drew) hb); have n2_ := Aside0.mk (blk_below (by first | exact B6.out | exact B6.out) hb); clear HW B6 hb; have HW := n1_; have B6 := n2_; clear n1_ n2_)
         | (refine goes_ Try.func30 (by kernel_rfl) rfl #[.agg #[.string x.f0, .bool false, .int .i64 x.f1.f0, .int .i64 x.f1.f1, .string x.f1.f2]] (by rfl) rfl rfl (by simp only [List.map_toArray, List.map_cons, List.map_nil]; rfl) ?_; (with_reducible refine (record_May.calls kM x.f0 false x.f1.f0 x.f1.f1 x.f1.f2 _ _ HKM.out).mono ?_); rintro e w9 ⟨rfl, hb⟩; refine ⟨_, rfl, ?_⟩; have n1_ := Aside0.mk (below_step (by first | exact HW.out | exact HW.out.drew) hb); have n2_ := Aside0.mk (blk_below (by first | exact B6.out | exact B6.out) hb); clear HW B6 hb; have HW := n1_; have B6 := n2_; clear n1_ n2_)
         | (refine goes_ Try.func15 (by kernel_rfl) rfl #[.string y.f0, .string x.f0] (by rfl) rfl rfl (by simp only [List.map_toArray, List.map_cons, List.map_nil]; rfl) ?_; (with_reducible refine (sorted_Less.calls kL y.f0 x.f0 _ _ HKL.out).mono ?_); rintro e w9 ⟨rfl, hb⟩; refine ⟨_, rfl, ?_⟩; have n1_ := Aside0.mk (below_step (by first | exact HW.out | exact HW.out.drew) hb); have n2_ := Aside0.mk (blk_below (by first | exact B6.out | exact B6.out) hb); clear HW B6 hb; have HW := n1_; have B6 := n2_; clear n1_ n2_)
             ); (refine hK.out _ _ (by first | exact ⟨(cellP  B6.out).1, (cellP  B6.out).2.1, (cellP  B6.out).2.2.1, (cellP  B6.out).2.2.2⟩ | exact ⟨(cellP (W := w8.drew) B6.out).1, (cellP (W := w8.drew) B6.out).2.1, (cellP (W := w8.drew) B6.out).2.2.1, (cellP (W := w8.drew) B6.out).2.2.2⟩) (fun hHeld => ?_)); clear hK K; refine norm_ (a' := ?_) ?_ ?_; rotate_left; (show Act.put _ _ _ = _; simp only [Act.put, List.setIfInBounds_toArray, List.set_cons_zero, List.set_cons_succ, i64_w, i32_w]; rfl)))
         refine done_ (by kernel_rfl) ?_
         go_wp2_with fail
         go_meet
         exact ⟨false, rfl, rfl, ⟨fun _ => HGI.out, fun _ => rfl⟩, HW.out, B6.out⟩
       · obtain ⟨i1, hi1⟩ : ∃ i1, i1 + 1 = i := ⟨i - 1, by omega⟩
         have hz : decide ((0 : Int) < (i : Int)) = true := decide_eq_true (by omega)
         have hz2 : decide (0 < i) = true := decide_eq_true (by omega)
         have hwr : IntKind.i64.wrap ((i : Int) - 1) = (i1 : Int) := by rw [i64_w, w64 (by omega) (by omega)]; omega
         have hi1z : (i1 : Int) < (n : Int) := by omega
         have hi10 : (0 : Int) ≤ (i1 : Int) := by omega
         have hi1L : i1 < L.length := by rw [← HN.out]; have := HLT.out; omega
         obtain ⟨ad', e', hy0, _, _, _⟩ := at_T30 (by have := HC.out; rw [HN.out] at this; exact this) (i1 : Int) (Int.natCast_nonneg _) (by rw [← HN.out]; exact hi1z)
         obtain rfl : ad = ad' := Option.some.inj e'
         simp only [Int.toNat_natCast] at hy0
         replace hy0 := (HB.out.cell (World.block_lt_of_cell? w _ hy0)).trans hy0
         obtain ⟨y, hy⟩ : ∃ y, y = rd_T30 L (i1 : Int) := ⟨_, rfl⟩
         rw [← hy] at hy0
         have hLi1 : y = L[i1] := by rw [hy]; simp [rd_T30, hi1L]
         have HLY := Aside0.mk hLi1
         have HI1 := Aside0.mk hi1
         obtain ⟨kL, hkL⟩ := (less_ev (a := y.f0) (b := x.f0) (HK.out y (by rw [hLi1]; exact List.getElem_mem _)).1 HKX.out).rounds
         have HKL := Aside0.mk hkL
         have HOK := Aside0.mk hok
         have hgood : good L i ↔ ltK y.f0 x.f0 = true := by
          constructor
          · rintro ⟨h1, h2, h3⟩
            have := h3 (by omega)
            rw [hLi1, HLI.out]
            have e : i - 1 = i1 := by omega
            subst e
            exact this
          · intro h
            refine ⟨by rw [← HN.out]; exact HLT.out, by rw [← HLI.out]; exact hok, fun _ => ?_⟩
            rw [hLi1, HLI.out] at h
            have e : i - 1 = i1 := by omega
            subst e
            exact h
         clear hi0 hok hi1 hy hLi1 hkL e'
         cases hlt : ltK y.f0 x.f0 with
         | true =>
           rw [hlt] at HKL
           have HGI := Aside0.mk (hgood.2 hlt)
           clear hgood hlt
           refine GR.start_p (n := 20) (S := fun w' => w'.cell? ⟨g6, 0, none⟩ = some (.string x.f0) ∧ w'.cell? ⟨g6, 1, none⟩ = some (.int .i64 x.f1.f0) ∧ w'.cell? ⟨g6, 2, none⟩ = some (.int .i64 x.f1.f1) ∧ w'.cell? ⟨g6, 3, none⟩ = some (.string x.f1.f2) ∧ w'.cell? (ad.add (i1 * 4)) = some (.string y.f0)) (ds := []) (by kernel_rfl) rfl ⟨(cellP (W := w8.drew) B6.out).1, (cellP (W := w8.drew) B6.out).2.1, (cellP (W := w8.drew) B6.out).2.2.1, (cellP (W := w8.drew) B6.out).2.2.2, ((HW.out.drew.cell (World.block_lt_of_cell? wr _ hy0)).trans hy0)⟩ (fun hHeld => ?_)
           repeat (first
            | (refine GR.off_p (a' := ?_) (by simp only [List.getElem?_toArray, List.getElem?_cons_succ, List.getElem?_cons_zero] <;> rfl) (by first | (dsimp only; done) | (dsimp only; rfl) | rfl) (by kernel_rfl) (by exact fun _ _ _ h => h) (by rfl) ?_ ?_; rotate_left; (simp only [Act.put, List.setIfInBounds_toArray, List.set_cons_zero, List.set_cons_succ, i64_w, i32_w]; rfl))
            | (refine GR.pure_p (v := ?_) (a' := ?_) (by simp only [List.getElem?_toArray, List.getElem?_cons_succ, List.getElem?_cons_zero] <;> rfl) (by first | (dsimp only; done) | (dsimp only; rfl) | rfl) (by kernel_rfl) (by exact fun _ _ _ h => h) (by rfl) ?_ ?_ ?_; rotate_left; (intro w'; go_simp; with_reducible rfl); rotate_left; (simp only [Act.put, List.setIfInBounds_toArray, List.set_cons_zero, List.set_cons_succ, i64_w, i32_w]; rfl))
            | (refine GR.take_p (v := ?_) (a' := ?_) (by simp only [List.getElem?_toArray, List.getElem?_cons_succ, List.getElem?_cons_zero] <;> rfl) (by first | (dsimp only; done) | (dsimp only; rfl) | rfl) (by kernel_rfl) (by exact fun _ _ _ h => h) (by rfl) ?_ hHeld ?_ ?_; rotate_left; (rintro w' ⟨s0, s1, s2, s3, s4⟩; go_simp; with_reducible rfl); rotate_left; (simp only [Act.put, List.setIfInBounds_toArray, List.set_cons_zero, List.set_cons_succ, i64_w, i32_w]; rfl))
            | (refine GR.one_p (by simp only [List.getElem?_toArray, List.getElem?_cons_succ, List.getElem?_cons_zero] <;> rfl) (by first | (dsimp only; done) | (dsimp only; rfl) | rfl) (by kernel_rfl) (by decide) (fun K hK => ?_); (first
           | (refine goes_ Try.func31 (by kernel_rfl) rfl #[.agg #[.string x.f0, .int .i64 x.f1.f0, .int .i64 x.f1.f1, .string x.f1.f2]] (by rfl) rfl rfl (by simp only [List.map_toArray, List.map_cons, List.map_nil]; rfl) ?_; (with_reducible refine (sorted_rec.calls x.f0 x.f1.f0 x.f1.f1 x.f1.f2 x.f0 false x.f1.f0 x.f1.f1 x.f1.f2 _ HRC.out).mono ?_); rintro e w9 ⟨rfl, hb⟩; refine ⟨_, rfl, ?_⟩; have n1_ := Aside0.mk (below_step (by first | exact HW.out | exact HW.out.drew) hb); have n2_ := Aside0.mk (blk_below (by first | exact B6.out | exact B6.out) hb); clear HW B6 hb; have HW := n1_; have B6 := n2_; clear n1_ n2_)
           | (refine goes_ Try.func30 (by kernel_rfl) rfl #[.agg #[.string x.f0, .bool false, .int .i64 x.f1.f0, .int .i64 x.f1.f1, .string x.f1.f2]] (by rfl) rfl rfl (by simp only [List.map_toArray, List.map_cons, List.map_nil]; rfl) ?_; (with_reducible refine (record_May.calls kM x.f0 false x.f1.f0 x.f1.f1 x.f1.f2 _ _ HKM.out).mono ?_); rintro e w9 ⟨rfl, hb⟩; refine ⟨_, rfl, ?_⟩; have n1_ := Aside0.mk (below_step (by first | exact HW.out | exact HW.out.drew) hb); have n2_ := Aside0.mk (blk_below (by first | exact B6.out | exact B6.out) hb); clear HW B6 hb; have HW := n1_; have B6 := n2_; clear n1_ n2_)
           | (refine goes_ Try.func15 (by kernel_rfl) rfl #[.string y.f0, .string x.f0] (by rfl) rfl rfl (by simp only [List.map_toArray, List.map_cons, List.map_nil]; rfl) ?_; (with_reducible refine (sorted_Less.calls kL y.f0 x.f0 _ _ HKL.out).mono ?_); rintro e w9 ⟨rfl, hb⟩; refine ⟨_, rfl, ?_⟩; have n1_ := Aside0.mk (below_step (by first | exact HW.out | exact HW.out.drew) hb); have n2_ := Aside0.mk (blk_below (by first | exact B6.out | exact B6.out) hb); clear HW B6 hb; have HW := n1_; have B6 := n2_; clear n1_ n2_)
               ); (refine hK.out _ _ (by first | exact ⟨(cellP  B6.out).1, (cellP  B6.out).2.1, (cellP  B6.out).2.2.1, (cellP  B6.out).2.2.2, ((HW.out.cell (World.block_lt_of_cell? wr _ hy0)).trans hy0)⟩ | exact ⟨(cellP (W := w8.drew) B6.out).1, (cellP (W := w8.drew) B6.out).2.1, (cellP (W := w8.drew) B6.out).2.2.1, (cellP (W := w8.drew) B6.out).2.2.2, ((HW.out.drew.cell (World.block_lt_of_cell? wr _ hy0)).trans hy0)⟩) (fun hHeld => ?_)); clear hK K; refine norm_ (a' := ?_) ?_ ?_; rotate_left; (show Act.put _ _ _ = _; simp only [Act.put, List.setIfInBounds_toArray, List.set_cons_zero, List.set_cons_succ, i64_w, i32_w]; rfl)))
           refine done_ (by kernel_rfl) ?_
           go_wp2_with fail
           go_meet
           exact ⟨false, rfl, rfl, ⟨fun _ => HGI.out, fun _ => rfl⟩, HW.out, B6.out⟩
         | false =>
           rw [hlt] at HKL
           have HNG := Aside0.mk (show ¬ good L i from fun h => by rw [hgood.1 h] at hlt; cases hlt)
           clear hgood hlt
           refine GR.start_p (n := 20) (S := fun w' => w'.cell? ⟨g6, 0, none⟩ = some (.string x.f0) ∧ w'.cell? ⟨g6, 1, none⟩ = some (.int .i64 x.f1.f0) ∧ w'.cell? ⟨g6, 2, none⟩ = some (.int .i64 x.f1.f1) ∧ w'.cell? ⟨g6, 3, none⟩ = some (.string x.f1.f2) ∧ w'.cell? (ad.add (i1 * 4)) = some (.string y.f0)) (ds := []) (by kernel_rfl) rfl ⟨(cellP (W := w8.drew) B6.out).1, (cellP (W := w8.drew) B6.out).2.1, (cellP (W := w8.drew) B6.out).2.2.1, (cellP (W := w8.drew) B6.out).2.2.2, ((HW.out.drew.cell (World.block_lt_of_cell? wr _ hy0)).trans hy0)⟩ (fun hHeld => ?_)
           repeat (first
            | (refine GR.off_p (a' := ?_) (by simp only [List.getElem?_toArray, List.getElem?_cons_succ, List.getElem?_cons_zero] <;> rfl) (by first | (dsimp only; done) | (dsimp only; rfl) | rfl) (by kernel_rfl) (by exact fun _ _ _ h => h) (by rfl) ?_ ?_; rotate_left; (simp only [Act.put, List.setIfInBounds_toArray, List.set_cons_zero, List.set_cons_succ, i64_w, i32_w]; rfl))
            | (refine GR.pure_p (v := ?_) (a' := ?_) (by simp only [List.getElem?_toArray, List.getElem?_cons_succ, List.getElem?_cons_zero] <;> rfl) (by first | (dsimp only; done) | (dsimp only; rfl) | rfl) (by kernel_rfl) (by exact fun _ _ _ h => h) (by rfl) ?_ ?_ ?_; rotate_left; (intro w'; go_simp; with_reducible rfl); rotate_left; (simp only [Act.put, List.setIfInBounds_toArray, List.set_cons_zero, List.set_cons_succ, i64_w, i32_w]; rfl))
            | (refine GR.take_p (v := ?_) (a' := ?_) (by simp only [List.getElem?_toArray, List.getElem?_cons_succ, List.getElem?_cons_zero] <;> rfl) (by first | (dsimp only; done) | (dsimp only; rfl) | rfl) (by kernel_rfl) (by exact fun _ _ _ h => h) (by rfl) ?_ hHeld ?_ ?_; rotate_left; (rintro w' ⟨s0, s1, s2, s3, s4⟩; go_simp; with_reducible rfl); rotate_left; (simp only [Act.put, List.setIfInBounds_toArray, List.set_cons_zero, List.set_cons_succ, i64_w, i32_w]; rfl))
            | (refine GR.one_p (by simp only [List.getElem?_toArray, List.getElem?_cons_succ, List.getElem?_cons_zero] <;> rfl) (by first | (dsimp only; done) | (dsimp only; rfl) | rfl) (by kernel_rfl) (by decide) (fun K hK => ?_); (first
           | (refine goes_ Try.func31 (by kernel_rfl) rfl #[.agg #[.string x.f0, .int .i64 x.f1.f0, .int .i64 x.f1.f1, .string x.f1.f2]] (by rfl) rfl rfl (by simp only [List.map_toArray, List.map_cons, List.map_nil]; rfl) ?_; (with_reducible refine (sorted_rec.calls x.f0 x.f1.f0 x.f1.f1 x.f1.f2 x.f0 false x.f1.f0 x.f1.f1 x.f1.f2 _ HRC.out).mono ?_); rintro e w9 ⟨rfl, hb⟩; refine ⟨_, rfl, ?_⟩; have n1_ := Aside0.mk (below_step (by first | exact HW.out | exact HW.out.drew) hb); have n2_ := Aside0.mk (blk_below (by first | exact B6.out | exact B6.out) hb); clear HW B6 hb; have HW := n1_; have B6 := n2_; clear n1_ n2_)
           | (refine goes_ Try.func30 (by kernel_rfl) rfl #[.agg #[.string x.f0, .bool false, .int .i64 x.f1.f0, .int .i64 x.f1.f1, .string x.f1.f2]] (by rfl) rfl rfl (by simp only [List.map_toArray, List.map_cons, List.map_nil]; rfl) ?_; (with_reducible refine (record_May.calls kM x.f0 false x.f1.f0 x.f1.f1 x.f1.f2 _ _ HKM.out).mono ?_); rintro e w9 ⟨rfl, hb⟩; refine ⟨_, rfl, ?_⟩; have n1_ := Aside0.mk (below_step (by first | exact HW.out | exact HW.out.drew) hb); have n2_ := Aside0.mk (blk_below (by first | exact B6.out | exact B6.out) hb); clear HW B6 hb; have HW := n1_; have B6 := n2_; clear n1_ n2_)
           | (refine goes_ Try.func15 (by kernel_rfl) rfl #[.string y.f0, .string x.f0] (by rfl) rfl rfl (by simp only [List.map_toArray, List.map_cons, List.map_nil]; rfl) ?_; (with_reducible refine (sorted_Less.calls kL y.f0 x.f0 _ _ HKL.out).mono ?_); rintro e w9 ⟨rfl, hb⟩; refine ⟨_, rfl, ?_⟩; have n1_ := Aside0.mk (below_step (by first | exact HW.out | exact HW.out.drew) hb); have n2_ := Aside0.mk (blk_below (by first | exact B6.out | exact B6.out) hb); clear HW B6 hb; have HW := n1_; have B6 := n2_; clear n1_ n2_)
               ); (refine hK.out _ _ (by first | exact ⟨(cellP  B6.out).1, (cellP  B6.out).2.1, (cellP  B6.out).2.2.1, (cellP  B6.out).2.2.2, ((HW.out.cell (World.block_lt_of_cell? wr _ hy0)).trans hy0)⟩ | exact ⟨(cellP (W := w8.drew) B6.out).1, (cellP (W := w8.drew) B6.out).2.1, (cellP (W := w8.drew) B6.out).2.2.1, (cellP (W := w8.drew) B6.out).2.2.2, ((HW.out.drew.cell (World.block_lt_of_cell? wr _ hy0)).trans hy0)⟩) (fun hHeld => ?_)); clear hK K; refine norm_ (a' := ?_) ?_ ?_; rotate_left; (show Act.put _ _ _ = _; simp only [Act.put, List.setIfInBounds_toArray, List.set_cons_zero, List.set_cons_succ, i64_w, i32_w]; rfl)))
           refine done_ (by kernel_rfl) ?_
           go_wp2_with fail
           go_meet
           exact ⟨true, rfl, rfl, ⟨fun h => (by exact absurd h.symm Bool.false_ne_true), fun h => absurd h HNG.out⟩, HW.out, B6.out⟩
     · have HNG := Aside0.mk (show ¬ good L i from fun ⟨_, h, _⟩ => hok (by rw [HLI.out]; exact h))
       rw [Bool.eq_false_iff.2 hok] at HKM
       clear hok
       refine GR.start_p (n := 20) (S := fun w' => w'.cell? ⟨g6, 0, none⟩ = some (.string x.f0) ∧ w'.cell? ⟨g6, 1, none⟩ = some (.int .i64 x.f1.f0) ∧ w'.cell? ⟨g6, 2, none⟩ = some (.int .i64 x.f1.f1) ∧ w'.cell? ⟨g6, 3, none⟩ = some (.string x.f1.f2)) (ds := []) (by kernel_rfl) rfl ⟨(cellP (W := w8.drew) B6.out).1, (cellP (W := w8.drew) B6.out).2.1, (cellP (W := w8.drew) B6.out).2.2.1, (cellP (W := w8.drew) B6.out).2.2.2⟩ (fun hHeld => ?_)
       repeat (first
        | (refine GR.off_p (a' := ?_) (by simp only [List.getElem?_toArray, List.getElem?_cons_succ, List.getElem?_cons_zero] <;> rfl) (by first | (dsimp only; done) | (dsimp only; rfl) | rfl) (by kernel_rfl) (by exact fun _ _ _ h => h) (by rfl) ?_ ?_; rotate_left; (simp only [Act.put, List.setIfInBounds_toArray, List.set_cons_zero, List.set_cons_succ, i64_w, i32_w]; rfl))
        | (refine GR.pure_p (v := ?_) (a' := ?_) (by simp only [List.getElem?_toArray, List.getElem?_cons_succ, List.getElem?_cons_zero] <;> rfl) (by first | (dsimp only; done) | (dsimp only; rfl) | rfl) (by kernel_rfl) (by exact fun _ _ _ h => h) (by rfl) ?_ ?_ ?_; rotate_left; (intro w'; go_simp; with_reducible rfl); rotate_left; (simp only [Act.put, List.setIfInBounds_toArray, List.set_cons_zero, List.set_cons_succ, i64_w, i32_w]; rfl))
        | (refine GR.take_p (v := ?_) (a' := ?_) (by simp only [List.getElem?_toArray, List.getElem?_cons_succ, List.getElem?_cons_zero] <;> rfl) (by first | (dsimp only; done) | (dsimp only; rfl) | rfl) (by kernel_rfl) (by exact fun _ _ _ h => h) (by rfl) ?_ hHeld ?_ ?_; rotate_left; (rintro w' ⟨s0, s1, s2, s3⟩; go_simp; with_reducible rfl); rotate_left; (simp only [Act.put, List.setIfInBounds_toArray, List.set_cons_zero, List.set_cons_succ, i64_w, i32_w]; rfl))
        | (refine GR.one_p (by simp only [List.getElem?_toArray, List.getElem?_cons_succ, List.getElem?_cons_zero] <;> rfl) (by first | (dsimp only; done) | (dsimp only; rfl) | rfl) (by kernel_rfl) (by decide) (fun K hK => ?_); (first
       | (refine goes_ Try.func31 (by kernel_rfl) rfl #[.agg #[.string x.f0, .int .i64 x.f1.f0, .int .i64 x.f1.f1, .string x.f1.f2]] (by rfl) rfl rfl (by simp only [List.map_toArray, List.map_cons, List.map_nil]; rfl) ?_; (with_reducible refine (sorted_rec.calls x.f0 x.f1.f0 x.f1.f1 x.f1.f2 x.f0 false x.f1.f0 x.f1.f1 x.f1.f2 _ HRC.out).mono ?_); rintro e w9 ⟨rfl, hb⟩; refine ⟨_, rfl, ?_⟩; have n1_ := Aside0.mk (below_step (by first | exact HW.out | exact HW.out.drew) hb); have n2_ := Aside0.mk (blk_below (by first | exact B6.out | exact B6.out) hb); clear HW B6 hb; have HW := n1_; have B6 := n2_; clear n1_ n2_)
       | (refine goes_ Try.func30 (by kernel_rfl) rfl #[.agg #[.string x.f0, .bool false, .int .i64 x.f1.f0, .int .i64 x.f1.f1, .string x.f1.f2]] (by rfl) rfl rfl (by simp only [List.map_toArray, List.map_cons, List.map_nil]; rfl) ?_; (with_reducible refine (record_May.calls kM x.f0 false x.f1.f0 x.f1.f1 x.f1.f2 _ _ HKM.out).mono ?_); rintro e w9 ⟨rfl, hb⟩; refine ⟨_, rfl, ?_⟩; have n1_ := Aside0.mk (below_step (by first | exact HW.out | exact HW.out.drew) hb); have n2_ := Aside0.mk (blk_below (by first | exact B6.out | exact B6.out) hb); clear HW B6 hb; have HW := n1_; have B6 := n2_; clear n1_ n2_)
       | (refine goes_ Try.func15 (by kernel_rfl) rfl #[.string y.f0, .string x.f0] (by rfl) rfl rfl (by simp only [List.map_toArray, List.map_cons, List.map_nil]; rfl) ?_; (with_reducible refine (sorted_Less.calls kL y.f0 x.f0 _ _ HKL.out).mono ?_); rintro e w9 ⟨rfl, hb⟩; refine ⟨_, rfl, ?_⟩; have n1_ := Aside0.mk (below_step (by first | exact HW.out | exact HW.out.drew) hb); have n2_ := Aside0.mk (blk_below (by first | exact B6.out | exact B6.out) hb); clear HW B6 hb; have HW := n1_; have B6 := n2_; clear n1_ n2_)
           ); (refine hK.out _ _ (by first | exact ⟨(cellP  B6.out).1, (cellP  B6.out).2.1, (cellP  B6.out).2.2.1, (cellP  B6.out).2.2.2⟩ | exact ⟨(cellP (W := w8.drew) B6.out).1, (cellP (W := w8.drew) B6.out).2.1, (cellP (W := w8.drew) B6.out).2.2.1, (cellP (W := w8.drew) B6.out).2.2.2⟩) (fun hHeld => ?_)); clear hK K; refine norm_ (a' := ?_) ?_ ?_; rotate_left; (show Act.put _ _ _ = _; simp only [Act.put, List.setIfInBounds_toArray, List.set_cons_zero, List.set_cons_succ, i64_w, i32_w]; rfl)))
       refine done_ (by kernel_rfl) ?_
       go_wp2_with fail
       go_meet
       exact ⟨true, rfl, rfl, ⟨fun h => (by exact absurd h.symm Bool.false_ne_true), fun h => absurd h HNG.out⟩, HW.out, B6.out⟩
    case rest =>
     obtain ⟨bb, rfl, rfl, hbb, hbw, hb6⟩ := hcut
     clear HW B6
     have HW := Aside0.mk hbw
     have B6 := Aside0.mk hb6
     clear hbw hb6
     have hx0 : wc.cell? ⟨g6, 0, none⟩ = some (.string x.f0) := (blk_cell B6.out 0).trans rfl
     cases bb with
     | true =>
       have HNG := Aside0.mk (show ¬ good L i from fun h => absurd (hbb.2 h) (fun e => Bool.false_ne_true e.symm))
       clear hbb
       have HBAD := Aside0.mk (show ¬ MayP L from fun hM => HNG.out (hM.2 i (by rw [← HN.out]; exact HLT.out)))
       go_wp2
       go_ret2
       exact ⟨below_step HB.out HW.out, .inr ⟨HBAD.out, rfl⟩⟩
     | false =>
       have HGI := Aside0.mk (hbb.1 rfl)
       clear hbb
       have n1_ := Aside0.mk (below_step HB.out HW.out); have n2_ := Aside0.mk (Kd.R_below HV.out HW.out); have n3_ := Aside0.mk (Kd.R_below HA.out HW.out); have n5_ := Aside0.mk (Kd.R_below HCL.out HW.out); have n6_ := Aside0.mk (blk_below BS.out HW.out); clear HB HV HA HCL BS; have HB := n1_; have HV := n2_; have HA := n3_; have HCL := n5_; have BS := n6_; clear n1_ n2_ n3_ n5_ n6_
       clear HW B6
       have HG2 := Aside0.mk (show ∀ j, j < i + 1 → good L j from fun j hj => by rcases Nat.lt_or_eq_of_le (Nat.le_of_lt_succ hj) with h | h; exact HG.out j h; rw [h]; exact HGI.out)
       have HST := Aside0.mk (sort_take (i := i + 1) (by rw [← HN.out]; exact HNL.out) (by rw [← HN.out]; exact HLT.out) HG2.out)
       go_upto_region 10 with (first
        | (go_at_call 32; (with_reducible refine (hash_Of.calls kH x.f0 X _ HKH.out).mono ?_); rintro e w12 ⟨rfl, hb⟩; have n1_ := Aside0.mk (below_step HB.out hb); have n2_ := Aside0.mk (Kd.R_below HV.out hb); have n3_ := Aside0.mk (Kd.R_below HA.out hb); have n5_ := Aside0.mk (Kd.R_below HCL.out hb); have n6_ := Aside0.mk (blk_below BS.out hb); clear HB HV HA HCL BS; have HB := n1_; have HV := n2_; have HA := n3_; have HCL := n5_; have BS := n6_; clear n1_ n2_ n3_ n5_ n6_; clear hb)
        | (fail))
       have hq1 : w12.cell? ⟨gs, 1, none⟩ = some (.slice Ah m ch) := (blk_cell BS.out 1).trans rfl
       go_cut [66] (fun v66 wx => ∃ (bb : Bool) (nq : Nat), v66 = .bool bb ∧ (bb = true ↔ ¬ HS.getLast? = some X) ∧ wx = w12.drewN nq)
       case first =>
        by_cases hm0 : m = 0
        · have e0 : ((m : Int) == 0) = true := by rw [hm0]; rfl
          have e0n : (m == 0) = true := by rw [hm0]; rfl
          have HLAST := Aside0.mk (show ¬ HS.getLast? = some X by rw [List.eq_nil_of_length_eq_zero (show HS.length = 0 by rw [← HM.out]; exact hm0)]; intro h; cases h)
          clear hm0
          go_wp2
          go_quiet (fail)
          rename_i nq
          go_wp2_with fail
          go_meet
          exact ⟨true, nq, rfl, ⟨fun _ => HLAST.out, fun _ => rfl⟩, rfl⟩
        · obtain ⟨mm, hmm⟩ : ∃ a, a + 1 = m := ⟨m - 1, by omega⟩
          have e0 : ((m : Int) == 0) = false := beq_eq_false_iff_ne.mpr (by omega)
          have e0n : (m == 0) = false := beq_eq_false_iff_ne.mpr (by omega)
          have hmmz : (mm : Int) < (m : Int) := by omega
          have hmm0 : (0 : Int) ≤ (mm : Int) := by omega
          have hwr : IntKind.i64.wrap ((m : Int) - 1) = (mm : Int) := by rw [i64_w, w64 (by omega) (by omega)]; omega
          obtain ⟨adh, e, hz⟩ := Kd.at_int (Kd.R_reads' HV.out).2.2 (mm : Int) (Int.natCast_nonneg _) (by rw [← HM.out]; exact hmmz)
          cases e
          rw [Int.toNat_natCast] at hz
          have hzz : HS.getLast? = some (rd HS (mm : Int)) := by
           rw [List.getLast?_eq_getElem?, ← HM.out, ← hmm]
           show HS[mm]? = _
           rw [List.getElem?_eq_getElem (by rw [← HM.out]; omega)]
           unfold rd
           rw [Int.toNat_natCast, List.getD_eq_getElem?_getD, List.getElem?_eq_getElem (by rw [← HM.out]; omega)]
           rfl
          obtain ⟨z, hze⟩ : ∃ z, z = rd HS (mm : Int) := ⟨_, rfl⟩
          rw [← hze] at hz hzz
          by_cases hzx : z = X
          · have hne : (z != X) = false := by rw [hzx]; simp
            have HLAST := Aside0.mk (show HS.getLast? = some X by rw [hzz, hzx])
            clear hm0 hmm hze hzz hzx
            go_wp2
            go_quiet (fail)
            rename_i nq
            go_wp2_with fail
            go_meet
            exact ⟨false, nq, rfl, ⟨fun h => by (exact absurd h Bool.false_ne_true), fun h => absurd HLAST.out h⟩, rfl⟩
          · have hne : (z != X) = true := by simp [hzx]
            have HLAST := Aside0.mk (show ¬ HS.getLast? = some X by rw [hzz]; intro h; exact hzx (Option.some.inj h))
            clear hm0 hmm hze hzz hzx
            go_wp2
            go_quiet (fail)
            rename_i nq
            go_wp2_with fail
            go_meet
            exact ⟨true, nq, rfl, ⟨fun _ => HLAST.out, fun _ => rfl⟩, rfl⟩
       case rest =>
        obtain ⟨bb, nq, rfl, hbb, hw13⟩ := hcut
        obtain ⟨w13, hw⟩ : ∃ W, W = wc := ⟨_, rfl⟩
        subst hw
        have hD := pw_below_drewN (Below.refl w12.heap.size w12) nq
        rw [← hw13] at hD
        have n1_ := Aside0.mk (below_step HB.out hD); have n2_ := Aside0.mk (Kd.R_below HV.out hD); have n3_ := Aside0.mk (Kd.R_below HA.out hD); have n5_ := Aside0.mk (Kd.R_below HCL.out hD); have n6_ := Aside0.mk (blk_below BS.out hD); clear HB HV HA HCL BS; have HB := n1_; have HV := n2_; have HA := n3_; have HCL := n5_; have BS := n6_; clear n1_ n2_ n3_ n5_ n6_
        clear hD hq1 hw13
        cases bb with
        | true =>
          have HLAST := Aside0.mk (hbb.1 rfl)
          clear hbb
          go_wp2
          refine start_ (n := 22) (S := fun w' => w'.cell? ⟨gs, 1, none⟩ = some (.slice Ah m ch) ∧ w'.cell? ⟨gs, 2, none⟩ = some (.slice Aa m ca)) (ds := [18, 21]) #[false, false, false, false, false, false, false, false, false, false, false, false, false, false, false, false, false, false, false, false, false, false] (by kernel_rfl) rfl rfl ⟨(show w13.drew.cell? ⟨gs, 1, none⟩ = _ from (blk_cell (w := w13.drew) BS.out 1).trans rfl), (show w13.drew.cell? ⟨gs, 2, none⟩ = _ from (blk_cell (w := w13.drew) BS.out 2).trans rfl)⟩ (fun hHeld => ?_)
          refine pure_ (i := 0) (N := some 67) (v := ?_) (a' := ?_) #[true, false, false, false, false, false, false, false, false, false, false, false, false, false, false, false, false, false, false, false, false, false] rfl rfl (by kernel_rfl) (fun _ _ _ h => h) (Or.inl ⟨by rfl, ?_⟩) ?_ ?_
          rotate_left
          · intro w'
            go_simp
            with_reducible rfl
          rotate_left
          · simp only [Act.put, List.setIfInBounds_toArray, List.set_cons_zero, List.set_cons_succ, i64_w, i32_w]
            rfl
          refine pure_ (i := 1) (N := some 68) (v := ?_) (a' := ?_) #[true, true, false, false, false, false, false, false, false, false, false, false, false, false, false, false, false, false, false, false, false, false] rfl rfl (by kernel_rfl) (fun _ _ _ h => h) (Or.inl ⟨by rfl, ?_⟩) ?_ ?_
          rotate_left
          · intro w'
            go_simp
            with_reducible rfl
          rotate_left
          · simp only [Act.put, List.setIfInBounds_toArray, List.set_cons_zero, List.set_cons_succ, i64_w, i32_w]
            rfl
          refine pure_ (i := 2) (N := some 69) (v := ?_) (a' := ?_) #[true, true, true, false, false, false, false, false, false, false, false, false, false, false, false, false, false, false, false, false, false, false] rfl rfl (by kernel_rfl) (fun _ _ _ h => h) (Or.inl ⟨by rfl, ?_⟩) ?_ ?_
          rotate_left
          · intro w'
            go_simp
            with_reducible rfl
          rotate_left
          · simp only [Act.put, List.setIfInBounds_toArray, List.set_cons_zero, List.set_cons_succ, i64_w, i32_w]
            rfl
          refine pure_ (i := 3) (N := some 70) (v := ?_) (a' := ?_) #[true, true, true, true, false, false, false, false, false, false, false, false, false, false, false, false, false, false, false, false, false, false] rfl rfl (by kernel_rfl) (fun _ _ _ h => h) (Or.inl ⟨by rfl, ?_⟩) ?_ ?_
          rotate_left
          · intro w'
            go_simp
            with_reducible rfl
          rotate_left
          · simp only [Act.put, List.setIfInBounds_toArray, List.set_cons_zero, List.set_cons_succ, i64_w, i32_w]
            rfl
          refine pure_ (i := 4) (N := some 71) (v := ?_) (a' := ?_) #[true, true, true, true, true, false, false, false, false, false, false, false, false, false, false, false, false, false, false, false, false, false] rfl rfl (by kernel_rfl) (fun _ _ _ h => h) (Or.inl ⟨by rfl, ?_⟩) ?_ ?_
          rotate_left
          · intro w'
            go_simp
            with_reducible rfl
          rotate_left
          · simp only [Act.put, List.setIfInBounds_toArray, List.set_cons_zero, List.set_cons_succ, i64_w, i32_w]
            rfl
          refine pure_ (i := 6) (N := some 73) (v := ?_) (a' := ?_) #[true, true, true, true, true, false, true, false, false, false, false, false, false, false, false, false, false, false, false, false, false, false] rfl rfl (by kernel_rfl) (fun _ _ _ h => h) (Or.inl ⟨by rfl, ?_⟩) ?_ ?_
          rotate_left
          · intro w'
            go_simp
            with_reducible rfl
          rotate_left
          · simp only [Act.put, List.setIfInBounds_toArray, List.set_cons_zero, List.set_cons_succ, i64_w, i32_w]
            rfl
          refine pure_ (i := 9) (N := some 76) (v := ?_) (a' := ?_) #[true, true, true, true, true, false, true, false, false, true, false, false, false, false, false, false, false, false, false, false, false, false] rfl rfl (by kernel_rfl) (fun _ _ _ h => h) (Or.inl ⟨by rfl, ?_⟩) ?_ ?_
          rotate_left
          · intro w'
            go_simp
            with_reducible rfl
          rotate_left
          · simp only [Act.put, List.setIfInBounds_toArray, List.set_cons_zero, List.set_cons_succ, i64_w, i32_w]
            rfl
          refine pure_ (i := 10) (N := some 77) (v := ?_) (a' := ?_) #[true, true, true, true, true, false, true, false, false, true, true, false, false, false, false, false, false, false, false, false, false, false] rfl rfl (by kernel_rfl) (fun _ _ _ h => h) (Or.inl ⟨by rfl, ?_⟩) ?_ ?_
          rotate_left
          · intro w'
            go_simp
            with_reducible rfl
          rotate_left
          · simp only [Act.put, List.setIfInBounds_toArray, List.set_cons_zero, List.set_cons_succ, i64_w, i32_w]
            rfl
          refine pure_ (i := 11) (N := some 78) (v := ?_) (a' := ?_) #[true, true, true, true, true, false, true, false, false, true, true, true, false, false, false, false, false, false, false, false, false, false] rfl rfl (by kernel_rfl) (fun _ _ _ h => h) (Or.inl ⟨by rfl, ?_⟩) ?_ ?_
          rotate_left
          · intro w'
            go_simp
            with_reducible rfl
          rotate_left
          · simp only [Act.put, List.setIfInBounds_toArray, List.set_cons_zero, List.set_cons_succ, i64_w, i32_w]
            rfl
          refine pure_ (i := 13) (N := some 80) (v := ?_) (a' := ?_) #[true, true, true, true, true, false, true, false, false, true, true, true, false, true, false, false, false, false, false, false, false, false] rfl rfl (by kernel_rfl) (fun _ _ _ h => h) (Or.inl ⟨by rfl, ?_⟩) ?_ ?_
          rotate_left
          · intro w'
            go_simp
            with_reducible rfl
          rotate_left
          · simp only [Act.put, List.setIfInBounds_toArray, List.set_cons_zero, List.set_cons_succ, i64_w, i32_w]
            rfl
          refine take_ (i := 5) (N := some 72) (v := ?_) (a' := ?_) #[true, true, true, true, true, true, true, false, false, true, true, true, false, true, false, false, false, false, false, false, false, false] rfl rfl (by kernel_rfl) (fun _ _ _ h => h) (Or.inl ⟨by rfl, ?_⟩) hHeld ?_ ?_
          rotate_left
          · rintro w' ⟨s0, s1⟩
            go_simp
            with_reducible rfl
          rotate_left
          · simp only [Act.put, List.setIfInBounds_toArray, List.set_cons_zero, List.set_cons_succ, i64_w, i32_w]
            rfl
          refine take_ (i := 12) (N := some 79) (v := ?_) (a' := ?_) #[true, true, true, true, true, true, true, false, false, true, true, true, true, true, false, false, false, false, false, false, false, false] rfl rfl (by kernel_rfl) (fun _ _ _ h => h) (Or.inl ⟨by rfl, ?_⟩) hHeld ?_ ?_
          rotate_left
          · rintro w' ⟨s0, s1⟩
            go_simp
            with_reducible rfl
          rotate_left
          · simp only [Act.put, List.setIfInBounds_toArray, List.set_cons_zero, List.set_cons_succ, i64_w, i32_w]
            rfl
          refine join_ (σ := Value × Value × Value) 7 #[true, true, true, true, true, true, true, true, true, true, true, true, true, true, true, false, false, false, false, false, false, false] (fun s => [(74, s.1), (75, s.2.1), (81, s.2.2)]) (fun s w' => (w'.cell? ⟨gs, 1, none⟩ = some (.slice Ah m ch) ∧ w'.cell? ⟨gs, 2, none⟩ = some (.slice Aa m ca)) ∧ Kd.R (Kd.int .u64) 67 w' w.heap.size (fun _ => True) s.2.1 (HS ++ [X]) ∧ Kd.R (Kd.int .i64) 3 w' w.heap.size (fun _ => True) s.2.2 [(i : Int)] ∧ Kd.R (Kd.int .i64) 3 w' w.heap.size (fun _ => True) (.slice Aa m ca) AT ∧ Kd.R k30 30 w' w.heap.size (fun _ => True) (.slice A1 n c1) L ∧ Below w.heap.size w w' ∧ w'.heap[gs]? = some (.cells #[.slice A1 n c1, .slice Ah m ch, .slice Aa m ca, .pointer none] 64 (0, 0))) ?_ ?_
          rotate_left
          · intro hCont
            refine two_ (i := 7) (j := 14) (Ni := some 74) (Nj := some 81) #[true, true, true, true, true, true, true, true, false, true, true, true, true, true, false, false, false, false, false, false, false, false] #[true, true, true, true, true, true, true, false, false, true, true, true, true, true, true, false, false, false, false, false, false, false] rfl rfl rfl rfl (by kernel_rfl) (by decide) (by decide) (fun K hK => ?_) (fun K hK => ?_)
            · skip
              refine Kd.R_lit_step (Kd.int .u64) (w0 := w) w.heap.size 67 (by rfl) (N := 74) rfl (xs := [X]) (inner := [.int .u64 X]) (ok := fun _ => True) (okp := fun _ => True) ?hr1 (lit1 _ _ _) (fun _ hk => hk) trivial (by first | exact HB.out | exact HB.out.drew) (by first | exact HB.out.size | exact HB.out.drew.size) (by simp) ?_
              (case hr1 => first | (go_simp; done) | (go_simp; rfl))
              intro v74 w74 ho hb hg hat
              have n4_ := hg
              obtain ⟨A74, c74, rfl, hn74, hC74⟩ := Kd.R_reads ho
              have n1_ := Aside0.mk hb
              have n2_ := Aside0.mk (Kd.R_grown (by first | exact HV.out | exact Kd.R_drew HV.out) hg (fun _ _ => by simp))
              have n3_ := Aside0.mk (Kd.R_grown (by first | exact HA.out | exact Kd.R_drew HA.out) hg (fun _ _ => by simp))
              have n5_ := Aside0.mk (Kd.R_grown (by first | exact HCL.out | exact Kd.R_drew HCL.out) hg (fun _ _ => by simp))
              have n6_ := Aside0.mk (blk_grown (by first | exact BS.out | exact BS.out) hg (by simp))
              have L74_ := Aside0.mk ho
              clear HB HV HA HCL BS ho hb hg hat n4_ hn74 hC74
              have HB := n1_
              have HV := n2_
              have HA := n3_
              have HCL := n5_
              have BS := n6_
              clear n1_ n2_ n3_ n5_ n6_
              have L74 := L74_
              clear L74_
              refine hK.out _ _ ⟨(blk_cell BS.out 1).trans rfl, (blk_cell BS.out 2).trans rfl⟩ (fun hHeld => ?_)
              clear hK K
              refine norm_ (a' := ?_) ?_ ?_
              rotate_left
              · show Act.put _ (some 74) _ = _
                simp only [Act.put, List.setIfInBounds_toArray, List.set_cons_zero, List.set_cons_succ, i64_w, i32_w]
                rfl
              refine two_ (i := 8) (j := 14) (Ni := some 75) (Nj := some 81) #[true, true, true, true, true, true, true, true, true, true, true, true, true, true, false, false, false, false, false, false, false, false] #[true, true, true, true, true, true, true, true, false, true, true, true, true, true, true, false, false, false, false, false, false, false] rfl rfl rfl rfl (by kernel_rfl) (by decide) (by decide) (fun K hK => ?_) (fun K hK => ?_)
              · skip
                refine Kd.R_append_rows_step (Kd.int .u64) (w0 := w) w.heap.size (by rfl) (.tmp 72) (.tmp 74) 60 67 (.int .u64 0) 8 (by rfl) Try.underlying60 info67 (by rfl) (by decide) (by omega) (.slice Ah m ch) HS [X] A74 1 c74 (fun _ => True) (fun _ => False) (by rfl) (by rfl) HV.out (Kd.R_reads' L74.out).2.2 (fun _ _ h => h) (fun _ h => h.elim) (fun _ _ => trivial) HB.out HB.out.size (by have := HML.out; omega) ?_
                intro v75 w75 ho hb hg hat
                have n1_ := Aside0.mk hb
                have n2_ := Aside0.mk ho
                have n3_ := Aside0.mk (Kd.R_over HA.out HV.out (by intro q hq; (rcases List.mem_cons.1 hq with rfl | h); decide; cases h) hg)
                have n5_ := Aside0.mk (Kd.R_over HCL.out HV.out (by intro q hq; (rcases List.mem_cons.1 hq with rfl | h); decide; cases h) hg)
                have n6_ := Aside0.mk (blk_over BS.out HV.out (by decide) hg)
                clear HB HV HA HCL BS L74 ho hb hg hat
                have HB := n1_
                have HV := n2_
                have HA := n3_
                have HCL := n5_
                have BS := n6_
                clear n1_ n2_ n3_ n5_ n6_
                refine hK.out _ _ ⟨(blk_cell BS.out 1).trans rfl, (blk_cell BS.out 2).trans rfl⟩ (fun hHeld => ?_)
                clear hK K
                refine norm_ (a' := ?_) ?_ ?_
                rotate_left
                · show Act.put _ (some 75) _ = _
                  simp only [Act.put, List.setIfInBounds_toArray, List.set_cons_zero, List.set_cons_succ, i64_w, i32_w]
                  rfl
                refine one_ (i := 14) (N := some 81) #[true, true, true, true, true, true, true, true, true, true, true, true, true, true, true, false, false, false, false, false, false, false] rfl rfl (by kernel_rfl) (by decide) (fun K hK => ?_)
                refine Kd.R_lit_step (Kd.int .i64) (w0 := w) w.heap.size 3 (by rfl) (N := 81) rfl (xs := [(i : Int)]) (inner := [.int .i64 (i : Int)]) (ok := fun _ => True) (okp := fun _ => True) ?hr1 (lit1 _ _ _) (fun _ hk => hk) trivial (by first | exact HB.out | exact HB.out.drew) (by first | exact HB.out.size | exact HB.out.drew.size) (by simp) ?_
                (case hr1 => first | (go_simp; done) | (go_simp; rfl))
                intro v81 w81 ho hb hg hat
                have n4_ := hg
                obtain ⟨A81, c81, rfl, hn81, hC81⟩ := Kd.R_reads ho
                have n1_ := Aside0.mk hb
                have n2_ := Aside0.mk (Kd.R_grown (by first | exact HV.out | exact Kd.R_drew HV.out) hg (fun _ _ => by simp))
                have n3_ := Aside0.mk (Kd.R_grown (by first | exact HA.out | exact Kd.R_drew HA.out) hg (fun _ _ => by simp))
                have n5_ := Aside0.mk (Kd.R_grown (by first | exact HCL.out | exact Kd.R_drew HCL.out) hg (fun _ _ => by simp))
                have n6_ := Aside0.mk (blk_grown (by first | exact BS.out | exact BS.out) hg (by simp))
                have L81_ := Aside0.mk ho
                clear HB HV HA HCL BS ho hb hg hat n4_ hn81 hC81
                have HB := n1_
                have HV := n2_
                have HA := n3_
                have HCL := n5_
                have BS := n6_
                clear n1_ n2_ n3_ n5_ n6_
                have L81 := L81_
                clear L81_
                refine hK.out _ _ ⟨(blk_cell BS.out 1).trans rfl, (blk_cell BS.out 2).trans rfl⟩ (fun hHeld => ?_)
                clear hK K
                refine norm_ (a' := ?_) ?_ ?_
                rotate_left
                · show Act.put _ (some 81) _ = _
                  simp only [Act.put, List.setIfInBounds_toArray, List.set_cons_zero, List.set_cons_succ, i64_w, i32_w]
                  rfl
                exact norm_ (by first | (simp only [putAll, Act.put, List.setIfInBounds_toArray, List.set_cons_zero, List.set_cons_succ]; done) | (simp only [putAll, Act.put, List.setIfInBounds_toArray, List.set_cons_zero, List.set_cons_succ]; rfl)) (hCont (.slice A74 1 c74, _, _) _ ⟨hHeld, HV.out, L81.out, HA.out, HCL.out, HB.out, BS.out⟩)
              · skip
                refine Kd.R_lit_step (Kd.int .i64) (w0 := w) w.heap.size 3 (by rfl) (N := 81) rfl (xs := [(i : Int)]) (inner := [.int .i64 (i : Int)]) (ok := fun _ => True) (okp := fun _ => True) ?hr1 (lit1 _ _ _) (fun _ hk => hk) trivial (by first | exact HB.out | exact HB.out.drew) (by first | exact HB.out.size | exact HB.out.drew.size) (by simp) ?_
                (case hr1 => first | (go_simp; done) | (go_simp; rfl))
                intro v81 w81 ho hb hg hat
                have n4_ := hg
                obtain ⟨A81, c81, rfl, hn81, hC81⟩ := Kd.R_reads ho
                have n1_ := Aside0.mk hb
                have n2_ := Aside0.mk (Kd.R_grown (by first | exact HV.out | exact Kd.R_drew HV.out) hg (fun _ _ => by simp))
                have n3_ := Aside0.mk (Kd.R_grown (by first | exact HA.out | exact Kd.R_drew HA.out) hg (fun _ _ => by simp))
                have n5_ := Aside0.mk (Kd.R_grown (by first | exact HCL.out | exact Kd.R_drew HCL.out) hg (fun _ _ => by simp))
                have n6_ := Aside0.mk (blk_grown (by first | exact BS.out | exact BS.out) hg (by simp))
                have n7_ := Aside0.mk (Kd.R_grown L74.out hg (fun _ _ => by simp))
                have L81_ := Aside0.mk ho
                clear HB HV HA HCL BS ho hb hg hat n4_ hn81 hC81
                have HB := n1_
                have HV := n2_
                have HA := n3_
                have HCL := n5_
                have BS := n6_
                clear n1_ n2_ n3_ n5_ n6_
                have L81 := L81_
                clear L81_
                clear L74
                have L74 := n7_
                clear n7_
                refine hK.out _ _ ⟨(blk_cell BS.out 1).trans rfl, (blk_cell BS.out 2).trans rfl⟩ (fun hHeld => ?_)
                clear hK K
                refine norm_ (a' := ?_) ?_ ?_
                rotate_left
                · show Act.put _ (some 81) _ = _
                  simp only [Act.put, List.setIfInBounds_toArray, List.set_cons_zero, List.set_cons_succ, i64_w, i32_w]
                  rfl
                refine one_ (i := 8) (N := some 75) #[true, true, true, true, true, true, true, true, true, true, true, true, true, true, true, false, false, false, false, false, false, false] rfl rfl (by kernel_rfl) (by decide) (fun K hK => ?_)
                refine Kd.R_append_rows_step (Kd.int .u64) (w0 := w) w.heap.size (by rfl) (.tmp 72) (.tmp 74) 60 67 (.int .u64 0) 8 (by rfl) Try.underlying60 info67 (by rfl) (by decide) (by omega) (.slice Ah m ch) HS [X] A74 1 c74 (fun _ => True) (fun _ => False) (by rfl) (by rfl) HV.out (Kd.R_reads' L74.out).2.2 (fun _ _ h => h) (fun _ h => h.elim) (fun _ _ => trivial) HB.out HB.out.size (by have := HML.out; omega) ?_
                intro v75 w75 ho hb hg hat
                have n1_ := Aside0.mk hb
                have n2_ := Aside0.mk ho
                have n3_ := Aside0.mk (Kd.R_over HA.out HV.out (by intro q hq; (rcases List.mem_cons.1 hq with rfl | h); decide; cases h) hg)
                have n5_ := Aside0.mk (Kd.R_over HCL.out HV.out (by intro q hq; (rcases List.mem_cons.1 hq with rfl | h); decide; cases h) hg)
                have n6_ := Aside0.mk (blk_over BS.out HV.out (by decide) hg)
                have n7_ := Aside0.mk (Kd.R_over L81.out HV.out (by intro q hq; (rcases List.mem_cons.1 hq with rfl | h); decide; cases h) hg)
                clear HB HV HA HCL BS L74 ho hb hg hat
                have HB := n1_
                have HV := n2_
                have HA := n3_
                have HCL := n5_
                have BS := n6_
                clear n1_ n2_ n3_ n5_ n6_
                clear L81
                have L81 := n7_
                clear n7_
                refine hK.out _ _ ⟨(blk_cell BS.out 1).trans rfl, (blk_cell BS.out 2).trans rfl⟩ (fun hHeld => ?_)
                clear hK K
                refine norm_ (a' := ?_) ?_ ?_
                rotate_left
                · show Act.put _ (some 75) _ = _
                  simp only [Act.put, List.setIfInBounds_toArray, List.set_cons_zero, List.set_cons_succ, i64_w, i32_w]
                  rfl
                exact norm_ (by first | (simp only [putAll, Act.put, List.setIfInBounds_toArray, List.set_cons_zero, List.set_cons_succ]; done) | (simp only [putAll, Act.put, List.setIfInBounds_toArray, List.set_cons_zero, List.set_cons_succ]; rfl)) (hCont (.slice A74 1 c74, _, _) _ ⟨hHeld, HV.out, L81.out, HA.out, HCL.out, HB.out, BS.out⟩)
            · skip
              refine Kd.R_lit_step (Kd.int .i64) (w0 := w) w.heap.size 3 (by rfl) (N := 81) rfl (xs := [(i : Int)]) (inner := [.int .i64 (i : Int)]) (ok := fun _ => True) (okp := fun _ => True) ?hr1 (lit1 _ _ _) (fun _ hk => hk) trivial (by first | exact HB.out | exact HB.out.drew) (by first | exact HB.out.size | exact HB.out.drew.size) (by simp) ?_
              (case hr1 => first | (go_simp; done) | (go_simp; rfl))
              intro v81 w81 ho hb hg hat
              have n4_ := hg
              obtain ⟨A81, c81, rfl, hn81, hC81⟩ := Kd.R_reads ho
              have n1_ := Aside0.mk hb
              have n2_ := Aside0.mk (Kd.R_grown (by first | exact HV.out | exact Kd.R_drew HV.out) hg (fun _ _ => by simp))
              have n3_ := Aside0.mk (Kd.R_grown (by first | exact HA.out | exact Kd.R_drew HA.out) hg (fun _ _ => by simp))
              have n5_ := Aside0.mk (Kd.R_grown (by first | exact HCL.out | exact Kd.R_drew HCL.out) hg (fun _ _ => by simp))
              have n6_ := Aside0.mk (blk_grown (by first | exact BS.out | exact BS.out) hg (by simp))
              have L81_ := Aside0.mk ho
              clear HB HV HA HCL BS ho hb hg hat n4_ hn81 hC81
              have HB := n1_
              have HV := n2_
              have HA := n3_
              have HCL := n5_
              have BS := n6_
              clear n1_ n2_ n3_ n5_ n6_
              have L81 := L81_
              clear L81_
              refine hK.out _ _ ⟨(blk_cell BS.out 1).trans rfl, (blk_cell BS.out 2).trans rfl⟩ (fun hHeld => ?_)
              clear hK K
              refine norm_ (a' := ?_) ?_ ?_
              rotate_left
              · show Act.put _ (some 81) _ = _
                simp only [Act.put, List.setIfInBounds_toArray, List.set_cons_zero, List.set_cons_succ, i64_w, i32_w]
                rfl
              refine one_ (i := 7) (N := some 74) #[true, true, true, true, true, true, true, true, false, true, true, true, true, true, true, false, false, false, false, false, false, false] rfl rfl (by kernel_rfl) (by decide) (fun K hK => ?_)
              refine Kd.R_lit_step (Kd.int .u64) (w0 := w) w.heap.size 67 (by rfl) (N := 74) rfl (xs := [X]) (inner := [.int .u64 X]) (ok := fun _ => True) (okp := fun _ => True) ?hr1 (lit1 _ _ _) (fun _ hk => hk) trivial (by first | exact HB.out | exact HB.out.drew) (by first | exact HB.out.size | exact HB.out.drew.size) (by simp) ?_
              (case hr1 => first | (go_simp; done) | (go_simp; rfl))
              intro v74 w74 ho hb hg hat
              have n4_ := hg
              obtain ⟨A74, c74, rfl, hn74, hC74⟩ := Kd.R_reads ho
              have n1_ := Aside0.mk hb
              have n2_ := Aside0.mk (Kd.R_grown (by first | exact HV.out | exact Kd.R_drew HV.out) hg (fun _ _ => by simp))
              have n3_ := Aside0.mk (Kd.R_grown (by first | exact HA.out | exact Kd.R_drew HA.out) hg (fun _ _ => by simp))
              have n5_ := Aside0.mk (Kd.R_grown (by first | exact HCL.out | exact Kd.R_drew HCL.out) hg (fun _ _ => by simp))
              have n6_ := Aside0.mk (blk_grown (by first | exact BS.out | exact BS.out) hg (by simp))
              have n7_ := Aside0.mk (Kd.R_grown L81.out hg (fun _ _ => by simp))
              have L74_ := Aside0.mk ho
              clear HB HV HA HCL BS ho hb hg hat n4_ hn74 hC74
              have HB := n1_
              have HV := n2_
              have HA := n3_
              have HCL := n5_
              have BS := n6_
              clear n1_ n2_ n3_ n5_ n6_
              have L74 := L74_
              clear L74_
              clear L81
              have L81 := n7_
              clear n7_
              refine hK.out _ _ ⟨(blk_cell BS.out 1).trans rfl, (blk_cell BS.out 2).trans rfl⟩ (fun hHeld => ?_)
              clear hK K
              refine norm_ (a' := ?_) ?_ ?_
              rotate_left
              · show Act.put _ (some 74) _ = _
                simp only [Act.put, List.setIfInBounds_toArray, List.set_cons_zero, List.set_cons_succ, i64_w, i32_w]
                rfl
              refine one_ (i := 8) (N := some 75) #[true, true, true, true, true, true, true, true, true, true, true, true, true, true, true, false, false, false, false, false, false, false] rfl rfl (by kernel_rfl) (by decide) (fun K hK => ?_)
              refine Kd.R_append_rows_step (Kd.int .u64) (w0 := w) w.heap.size (by rfl) (.tmp 72) (.tmp 74) 60 67 (.int .u64 0) 8 (by rfl) Try.underlying60 info67 (by rfl) (by decide) (by omega) (.slice Ah m ch) HS [X] A74 1 c74 (fun _ => True) (fun _ => False) (by rfl) (by rfl) HV.out (Kd.R_reads' L74.out).2.2 (fun _ _ h => h) (fun _ h => h.elim) (fun _ _ => trivial) HB.out HB.out.size (by have := HML.out; omega) ?_
              intro v75 w75 ho hb hg hat
              have n1_ := Aside0.mk hb
              have n2_ := Aside0.mk ho
              have n3_ := Aside0.mk (Kd.R_over HA.out HV.out (by intro q hq; (rcases List.mem_cons.1 hq with rfl | h); decide; cases h) hg)
              have n5_ := Aside0.mk (Kd.R_over HCL.out HV.out (by intro q hq; (rcases List.mem_cons.1 hq with rfl | h); decide; cases h) hg)
              have n6_ := Aside0.mk (blk_over BS.out HV.out (by decide) hg)
              have n7_ := Aside0.mk (Kd.R_over L81.out HV.out (by intro q hq; (rcases List.mem_cons.1 hq with rfl | h); decide; cases h) hg)
              clear HB HV HA HCL BS L74 ho hb hg hat
              have HB := n1_
              have HV := n2_
              have HA := n3_
              have HCL := n5_
              have BS := n6_
              clear n1_ n2_ n3_ n5_ n6_
              clear L81
              have L81 := n7_
              clear n7_
              refine hK.out _ _ ⟨(blk_cell BS.out 1).trans rfl, (blk_cell BS.out 2).trans rfl⟩ (fun hHeld => ?_)
              clear hK K
              refine norm_ (a' := ?_) ?_ ?_
              rotate_left
              · show Act.put _ (some 75) _ = _
                simp only [Act.put, List.setIfInBounds_toArray, List.set_cons_zero, List.set_cons_succ, i64_w, i32_w]
                rfl
              exact norm_ (by first | (simp only [putAll, Act.put, List.setIfInBounds_toArray, List.set_cons_zero, List.set_cons_succ]; done) | (simp only [putAll, Act.put, List.setIfInBounds_toArray, List.set_cons_zero, List.set_cons_succ]; rfl)) (hCont (.slice A74 1 c74, _, _) _ ⟨hHeld, HV.out, L81.out, HA.out, HCL.out, HB.out, BS.out⟩)
          rintro ⟨s74, s75, s81⟩ w83 ⟨hHeld, hV, hL, hA, hCl, hBl, hBs⟩
          obtain ⟨A81, c81, rfl, hn81, hC81⟩ := Kd.R_reads hL
          obtain ⟨A75, c75, rfl, hn75, hC75⟩ := Kd.R_reads hV
          clear HB HV HA HCL BS hn81 hC81 hn75 hC75
          have HB := Aside0.mk hBl
          have HV := Aside0.mk (show Kd.R (Kd.int .u64) 67 w83 w.heap.size (fun _ => True) (.slice A75 (HS ++ [X]).length c75) (HS ++ [X]) from hV)
          have HA := Aside0.mk hA
          have L81 := Aside0.mk hL
          have HCL := Aside0.mk hCl
          have BS := Aside0.mk hBs
          clear hV hA hL hCl hBl hBs
          refine norm_ (a' := ?_) ?_ ?_
          rotate_left
          · simp only [putAll, Act.put, List.setIfInBounds_toArray, List.set_cons_zero, List.set_cons_succ]
            rfl
          refine one_ (i := 15) (N := some 82) #[true, true, true, true, true, true, true, true, true, true, true, true, true, true, true, true, false, false, false, false, false, false] rfl rfl (by kernel_rfl) (by decide) (fun K hK => ?_)
          refine Kd.R_append_rows_step (Kd.int .i64) (w0 := w) w.heap.size (by rfl) (.tmp 79) (.tmp 81) 61 3 (.int .i64 0) 8 (by rfl) Try.underlying61 info3 (by rfl) (by decide) (by omega) (.slice Aa m ca) AT [(i : Int)] A81 1 c81 (fun _ => True) (fun _ => False) (by rfl) (by rfl) HA.out (Kd.R_reads' L81.out).2.2 (fun _ _ h => h) (fun _ h => h.elim) (fun _ _ => trivial) HB.out HB.out.size (by have := HML.out; omega) ?_
          intro v82 w82 ho hb hg hat
          have n1_ := Aside0.mk hb
          have n2_ := Aside0.mk ho
          have n3_ := Aside0.mk (Kd.R_over HV.out HA.out (by intro q hq; (rcases List.mem_cons.1 hq with rfl | h); decide; cases h) hg)
          have n5_ := Aside0.mk (Kd.R_over HCL.out HA.out (by intro q hq; (rcases List.mem_cons.1 hq with rfl | h); decide; cases h) hg)
          have n6_ := Aside0.mk (blk_over BS.out HA.out (by decide) hg)
          clear HB HV HA HCL BS L81 ho hb hg hat
          have HB := n1_
          have HA := n2_
          have HV := n3_
          have HCL := n5_
          have BS := n6_
          clear n1_ n2_ n3_ n5_ n6_
          obtain ⟨A82, c82, rfl, hn82, hC82⟩ := Kd.R_reads HA.out
          clear hn82 hC82
          have hq1 : w82.cell? ⟨gs, 1, none⟩ = some (.slice Ah m ch) := (blk_cell BS.out 1).trans rfl
          have hq2 : w82.cell? ⟨gs, 2, none⟩ = some (.slice Aa m ca) := (blk_cell BS.out 2).trans rfl
          have hg1 := blk_frozen BS.out 1
          have hg2 := blk_frozen BS.out 2
          refine hK.out _ _ ⟨(blk_cell BS.out 1).trans rfl, (blk_cell BS.out 2).trans rfl⟩ (fun hHeld => ?_)
          clear hK K
          refine norm_ (a' := ?_) ?_ ?_
          rotate_left
          · show Act.put _ (some 82) _ = _
            simp only [Act.put, List.setIfInBounds_toArray, List.set_cons_zero, List.set_cons_succ, i64_w, i32_w]
            rfl
          refine pure_ (i := 16) (N := some 83) (v := ?_) (a' := ?_) #[true, true, true, true, true, true, true, true, true, true, true, true, true, true, true, true, true, false, false, false, false, false] rfl rfl (by kernel_rfl) (fun _ _ _ h => h) (Or.inl ⟨by rfl, ?_⟩) ?_ ?_
          rotate_left
          · intro w'
            go_simp
            with_reducible rfl
          rotate_left
          · simp only [Act.put, List.setIfInBounds_toArray, List.set_cons_zero, List.set_cons_succ, i64_w, i32_w]
            rfl
          refine pure_ (i := 17) (N := some 84) (v := ?_) (a' := ?_) #[true, true, true, true, true, true, true, true, true, true, true, true, true, true, true, true, true, true, false, false, false, false] rfl rfl (by kernel_rfl) (fun _ _ _ h => h) (Or.inl ⟨by rfl, ?_⟩) ?_ ?_
          rotate_left
          · intro w'
            go_simp
            with_reducible rfl
          rotate_left
          · simp only [Act.put, List.setIfInBounds_toArray, List.set_cons_zero, List.set_cons_succ, i64_w, i32_w]
            rfl
          refine last_ (i := 18) (N := none) #[true, true, true, true, true, true, true, true, true, true, true, true, true, true, true, true, true, true, true, false, false, false] rfl rfl (by kernel_rfl) (by decide) (fun K hK => ?_)
          refine skip_ (w1 := ?_) (by rfl) rfl ?_ ?_
          rotate_left
          · go_simp
            rfl
          refine hK.out _ _ ?_
          clear hK K
          refine pure_ (i := 19) (N := some 85) (v := ?_) (a' := ?_) #[true, true, true, true, true, true, true, true, true, true, true, true, true, true, true, true, true, true, true, true, false, false] rfl rfl (by kernel_rfl) (fun _ _ _ h => h) (Or.inl ⟨by rfl, ?_⟩) ?_ ?_
          rotate_left
          · intro w'
            go_simp
            with_reducible rfl
          rotate_left
          · simp only [Act.put, List.setIfInBounds_toArray, List.set_cons_zero, List.set_cons_succ, i64_w, i32_w]
            rfl
          refine pure_ (i := 20) (N := some 86) (v := ?_) (a' := ?_) #[true, true, true, true, true, true, true, true, true, true, true, true, true, true, true, true, true, true, true, true, true, false] rfl rfl (by kernel_rfl) (fun _ _ _ h => h) (Or.inl ⟨by rfl, ?_⟩) ?_ ?_
          rotate_left
          · intro w'
            go_simp
            with_reducible rfl
          rotate_left
          · simp only [Act.put, List.setIfInBounds_toArray, List.set_cons_zero, List.set_cons_succ, i64_w, i32_w]
            rfl
          refine last_ (i := 21) (N := none) #[true, true, true, true, true, true, true, true, true, true, true, true, true, true, true, true, true, true, true, true, true, true] rfl rfl (by kernel_rfl) (by decide) (fun K hK => ?_)
          refine skip_ (w1 := ?_) (by rfl) rfl ?_ ?_
          rotate_left
          · go_simp
            rfl
          refine hK.out _ _ ?_
          clear hK K
          refine done_ (by kernel_rfl) ?_
          have HE1 := Aside0.mk (show hsL (L.take (i + 1)) = HS ++ [X] by rw [HTK.out, hsL_snoc, ← HHS.out, ← HXX.out]; exact if_neg HLAST.out)
          have HE2 := Aside0.mk (show atL (L.take (i + 1)) = AT ++ [(i : Int)] by
           have h1 := atL_snoc (L := L.take i) (p := x) (by rw [← HTK.out]; exact HST.out)
           rw [← HTK.out, ← HHS.out, ← HXX.out, if_neg HLAST.out, ← HAT.out] at h1
           rw [h1, List.length_take, Nat.min_eq_left (by rw [← HN.out]; have := HLT.out; omega)])
          have HE3 := Aside0.mk (show (AT ++ [(i : Int)]).length = (HS ++ [X]).length by rw [← HE1.out, ← HE2.out, atL_len])
          clear hq1 hq2 hg1 hg2 hHeld
          go_wp2
          refine ⟨⟨i + 1, A75, c75, A82, c82, by first | rfl | go_num, by have := HLT.out; omega, HG2, ⟨by rw [HE1.out]; exact R_set (R_set HV.out BS.out (by intro q hq; (rcases List.mem_cons.1 hq with rfl | h); decide; cases h) _ _) (blk_put BS.out 1 _ rfl) (by intro q hq; (rcases List.mem_cons.1 hq with rfl | h); decide; cases h) _ _⟩, ⟨by rw [HE1.out, HE2.out, ← HE3.out]; exact R_set (R_set HA.out BS.out (by intro q hq; (rcases List.mem_cons.1 hq with rfl | h); decide; cases h) _ _) (blk_put BS.out 1 _ rfl) (by intro q hq; (rcases List.mem_cons.1 hq with rfl | h); decide; cases h) _ _⟩, ⟨R_set (R_set HCL.out BS.out (by intro q hq; (rcases List.mem_cons.1 hq with rfl | h); decide; cases h) _ _) (blk_put BS.out 1 _ rfl) (by intro q hq; (rcases List.mem_cons.1 hq with rfl | h); decide; cases h) _ _⟩, ⟨below_set (below_set HB.out GS.out) GS.out⟩, ⟨by rw [HE1.out]; have h1 := blk_put (blk_put BS.out 1 (.slice A75 (HS.length + 1) c75) rfl) 2 (.slice A82 (AT.length + 1) c82) rfl; refine h1.trans ?_; rw [show (HS ++ [X]).length = HS.length + 1 by simp, show AT.length + 1 = HS.length + 1 by have := HE3.out; simp at this; omega]; rfl⟩⟩, ?_⟩
          have := HLT.out
          simp [intOf]
          omega
        | false =>
          have HLAST := Aside0.mk (show HS.getLast? = some X by
           cases hq : decide (HS.getLast? = some X) with
           | true => exact of_decide_eq_true hq
           | false => exact absurd (hbb.2 (of_decide_eq_false hq)) Bool.false_ne_true)
          clear hbb
          have HE1 := Aside0.mk (show hsL (L.take (i + 1)) = HS by rw [HTK.out, hsL_snoc, ← HHS.out, ← HXX.out]; exact if_pos HLAST.out)
          have HE2 := Aside0.mk (show atL (L.take (i + 1)) = AT by
           have h1 := atL_snoc (L := L.take i) (p := x) (by rw [← HTK.out]; exact HST.out)
           rw [← HTK.out, ← HHS.out, ← HXX.out, if_pos HLAST.out, ← HAT.out] at h1
           exact h1)
          go_wp2
          refine ⟨⟨i + 1, Ah, ch, Aa, ca, by first | rfl | go_num, by have := HLT.out; omega, HG2, ⟨by rw [HE1.out, ← HM.out]; exact HV.out⟩, ⟨by rw [HE1.out, HE2.out, ← HM.out]; exact HA.out⟩, HCL, HB, ⟨by rw [HE1.out, ← HM.out]; exact BS.out⟩⟩, ?_⟩
          have := HLT.out
          simp [intOf]
          omega
  · obtain rfl : i = n := by omega
    have hl1 : decide ((i : Int) < (i : Int)) = false := decide_eq_false (by omega)
    have hl2 : decide (i < i) = false := decide_eq_false (by omega)
    have hti : L.take i = L := List.take_of_length_le (by rw [← HN.out]; exact Nat.le_refl _)
    rw [hti] at HHS HAT
    have HMP := Aside0.mk (show MayP L from ⟨by rw [← HN.out]; exact HNL.out, fun j hj => HG.out j (by rw [HN.out]; exact hj)⟩)
    have HBT := Aside0.mk (tree_build HMP.out.sortH HMP.out.1)
    rw [← HHS.out] at HBT
    have HUS := Aside0.mk (show U64s HS by rw [HHS.out]; exact hs_u64 HMP.out.sortH)
    have hq1 : wr.cell? ⟨gs, 1, none⟩ = some (.slice Ah m ch) := (blk_cell BS.out 1).trans rfl
    clear hlt hi hti
    go_wp2_with (first
     | (go_at_call 33; refine (trie_Build HM.out (by have := (Kd.R_reads' HV.out).2.2; rw [← HM.out] at this; exact this) (Kd.R_reads' HV.out).2.1 (by have := HML.out.1; omega) HUS.out).mono ?_; rw [HBT.out]; rintro e w14 ⟨hb, p, rfl, hO⟩; have HBO := Aside0.mk hO; have n1_ := Aside0.mk (below_step HB.out hb); have n2_ := Aside0.mk (Kd.R_below HV.out hb); have n3_ := Aside0.mk (Kd.R_below HA.out hb); have n5_ := Aside0.mk (Kd.R_below HCL.out hb); have n6_ := Aside0.mk (blk_below BS.out hb); clear HB HV HA HCL BS; have HB := n1_; have HV := n2_; have HA := n3_; have HCL := n5_; have BS := n6_; clear n1_ n2_ n3_ n5_ n6_; clear hb hO hq1; have hq3 : w14.cell? ⟨gs, 3, none⟩ = some (.pointer none) := (blk_cell BS.out 3).trans rfl; have hg3 := blk_frozen BS.out 3))
    go_ret2
    have hb2 := blk_put BS.out 3 (.pointer (some ⟨p, 0, none⟩)) rfl
    have hcl := R_set HCL.out BS.out (by intro q hq; (rcases List.mem_cons.1 hq with rfl | h); decide; cases h) 3 (.pointer (some ⟨p, 0, none⟩))
    have hv := R_set HV.out BS.out (by intro q hq; (rcases List.mem_cons.1 hq with rfl | h); decide; cases h) 3 (.pointer (some ⟨p, 0, none⟩))
    have ha := R_set HA.out BS.out (by intro q hq; (rcases List.mem_cons.1 hq with rfl | h); decide; cases h) 3 (.pointer (some ⟨p, 0, none⟩))
    have ht := (BO.set HBO.out BS.out (by decide) (by decide) 3 (.pointer (some ⟨p, 0, none⟩))).toP
    have hcl2 := Kd.R_reads' hcl
    have hv2 := Kd.R_reads' hv
    have ha2 := Kd.R_reads' ha
    rw [HHS.out] at hv2
    rw [HAT.out, atL_len] at ha2
    rw [HN.out, HM.out, HHS.out] at hb2
    have hm2 : m = (hsL L).length := by rw [HM.out, HHS.out]
    rw [HN.out] at hcl2
    rw [hm2] at hv2 ha2
    exact ⟨below_set HB.out GS.out, .inl ⟨HMP.out, gs, rfl, A1, c1, Ah, ch, Aa, ca, some ⟨p, 0, none⟩, ⟨hb2, hcl2.2.1, hcl2.2.2, hv2.2.1, hv2.2.2, ha2.2.1, ha2.2.2, ht, HMP.out.sortH, HMP.out.1⟩⟩⟩
end Go.Proofs.Ytkhcmddeeodbkaa.GL
