import Derived.Test.YtkhcmddeeodbkaaZSortedForm28
-- Own texts and, of the words that the kit's print program wrote for this claim, those that are needed here: put together by wip/prune.py.
set_option linter.unusedSimpArgs false
set_option linter.unusedVariables false
namespace Go.Proofs.Ytkhcmddeeodbkaa.GL
open Go.RowKit Go.Proofs.YtkhcmddeeodbkaaW.PrintWords Go.Proofs.YtkhcmddeeodbkaaW.PrintLast Go.Proofs.YtkhcmddeeodbkaaW.PrintMore Go.Proofs.Ytkhcmddeeodbkaa.Q Go.Proofs.Ytkhcmddeeodbkaa.XSor Go.Proofs.Ytkhcmddeeodbkaa.G
theorem lit1P (W : World) (base : Nat) (x : Pr) : Reps (Kd.M k30 W base (fun _ => True)) k30.sz [x] [.string x.f0, .int .i64 x.f1.f0, .int .i64 x.f1.f1, .string x.f1.f2] := by
  refine ⟨rfl, fun j p hj => ?_⟩
  rcases j with _ | j
  · obtain rfl : x = p := by simpa using hj
    exact k30_mkM W base _ x
  · simp at hj
def cutP (x : Pr) : Pr := ⟨cutS 20 x.f0, ⟨x.f1.f0, x.f1.f1, cutS 30 x.f1.f2⟩⟩
theorem cut_p {s : ByteArray} (m : Nat) (w : World) : Calls Try.prog 12 #[.string s, .int .i64 (m : Int)] w fun e w' => e = .returned (.string (cutS m s)) ∧ Below w.heap.size w w' :=
  (loesslaw3_Cut.calls s (m : Int) _ w (cutS_eq m s)).mono (fun e w' ⟨h1, ⟨n, h2⟩⟩ => ⟨h1, by rw [h2]; exact pw_below_drewN (Below.refl _ _) n⟩)
theorem cutR_p {x y : Pr} (w : World) (h : y = cutP x) : Calls Try.prog 11 #[.agg #[.string x.f0, .bool false, .int .i64 x.f1.f0, .int .i64 x.f1.f1, .string x.f1.f2]] w fun e w' => e = .returned (.agg #[.string y.f0, .bool false, .int .i64 y.f1.f0, .int .i64 y.f1.f1, .string y.f1.f2]) ∧ Below w.heap.size w w' := by
  subst h
  exact loesslaw10_Cut.calls x.f0 false x.f1.f0 x.f1.f1 x.f1.f2 _ _ _ _ _ w (cutR_eq (recP x))
theorem less_p {a b : ByteArray} {v : Bool} (w : World) (ha : a.size < 17592186044416) (hb : b.size < 17592186044416) (h : ltK a b = v) :
    Calls Try.prog 15 #[.string a, .string b] w fun e w' => e = .returned (.bool v) ∧ Below w.heap.size w w' := by
  obtain ⟨k, hk⟩ := (less_ev ha hb).rounds
  rw [h] at hk
  exact sorted_Less.calls k a b _ _ hk
def rowF (M : List Pr) (i : Nat) : List Pr := (M.take i).map cutP
theorem rowF_succ {M : List Pr} {i : Nat} (h : i < M.length) : rowF M (i + 1) = rowF M i ++ [cutP (rd_T30 M (i : Int))] := by
  have e : rd_T30 M (i : Int) = M[i] := by simp [rd_T30, h]
  unfold rowF
  rw [List.take_succ_eq_append_getElem h, List.map_append, e]
  rfl
theorem rowF_len {M : List Pr} {i : Nat} (h : i ≤ M.length) : (rowF M i).length = i := by unfold rowF; rw [List.length_map, List.length_take]; omega
theorem rowF_sm (M : List Pr) (i : Nat) : ∀ p ∈ rowF M i, p.f0.size < 17592186044416 ∧ p.f1.f2.size < 17592186044416 := by
  intro p hp
  unfold rowF at hp
  obtain ⟨x, _, rfl⟩ := List.mem_map.1 hp
  have h1 := cutS_size 20 x.f0
  have h2 := cutS_size 30 x.f1.f2
  exact ⟨Nat.lt_of_le_of_lt h1 (by decide), Nat.lt_of_le_of_lt h2 (by decide)⟩
theorem new_ok {w : World} {A : Option Addr} {n c : Nat} {L : List Pr} (hn : n = L.length) (hC : Kd.C k30 w A n L) (hc : n ≤ c) (hk : ∀ p ∈ L, p.f0.size < 17592186044416 ∧ p.f1.f2.size < 17592186044416) (hm : MayP L) :
    Calls Try.prog 13 #[.slice A n c] w fun e w' => ∃ g, e = .returned (.tuple #[.pointer (some ⟨g, 0, none⟩), .int .i64 0]) ∧ Below w.heap.size w w' := by
  refine (st_New hn hC hc hk).mono ?_
  rintro e w' ⟨hb, ⟨_, g, h, _⟩ | ⟨h, _⟩⟩
  · exact ⟨g, h, hb⟩
  · exact absurd hm h
theorem new_bad {w : World} {A : Option Addr} {n c : Nat} {L : List Pr} (hn : n = L.length) (hC : Kd.C k30 w A n L) (hc : n ≤ c) (hk : ∀ p ∈ L, p.f0.size < 17592186044416 ∧ p.f1.f2.size < 17592186044416) (hm : ¬ MayP L) :
    Calls Try.prog 13 #[.slice A n c] w fun e w' => e = .returned (.tuple #[.pointer none, .int .i64 1]) ∧ Below w.heap.size w w' := by
  refine (st_New hn hC hc hk).mono ?_
  rintro e w' ⟨hb, ⟨h, _⟩ | ⟨_, h⟩⟩
  · exact absurd h hm
  · exact ⟨h, hb⟩
theorem may_b {w : World} {A : Option Addr} {n c : Nat} {L : List Pr} {v : Bool} (hn : n = L.length) (hC : Kd.C k30 w A n L) (hc : n ≤ c) (hl : n ≤ 1000000) (hk : ∀ p ∈ L, p.f0.size < 17592186044416 ∧ p.f1.f2.size < 17592186044416) (hm : v = true ↔ MayP L) :
    Calls Try.prog 14 #[.slice A n c] w fun e w' => e = .returned (.bool v) ∧ Below w.heap.size w w' := by
  refine (ref_MayPairs hn hC hc hl hk).mono ?_
  rintro e w' ⟨b, h, hb, hbl⟩
  have : b = v := by
    rw [Bool.eq_iff_iff, hb, hm]
  exact ⟨by rw [← this]; exact h, hbl⟩
set_option maxRecDepth 1000000 in
set_option maxHeartbeats 8000000 in
theorem SortedForm.core {w : World} {A0 : Option Addr} {n0 c0 : Nat} {l : List Pr} (a b : ByteArray) (hn : n0 = l.length) (hC : Kd.C k30 w A0 n0 l) (hc : n0 ≤ c0) :
    Calls Try.prog 3 #[.slice A0 n0 c0, .string a, .string b] w fun e w' => e = .returned (.bool true) ∧ Below w.heap.size w w' := by
  have HB := Aside0.mk (Below.refl w.heap.size w)
  have HC := Aside0.mk hC
  have HCC := Aside0.mk hc
  have HN := Aside0.mk hn
  clear hn hC hc
  go_enter Try.func3, Try.ntmps3
  go_upto_if 19 with (first
    | (go_at_call 10; (with_reducible refine (st_begun _).mono ?_); rintro e w2 ⟨rfl, hb⟩; have n1_ := Aside0.mk (below_step HB.out hb); clear HB; have HB := n1_; clear n1_; clear hb)
    | fail)
  go_cut [0] (fun v0 wx => ∃ (M : Nat) (L : List Pr), v0 = .slice A0 M c0 ∧ M = L.length ∧ M ≤ 20 ∧ M ≤ c0 ∧ Kd.C k30 w2 A0 M L ∧ wx = w2)
  case first =>
    have hC2 := Kd.C_below HC.out HB.out
    by_cases hcut : 20 < n0
    · obtain ⟨i0, hi0, _, hsz, _⟩ := info_parts info30
      have hrun : ∀ W : World, (Instr.slice 22 (.slice A0 n0 c0) none (some (.int .i64 20)) none).run Try.prog W = .ok (.slice A0 20 c0) W := cut_to (P := Try.prog) 22 30 .i64 Try.underlying22 hi0 A0 n0 c0 20 (by decide) (by omega) HCC.out
      have hd : decide ((20 : Int) < (n0 : Int)) = true := decide_eq_true (by omega)
      have hd2 : (20 : Int) < (n0 : Int) := by omega
      have h25 := Kd.C_take (m := 20) (by have := hC2; rw [HN.out] at this; exact this) (by have := HN.out; omega)
      have HM := Aside0.mk (show 20 = (l.take 20).length by rw [List.length_take]; have := HN.out; omega)
      have HM2 := Aside0.mk (show 20 ≤ c0 by have := HCC.out; omega)
      rw [← HM.out] at h25
      have H25 := Aside0.mk h25
      clear h25 hC2 hi0 hsz hcut
      go_wp2
      go_meet
      exact ⟨20, l.take 20, rfl, HM.out, Nat.le_refl _, HM2.out, H25.out, rfl⟩
    · have hd : decide ((20 : Int) < (n0 : Int)) = false := decide_eq_false (by omega)
      have hd2 : (n0 : Int) ≤ 20 := by omega
      have HM := Aside0.mk (show n0 ≤ 20 by omega)
      have H25 := Aside0.mk hC2
      clear hC2 hcut
      go_wp2
      go_meet
      exact ⟨n0, l, rfl, HN.out, HM.out, HCC.out, H25.out, rfl⟩
  case rest =>
    obtain ⟨M, L, rfl, hM, hM25, hMc, hCL, hwc⟩ := hcut
    obtain ⟨w3, hw⟩ : ∃ W, W = wc := ⟨_, rfl⟩
    subst hw
    rw [← hwc] at hCL HB
    clear HC HCC HN hwc
    have HCL := Aside0.mk hCL
    have HM := Aside0.mk hM
    have HM20 := Aside0.mk hM25
    have HMC := Aside0.mk hMc
    have hmz : (M : Int) ≤ 20 := by omega
    clear hM hM25 hMc hCL
    go_wp2
    have HX := Aside0.mk (Below.refl w3.heap.size w3)
    go_loopw [8, 9] (fun v8 v9 wr => ∃ (i : Nat), v9 = .int .i64 i ∧ i ≤ M ∧ Aside0 (Kd.R k30 30 wr w3.heap.size (fun _ => True) v8 (rowF L i)) ∧ Aside0 (Below w3.heap.size w3 wr)) (fun _ v _ => M - (intOf v).toNat)
    case atStart => exact ⟨0, by first | rfl | go_num, Nat.zero_le _, ⟨Kd.R_nil _ _ _ _ _⟩, HX⟩
    case round =>
      clear HX
      obtain ⟨i, rfl, hi, HO, HW⟩ := hrel
      by_cases hlt : i < M
      · have HLT := Aside0.mk hlt
        have hltz : (i : Int) < (L.length : Int) := by rw [← HM.out]; omega
        have hltz2 : (i : Int) < (M : Int) := by omega
        have hl1 : decide ((i : Int) < (M : Int)) = true := decide_eq_true (by omega)
        have hl2 := decide_eq_true hlt
        have HST := Aside0.mk (rowF_succ (M := L) (i := i) (by rw [← HM.out]; exact hlt))
        obtain ⟨ad, e, h0, h1, h2, h3⟩ := at_T30 (by have := HCL.out; rw [HM.out] at this; exact this) (i : Int) (Int.natCast_nonneg _) hltz
        cases e
        simp only [Int.toNat_natCast] at h0 h1 h2 h3
        obtain ⟨x, hx⟩ : ∃ x, x = rd_T30 L (i : Int) := ⟨_, rfl⟩
        rw [← hx] at h0 h1 h2 h3 HST
        obtain ⟨y, hy⟩ : ∃ y, y = cutP x := ⟨_, rfl⟩
        rw [← hy] at HST
        have HY := Aside0.mk hy
        have H0 := Aside0.mk ((HW.out.cell (World.block_lt_of_cell? w3 _ h0)).trans h0)
        have H1 := Aside0.mk ((HW.out.cell (World.block_lt_of_cell? w3 _ h1)).trans h1)
        have H2 := Aside0.mk ((HW.out.cell (World.block_lt_of_cell? w3 _ h2)).trans h2)
        have H3 := Aside0.mk ((HW.out.cell (World.block_lt_of_cell? w3 _ h3)).trans h3)
        clear h0 h1 h2 h3
        clear hx hy hltz hlt hi
        go_upto_region 10 with (fail)
        have HV := Aside0.mk (Below.refl wr.heap.size wr)
        go_cut [10] (fun v10 wx => ∃ g, v10 = .pointer (some ⟨g, 0, none⟩) ∧ wx.heap[g]? = some (.cells #[.string y.f0, .bool false, .int .i64 y.f1.f0, .int .i64 y.f1.f1, .string y.f1.f2] 27 (0, 0)) ∧ Below wr.heap.size wr wx)
        case first =>
          refine GR.start_p (n := 14) (S := fun w' => w'.cell? (ad.add (i * 4)) = some (.string x.f0) ∧ w'.cell? ⟨(ad.add (i * 4)).block, (ad.add (i * 4)).off + 1, none⟩ = some (.int .i64 x.f1.f0) ∧ w'.cell? ⟨(ad.add (i * 4)).block, (ad.add (i * 4)).off + 2, none⟩ = some (.int .i64 x.f1.f1) ∧ w'.cell? ⟨(ad.add (i * 4)).block, (ad.add (i * 4)).off + 3, none⟩ = some (.string x.f1.f2)) (ds := [13]) (by kernel_rfl) rfl ⟨(HV.out.drew.cell (World.block_lt_of_cell? wr _ H0.out)).trans H0.out, (HV.out.drew.cell (World.block_lt_of_cell? wr _ H1.out)).trans H1.out, (HV.out.drew.cell (World.block_lt_of_cell? wr _ H2.out)).trans H2.out, (HV.out.drew.cell (World.block_lt_of_cell? wr _ H3.out)).trans H3.out⟩ (fun hHeld => ?_)
          repeat (first
            | (refine GR.pure_p (v := ?_) (a' := ?_) (by simp only [List.getElem?_toArray, List.getElem?_cons_succ, List.getElem?_cons_zero] <;> rfl) (by first | (dsimp only; done) | (dsimp only; rfl) | rfl) (by kernel_rfl) (by exact fun _ _ _ h => h) (by rfl) ?_ ?_ ?_; rotate_left; (intro w'; go_simp; with_reducible rfl); rotate_left; (simp only [Act.put, List.setIfInBounds_toArray, List.set_cons_zero, List.set_cons_succ, i64_w, i32_w]; rfl))
            | (refine GR.take_p (v := ?_) (a' := ?_) (by simp only [List.getElem?_toArray, List.getElem?_cons_succ, List.getElem?_cons_zero] <;> rfl) (by first | (dsimp only; done) | (dsimp only; rfl) | rfl) (by kernel_rfl) (by exact fun _ _ _ h => h) (by rfl) ?_ hHeld ?_ ?_; rotate_left; (rintro w' ⟨s0, s1, s2, s3⟩; go_simp; with_reducible rfl); rotate_left; (simp only [Act.put, List.setIfInBounds_toArray, List.set_cons_zero, List.set_cons_succ, i64_w, i32_w]; rfl)))
          refine two_ (i := 11) (j := 12) (Ni := some 39) (Nj := some 10) #[true, true, true, true, true, true, true, true, true, true, true, true, false, false] #[true, true, true, true, true, true, true, true, true, true, true, false, true, false] rfl rfl rfl rfl (by kernel_rfl) (by decide) (by decide) (fun K hK => ?_) (fun K hK => ?_)
          · skip
            refine goes_ Try.func11 (by kernel_rfl) rfl #[.agg #[.string x.f0, .bool false, .int .i64 x.f1.f0, .int .i64 x.f1.f1, .string x.f1.f2]] (by rfl) rfl rfl (by simp only [List.map_toArray, List.map_cons, List.map_nil]; rfl) ?_
            with_reducible refine (cutR_p (x := x) (y := y) _ HY.out).mono ?_
            rintro e w4 ⟨rfl, hb⟩
            refine ⟨_, rfl, ?_⟩
            have n1_ := Aside0.mk (below_step (by first | exact HV.out | exact HV.out.drew) hb)
            clear HV
            have HV := n1_
            clear n1_
            refine hK.out _ _ ⟨(HV.out.cell (World.block_lt_of_cell? wr _ H0.out)).trans H0.out, (HV.out.cell (World.block_lt_of_cell? wr _ H1.out)).trans H1.out, (HV.out.cell (World.block_lt_of_cell? wr _ H2.out)).trans H2.out, (HV.out.cell (World.block_lt_of_cell? wr _ H3.out)).trans H3.out⟩ (fun hHeld => ?_)
            clear hK K
            refine norm_ (a' := ?_) ?_ ?_
            rotate_left
            · show Act.put _ (some 39) _ = _
              simp only [Act.put, List.setIfInBounds_toArray, List.set_cons_zero, List.set_cons_succ, i64_w, i32_w]
              rfl
            refine one_ (i := 12) (N := some 10) #[true, true, true, true, true, true, true, true, true, true, true, true, true, false] rfl rfl (by kernel_rfl) (by decide) (fun K hK => ?_)
            refine value_ (w1 := ?_) (v := ?_) (by rfl) rfl ?_ ?_
            rotate_left 2
            · go_simp
              constructor
              · rfl
              · rfl
            have n1_ := Aside0.mk (below_alloc HV.out (.cells #[.string ⟨#[]⟩, .bool false, .int .i64 0, .int .i64 0, .string ⟨#[]⟩] 27 (0, 0)))
            have B10 := Aside0.mk (blk_new w4 (.cells #[.string ⟨#[]⟩, .bool false, .int .i64 0, .int .i64 0, .string ⟨#[]⟩] 27 (0, 0)))
            have G10 := Aside0.mk (show wr.heap.size ≤ w4.heap.size from HV.out.size)
            clear HV
            have HV := n1_
            clear n1_
            refine hK.out _ _ ⟨(HV.out.cell (World.block_lt_of_cell? wr _ H0.out)).trans H0.out, (HV.out.cell (World.block_lt_of_cell? wr _ H1.out)).trans H1.out, (HV.out.cell (World.block_lt_of_cell? wr _ H2.out)).trans H2.out, (HV.out.cell (World.block_lt_of_cell? wr _ H3.out)).trans H3.out⟩ (fun hHeld => ?_)
            clear hK K
            refine norm_ (a' := ?_) ?_ ?_
            rotate_left
            · show Act.put _ (some 10) _ = _
              simp only [Act.put, List.setIfInBounds_toArray, List.set_cons_zero, List.set_cons_succ, i64_w, i32_w]
              rfl
            clear hHeld
            obtain ⟨g10, hg⟩ : ∃ g, g = w4.heap.size := ⟨_, rfl⟩
            obtain ⟨w5, hw5⟩ : ∃ W, W = w4.alloc (.cells #[.string ⟨#[]⟩, .bool false, .int .i64 0, .int .i64 0, .string ⟨#[]⟩] 27 (0, 0)) := ⟨_, rfl⟩
            rw [← hw5] at HV B10 ⊢
            rw [← hg] at B10 G10 ⊢
            clear hw5 hg
            have hs0 := (blk_cell B10.out 0)
            have hs1 := (blk_cell B10.out 1)
            have hs2 := (blk_cell B10.out 2)
            have hs3 := (blk_cell B10.out 3)
            have hs4 := (blk_cell B10.out 4)
            have hf0 := blk_frozen B10.out 0
            have hf1 := blk_frozen B10.out 1
            have hf2 := blk_frozen B10.out 2
            have hf3 := blk_frozen B10.out 3
            have hf4 := blk_frozen B10.out 4
            replace hs0 := hs0.trans (show _ = some (.string ⟨#[]⟩) from rfl)
            replace hs1 := hs1.trans (show _ = some (.bool false) from rfl)
            replace hs2 := hs2.trans (show _ = some (.int .i64 0) from rfl)
            replace hs3 := hs3.trans (show _ = some (.int .i64 0) from rfl)
            replace hs4 := hs4.trans (show _ = some (.string ⟨#[]⟩) from rfl)
            refine last_ (i := 13) (N := none) #[true, true, true, true, true, true, true, true, true, true, true, true, true, true] rfl rfl (by kernel_rfl) (by decide) (fun K hK => ?_)
            refine skip_ (w1 := ?_) (by rfl) rfl ?_ ?_
            rotate_left
            · go_simp
              rfl
            refine hK.out _ _ ?_
            clear hK K
            refine done_ (by kernel_rfl) ?_
            clear hs0 hs1 hs2 hs3 hs4 hf0 hf1 hf2 hf3 hf4
            go_wp2_with fail
            go_meet
            exact ⟨_, rfl, blk_put (blk_put (blk_put (blk_put (blk_put B10.out 0 _ rfl) 1 _ rfl) 2 _ rfl) 3 _ rfl) 4 _ rfl, below_set (below_set (below_set (below_set (below_set HV.out G10.out) G10.out) G10.out) G10.out) G10.out⟩
          · skip
            refine value_ (w1 := ?_) (v := ?_) (by rfl) rfl ?_ ?_
            rotate_left 2
            · go_simp
              constructor
              · rfl
              · rfl
            have n1_ := Aside0.mk (below_alloc HV.out.drew (.cells #[.string ⟨#[]⟩, .bool false, .int .i64 0, .int .i64 0, .string ⟨#[]⟩] 27 (0, 0)))
            have B10 := Aside0.mk (show (wr.drew.alloc (.cells #[.string ⟨#[]⟩, .bool false, .int .i64 0, .int .i64 0, .string ⟨#[]⟩] 27 (0, 0))).heap[wr.heap.size]? = some (.cells #[.string ⟨#[]⟩, .bool false, .int .i64 0, .int .i64 0, .string ⟨#[]⟩] 27 (0, 0)) from blk_new wr.drew (.cells #[.string ⟨#[]⟩, .bool false, .int .i64 0, .int .i64 0, .string ⟨#[]⟩] 27 (0, 0)))
            have G10 := Aside0.mk (Nat.le_refl wr.heap.size)
            clear HV
            have HV := n1_
            clear n1_
            refine hK.out _ _ ⟨(HV.out.cell (World.block_lt_of_cell? wr _ H0.out)).trans H0.out, (HV.out.cell (World.block_lt_of_cell? wr _ H1.out)).trans H1.out, (HV.out.cell (World.block_lt_of_cell? wr _ H2.out)).trans H2.out, (HV.out.cell (World.block_lt_of_cell? wr _ H3.out)).trans H3.out⟩ (fun hHeld => ?_)
            clear hK K
            refine norm_ (a' := ?_) ?_ ?_
            rotate_left
            · show Act.put _ (some 10) _ = _
              simp only [Act.put, List.setIfInBounds_toArray, List.set_cons_zero, List.set_cons_succ, i64_w, i32_w]
              rfl
            refine one_ (i := 11) (N := some 39) #[true, true, true, true, true, true, true, true, true, true, true, true, true, false] rfl rfl (by kernel_rfl) (by decide) (fun K hK => ?_)
            refine goes_ Try.func11 (by kernel_rfl) rfl #[.agg #[.string x.f0, .bool false, .int .i64 x.f1.f0, .int .i64 x.f1.f1, .string x.f1.f2]] (by rfl) rfl rfl (by simp only [List.map_toArray, List.map_cons, List.map_nil]; rfl) ?_
            with_reducible refine (cutR_p (x := x) (y := y) _ HY.out).mono ?_
            rintro e w4 ⟨rfl, hb⟩
            refine ⟨_, rfl, ?_⟩
            have n1_ := Aside0.mk (below_step (by first | exact HV.out | exact HV.out.drew) hb)
            clear HV
            have HV := n1_
            clear n1_
            have n1_ := Aside0.mk (blk_below B10.out hb)
            clear B10
            have B10 := n1_
            clear n1_ hb
            refine hK.out _ _ ⟨(HV.out.cell (World.block_lt_of_cell? wr _ H0.out)).trans H0.out, (HV.out.cell (World.block_lt_of_cell? wr _ H1.out)).trans H1.out, (HV.out.cell (World.block_lt_of_cell? wr _ H2.out)).trans H2.out, (HV.out.cell (World.block_lt_of_cell? wr _ H3.out)).trans H3.out⟩ (fun hHeld => ?_)
            clear hK K
            refine norm_ (a' := ?_) ?_ ?_
            rotate_left
            · show Act.put _ (some 39) _ = _
              simp only [Act.put, List.setIfInBounds_toArray, List.set_cons_zero, List.set_cons_succ, i64_w, i32_w]
              rfl
            have hs0 := (blk_cell B10.out 0)
            have hs1 := (blk_cell B10.out 1)
            have hs2 := (blk_cell B10.out 2)
            have hs3 := (blk_cell B10.out 3)
            have hs4 := (blk_cell B10.out 4)
            have hf0 := blk_frozen B10.out 0
            have hf1 := blk_frozen B10.out 1
            have hf2 := blk_frozen B10.out 2
            have hf3 := blk_frozen B10.out 3
            have hf4 := blk_frozen B10.out 4
            replace hs0 := hs0.trans (show _ = some (.string ⟨#[]⟩) from rfl)
            replace hs1 := hs1.trans (show _ = some (.bool false) from rfl)
            replace hs2 := hs2.trans (show _ = some (.int .i64 0) from rfl)
            replace hs3 := hs3.trans (show _ = some (.int .i64 0) from rfl)
            replace hs4 := hs4.trans (show _ = some (.string ⟨#[]⟩) from rfl)
            refine last_ (i := 13) (N := none) #[true, true, true, true, true, true, true, true, true, true, true, true, true, true] rfl rfl (by kernel_rfl) (by decide) (fun K hK => ?_)
            refine skip_ (w1 := ?_) (by rfl) rfl ?_ ?_
            rotate_left
            · go_simp
              rfl
            refine hK.out _ _ ?_
            clear hK K
            refine done_ (by kernel_rfl) ?_
            clear hs0 hs1 hs2 hs3 hs4 hf0 hf1 hf2 hf3 hf4
            go_wp2_with fail
            go_meet
            exact ⟨_, rfl, blk_put (blk_put (blk_put (blk_put (blk_put B10.out 0 _ rfl) 1 _ rfl) 2 _ rfl) 3 _ rfl) 4 _ rfl, below_set (below_set (below_set (below_set (below_set HV.out G10.out) G10.out) G10.out) G10.out) G10.out⟩
        case rest =>
          obtain ⟨g10, rfl, hblk, hbl⟩ := hcut
          obtain ⟨w5, hw⟩ : ∃ W, W = wc := ⟨_, rfl⟩
          subst hw
          have HO5 := Aside0.mk (Kd.R_below HO.out hbl)
          have HW5 := Aside0.mk (below_step HW.out hbl)
          have hs0 : w5.cell? ⟨g10, 0, none⟩ = some (.string y.f0) := (blk_cell hblk 0).trans rfl
          have hs2 : w5.cell? ⟨g10, 2, none⟩ = some (.int .i64 y.f1.f0) := (blk_cell hblk 2).trans rfl
          have hs3 : w5.cell? ⟨g10, 3, none⟩ = some (.int .i64 y.f1.f1) := (blk_cell hblk 3).trans rfl
          have hs4 : w5.cell? ⟨g10, 4, none⟩ = some (.string y.f1.f2) := (blk_cell hblk 4).trans rfl
          have HRL := Aside0.mk (rowF_len (M := L) (i := i) (by rw [← HM.out]; have := HLT.out; omega))
          clear HO HW HV H0 H1 H2 H3 hblk hbl
          go_wp2_with (first
            | ((with_reducible refine gate_dst (N := 46) rfl ?_); refine Kd.R_lit k30 (w0 := w3) w3.heap.size 30 ?hg (N := 46) ?hd (xs := [y]) (inner := [.string y.f0, .int .i64 y.f1.f0, .int .i64 y.f1.f1, .string y.f1.f2]) (ok := fun _ => True) (okp := fun _ => True) ?hr (lit1P _ _ y) (fun _ hk => hk) trivial HW5.out HW5.out.size (by simp) ?_; (case hd => rfl); (case hg => rfl); (case hr => first | (go_simp; done) | (go_simp; rfl)); intro v46 w6 ho hb hg hat; obtain ⟨A46, c46, rfl, hn46, hC46⟩ := Kd.R_reads ho; have HL46 := Aside0.mk hC46; have n1_ := Aside0.mk (Kd.R_grown HO5.out hg (fun _ _ => by simp)); have n2_ := Aside0.mk hb; clear HO5 HW5 ho hb hg hat hn46 hC46 hs0 hs2 hs3 hs4; have HO := n1_; have HW := n2_; clear n1_ n2_)
            | ((with_reducible refine gate_builtin (b := .append) (xs := #[.tmp 40, .tmp 46]) rfl ?_); at_builtin; refine appP (w0 := w3) rfl (.tmp 40) (.tmp 46) rfl u8 (rowF L i) [y] A46 1 c46 rfl rfl HO.out HL46.out HW.out (by rw [HRL.out]; have := HLT.out; have := HM20.out; omega) ?_; intro v47 w7 ho hb; rw [← HST.out] at ho; have n1_ := Aside0.mk ho; have n2_ := Aside0.mk hb; clear HO HW ho hb HL46; have HO := n1_; have HW := n2_; clear n1_ n2_))
          refine ⟨⟨i + 1, by first | rfl | go_num, by have := HLT.out; omega, HO, HW⟩, ?_⟩
          have := HLT.out
          simp [intOf]
          omega
      · obtain rfl : i = M := by omega
        have hl1 : decide ((i : Int) < (i : Int)) = false := decide_eq_false (by omega)
        have hl2 : decide (i < i) = false := decide_eq_false (by omega)
        obtain ⟨p, hp⟩ : ∃ p, p = rowF L i := ⟨_, rfl⟩
        have HPN := Aside0.mk (show i = p.length by rw [hp, rowF_len (by rw [← HM.out]; exact Nat.le_refl _)])
        have HSM := Aside0.mk (show ∀ x ∈ p, x.f0.size < 17592186044416 ∧ x.f1.f2.size < 17592186044416 by rw [hp]; exact rowF_sm L i)
        rw [← hp] at HO
        obtain ⟨A8, c8, rfl, hn8, hC8⟩ := Kd.R_reads HO.out
        rw [← HPN.out] at hn8 hC8 ⊢
        have HP := Aside0.mk hC8
        have HN8 := Aside0.mk hn8
        have HB2 := Aside0.mk (below_step HB.out HW.out)
        clear HB HW HO hp hn8 hC8 hlt hi
        have HB := HB2
        clear HB2
        have HCA := Aside0.mk (cut_p (s := a) 20)
        have HCB := Aside0.mk (cut_p (s := b) 20)
        obtain ⟨a1, ha⟩ : ∃ s, s = cutS 20 a := ⟨_, rfl⟩
        obtain ⟨b1, hb1⟩ : ∃ s, s = cutS 20 b := ⟨_, rfl⟩
        have HA1 := Aside0.mk (show a1.size < 17592186044416 by rw [ha]; exact Nat.lt_of_le_of_lt (cutS_size 20 a) (by decide))
        have HB1 := Aside0.mk (show b1.size < 17592186044416 by rw [hb1]; exact Nat.lt_of_le_of_lt (cutS_size 20 b) (by decide))
        rw [← ha] at HCA
        rw [← hb1] at HCB
        obtain ⟨vl, hvl⟩ : ∃ v, ltK a1 b1 = v := ⟨_, rfl⟩
        have HVL := Aside0.mk hvl
        clear ha hb1 hvl
        by_cases hm : MayP p
        · have HNEW := Aside0.mk hm
          clear hm
          go_wp2_with (first
            | (go_at_call 12; (first | (refine (HCA.out _).mono ?_; rintro e w4 ⟨rfl, hb⟩; have n1_ := Aside0.mk (below_step HB.out hb); have n2_ := Aside0.mk (Kd.C_below HP.out hb); clear HB HP hb; have HB := n1_; have HP := n2_; clear n1_ n2_; clear HCA) | (refine (HCB.out _).mono ?_; rintro e w5 ⟨rfl, hb⟩; have n1_ := Aside0.mk (below_step HB.out hb); have n2_ := Aside0.mk (Kd.C_below HP.out hb); clear HB HP hb; have HB := n1_; have HP := n2_; clear n1_ n2_)))
            | (go_at_call 13; refine (new_ok HPN.out HP.out HN8.out HSM.out HNEW.out).mono ?_; rintro e w6 ⟨g, rfl, hb⟩; have n1_ := Aside0.mk (below_step HB.out hb); have n2_ := Aside0.mk (Kd.C_below HP.out hb); clear HB HP hb; have HB := n1_; have HP := n2_; clear n1_ n2_)
            | (go_at_call 14; (with_reducible refine (may_b (v := true) HPN.out HP.out HN8.out (by have := HM20.out; omega) HSM.out ⟨fun _ => HNEW.out, fun _ => rfl⟩).mono ?_); rintro e w7 ⟨rfl, hb⟩; have n1_ := Aside0.mk (below_step HB.out hb); have n2_ := Aside0.mk (Kd.C_below HP.out hb); clear HB HP hb; have HB := n1_; have HP := n2_; clear n1_ n2_)
            | (go_at_call 15; (with_reducible refine (less_p _ HA1.out HB1.out HVL.out).mono ?_); rintro e w8 ⟨rfl, hb⟩; have n1_ := Aside0.mk (below_step HB.out hb); have n2_ := Aside0.mk (Kd.C_below HP.out hb); clear HB HP hb; have HB := n1_; have HP := n2_; clear n1_ n2_)
            | (go_at_call 16; (with_reducible refine (refLess_p _ HA1.out HB1.out HVL.out).mono ?_); rintro e w9 ⟨rfl, hb⟩; have n1_ := Aside0.mk (below_step HB.out hb); have n2_ := Aside0.mk (Kd.C_below HP.out hb); clear HB HP hb; have HB := n1_; have HP := n2_; clear n1_ n2_))
          all_goals (go_ret; exact ⟨by first | rfl | (cases vl <;> rfl), HB.out⟩)
        · have HNEW := Aside0.mk hm
          clear hm
          go_wp2_with (first
            | (go_at_call 12; (first | (refine (HCA.out _).mono ?_; rintro e w4 ⟨rfl, hb⟩; have n1_ := Aside0.mk (below_step HB.out hb); have n2_ := Aside0.mk (Kd.C_below HP.out hb); clear HB HP hb; have HB := n1_; have HP := n2_; clear n1_ n2_; clear HCA) | (refine (HCB.out _).mono ?_; rintro e w5 ⟨rfl, hb⟩; have n1_ := Aside0.mk (below_step HB.out hb); have n2_ := Aside0.mk (Kd.C_below HP.out hb); clear HB HP hb; have HB := n1_; have HP := n2_; clear n1_ n2_)))
            | (go_at_call 13; (with_reducible refine (new_bad HPN.out HP.out HN8.out HSM.out HNEW.out).mono ?_); rintro e w6 ⟨rfl, hb⟩; have n1_ := Aside0.mk (below_step HB.out hb); have n2_ := Aside0.mk (Kd.C_below HP.out hb); clear HB HP hb; have HB := n1_; have HP := n2_; clear n1_ n2_)
            | (go_at_call 14; (with_reducible refine (may_b (v := false) HPN.out HP.out HN8.out (by have := HM20.out; omega) HSM.out ⟨fun h => absurd h Bool.false_ne_true, fun h => absurd h HNEW.out⟩).mono ?_); rintro e w7 ⟨rfl, hb⟩; have n1_ := Aside0.mk (below_step HB.out hb); have n2_ := Aside0.mk (Kd.C_below HP.out hb); clear HB HP hb; have HB := n1_; have HP := n2_; clear n1_ n2_)
            | (go_at_call 15; (with_reducible refine (less_p _ HA1.out HB1.out HVL.out).mono ?_); rintro e w8 ⟨rfl, hb⟩; have n1_ := Aside0.mk (below_step HB.out hb); have n2_ := Aside0.mk (Kd.C_below HP.out hb); clear HB HP hb; have HB := n1_; have HP := n2_; clear n1_ n2_)
            | (go_at_call 16; (with_reducible refine (refLess_p _ HA1.out HB1.out HVL.out).mono ?_); rintro e w9 ⟨rfl, hb⟩; have n1_ := Aside0.mk (below_step HB.out hb); have n2_ := Aside0.mk (Kd.C_below HP.out hb); clear HB HP hb; have HB := n1_; have HP := n2_; clear n1_ n2_))
          all_goals (go_ret; exact ⟨by first | rfl | (cases vl <;> rfl), HB.out⟩)
theorem SortedForm.walk (P : True) (a0 : Option Addr) (len0 cap0 : Nat) (z0 : List S30) (a b : ByteArray) (w : World) (w0 : O.IsRows k30 O.ok30 w a0 len0 cap0 z0) (w1 : a.size ≤ 140737488351232) (w2 : b.size ≤ 140737488351232) :
    Calls Try.prog 3 #[.slice a0 len0 cap0, .string a, .string b] w fun e w' => e = .returned (.bool true) ∧ Below w.heap.size w w' := by
  obtain ⟨rfl, g1, g2, g3, g4⟩ := w0
  exact SortedForm.core a b rfl g3 g1
end Go.Proofs.Ytkhcmddeeodbkaa.GL
