import Derived.Test.YtkhcmddeeodbkaaZSortedAll23
-- Own texts and, of the words that the kit's print program wrote for this claim, those that are needed here: put together by wip/prune.py.
set_option linter.unusedSimpArgs false
set_option linter.unusedVariables false
namespace Go.Proofs.Ytkhcmddeeodbkaa.GL
open Go.RowKit Go.Proofs.YtkhcmddeeodbkaaW.PrintWords Go.Proofs.YtkhcmddeeodbkaaW.PrintLast Go.Proofs.YtkhcmddeeodbkaaW.PrintMore Go.Proofs.Ytkhcmddeeodbkaa.Q Go.Proofs.Ytkhcmddeeodbkaa.XSor Go.Proofs.Ytkhcmddeeodbkaa.G
theorem refLess_p {a b : ByteArray} {v : Bool} (w : World) (ha : a.size < 17592186044416) (hb : b.size < 17592186044416) (h : ltK a b = v) :
    Calls Try.prog 16 #[.string a, .string b] w fun e w' => e = .returned (.bool v) ∧ Below w.heap.size w w' := by
 obtain ⟨k, hk⟩ := (refLess_ev ha hb).rounds
 rw [h] at hk
 exact loessref22_Less.calls k a b _ _ hk
theorem mayKey_p {s : ByteArray} {v : Bool} (w : World) (h : keyB s = v) : Calls Try.prog 34 #[.string s] w fun e w' => e = .returned (.bool v) ∧ Below w.heap.size w w' := by
 have h1 := mayKey_eq s
 rw [h] at h1
 exact (loessref1_MayKey.calls s v w h1).mono (fun e w' ⟨h1, ⟨n, h2⟩⟩ => ⟨h1, by rw [h2]; exact pw_below_drewN (Below.refl _ _) n⟩)
theorem mayVal_p {x : Rw} {v : Bool} (w : World) (hs : x.f2.size < 17592186044416) (h : mayV x.f0 x.f1 x.f2 = v) : Calls Try.prog 35 #[.agg #[.int .i64 x.f0, .int .i64 x.f1, .string x.f2]] w fun e w' => e = .returned (.bool v) ∧ Below w.heap.size w w' := by
 obtain ⟨k, hk⟩ := (may_ev x.f0 x.f1 hs).rounds
 rw [h] at hk
 exact loessref1_MayVal.calls k x.f0 x.f1 x.f2 _ w hk
theorem okP_eq (p : Pr) : okP p = (keyB p.f0 && mayV p.f1.f0 p.f1.f1 p.f1.f2) := rfl
set_option maxRecDepth 1000000 in
set_option maxHeartbeats 8000000 in
theorem ref_MayPairs {w : World} {A : Option Addr} {n c : Nat} {L : List Pr} (hn : n = L.length) (hC : Kd.C k30 w A n L) (hc : n ≤ c) (hl : n ≤ 1000000) (hk : ∀ p ∈ L, p.f0.size < 17592186044416 ∧ p.f1.f2.size < 17592186044416) :
    Calls Try.prog 14 #[.slice A n c] w fun e w' => ∃ b, e = .returned (.bool b) ∧ (b = true ↔ MayP L) ∧ Below w.heap.size w w' := by
 have HN := Aside0.mk hn
 have HK := Aside0.mk hk
 have HC := Aside0.mk hC
 have HNL := Aside0.mk hl
 have HX := Aside0.mk (Below.refl w.heap.size w)
 have hnz : (n : Int) ≤ 1000000 := by omega
 clear hn hC hc hk hl
 go_enter Try.func14, Try.ntmps14
 go_wp2
 go_loopw [3] (fun v3 wr => ∃ (i : Nat), v3 = .int .i64 i ∧ i ≤ n ∧ Aside0 (∀ j, j < i → good L j) ∧ Aside0 (Below w.heap.size w wr)) (fun v _ => n - (intOf v).toNat)
 case atStart => exact ⟨0, by first | rfl | go_num, Nat.zero_le _, ⟨fun j hj => by omega⟩, HX⟩
 case round =>
  clear HX
  obtain ⟨i, rfl, hi, HG, HW⟩ := hrel
  by_cases hlt : i < n
  · have HLT := Aside0.mk hlt
    have hltz : (i : Int) < (L.length : Int) := by rw [← HN.out]; omega
    have hltz2 : (i : Int) < (n : Int) := by omega
    have hl1 : decide ((i : Int) < (n : Int)) = true := decide_eq_true (by omega)
    have hl2 := decide_eq_true hlt
    obtain ⟨ad, e, h0, h1, h2, h3⟩ := at_T30 (by have := HC.out; rw [HN.out] at this; exact this) (i : Int) (Int.natCast_nonneg _) hltz
    cases e
    simp only [Int.toNat_natCast] at h0 h1 h2 h3
    have hLi : rd_T30 L (i : Int) = L[i]'(by rw [← HN.out]; exact HLT.out) := by simp [rd_T30, ← HN.out, hlt]
    obtain ⟨x, hx⟩ : ∃ x, x = rd_T30 L (i : Int) := ⟨_, rfl⟩
    rw [← hx] at h0 h1 h2 h3 hLi
    have HLI := Aside0.mk hLi
    have HKX := Aside0.mk (HK.out x (by rw [hLi]; exact List.getElem_mem _))
    have H0 := Aside0.mk h0
    have H1 := Aside0.mk h1
    have H2 := Aside0.mk h2
    have H3 := Aside0.mk h3
    have hOK := okP_eq x
    obtain ⟨vk, hvk⟩ : ∃ v, keyB x.f0 = v := ⟨_, rfl⟩
    obtain ⟨vv, hvv⟩ : ∃ v, mayV x.f1.f0 x.f1.f1 x.f1.f2 = v := ⟨_, rfl⟩
    rw [hvk, hvv] at hOK
    have HKK := Aside0.mk hvk
    have HKV := Aside0.mk hvv
    clear hx hLi hvk hvv hltz hlt hi h0 h1 h2 h3
    go_upto_region 4 with (fail)
    go_cut [44] (fun v44 wx => ∃ bb : Bool, v44 = .bool bb ∧ (bb = false ↔ good L i) ∧ Below w.heap.size w wx)
    case first =>
     cases hok : vk && vv with
     | false =>
       have HNG := Aside0.mk (show ¬ good L i from fun ⟨_, h, _⟩ => by rw [← HLI.out, hOK, hok] at h; cases h)
       clear hOK
       cases vk
       · clear hok
         refine GR.start_p (n := 35) (S := fun w' => w'.cell? (ad.add (i * 4)) = some (.string x.f0) ∧ w'.cell? ⟨(ad.add (i * 4)).block, (ad.add (i * 4)).off + 1, none⟩ = some (.int .i64 x.f1.f0) ∧ w'.cell? ⟨(ad.add (i * 4)).block, (ad.add (i * 4)).off + 2, none⟩ = some (.int .i64 x.f1.f1) ∧ w'.cell? ⟨(ad.add (i * 4)).block, (ad.add (i * 4)).off + 3, none⟩ = some (.string x.f1.f2)) (ds := []) (by kernel_rfl) rfl ⟨((HW.out.drew.cell (World.block_lt_of_cell? w _ H0.out)).trans H0.out), ((HW.out.drew.cell (World.block_lt_of_cell? w _ H1.out)).trans H1.out), ((HW.out.drew.cell (World.block_lt_of_cell? w _ H2.out)).trans H2.out), ((HW.out.drew.cell (World.block_lt_of_cell? w _ H3.out)).trans H3.out)⟩ (fun hHeld => ?_)
         repeat (first
          | (refine GR.off_p (a' := ?_) (by simp only [List.getElem?_toArray, List.getElem?_cons_succ, List.getElem?_cons_zero] <;> rfl) (by first | (dsimp only; done) | (dsimp only; rfl) | rfl) (by kernel_rfl) (by exact fun _ _ _ h => h) (by rfl) ?_ ?_; rotate_left; (simp only [Act.put, List.setIfInBounds_toArray, List.set_cons_zero, List.set_cons_succ, i64_w, i32_w]; rfl))
          | (refine GR.pure_p (v := ?_) (a' := ?_) (by simp only [List.getElem?_toArray, List.getElem?_cons_succ, List.getElem?_cons_zero] <;> rfl) (by first | (dsimp only; done) | (dsimp only; rfl) | rfl) (by kernel_rfl) (by exact fun _ _ _ h => h) (by rfl) ?_ ?_ ?_; rotate_left; (intro w'; go_simp; with_reducible rfl); rotate_left; (simp only [Act.put, List.setIfInBounds_toArray, List.set_cons_zero, List.set_cons_succ, i64_w, i32_w]; rfl))
          | (refine GR.take_p (v := ?_) (a' := ?_) (by simp only [List.getElem?_toArray, List.getElem?_cons_succ, List.getElem?_cons_zero] <;> rfl) (by first | (dsimp only; done) | (dsimp only; rfl) | rfl) (by kernel_rfl) (by exact fun _ _ _ h => h) (by rfl) ?_ hHeld ?_ ?_; rotate_left; (rintro w' ⟨s0, s1, s2, s3⟩; go_simp; with_reducible rfl); rotate_left; (simp only [Act.put, List.setIfInBounds_toArray, List.set_cons_zero, List.set_cons_succ, i64_w, i32_w]; rfl))
          | (refine GR.one_p (by simp only [List.getElem?_toArray, List.getElem?_cons_succ, List.getElem?_cons_zero] <;> rfl) (by first | (dsimp only; done) | (dsimp only; rfl) | rfl) (by kernel_rfl) (by decide) (fun K hK => ?_); (first
         | (refine goes_ Try.func34 (by kernel_rfl) rfl #[.string x.f0] (by rfl) rfl rfl (by simp only [List.map_toArray, List.map_cons, List.map_nil]; rfl) ?_; (with_reducible refine (mayKey_p _ HKK.out).mono ?_); rintro e w2 ⟨rfl, hb⟩; refine ⟨_, rfl, ?_⟩; have n1_ := Aside0.mk (below_step (by first | exact HW.out | exact HW.out.drew) hb); clear HW hb; have HW := n1_; clear n1_)
         | (refine goes_ Try.func35 (by kernel_rfl) rfl #[.agg #[.int .i64 x.f1.f0, .int .i64 x.f1.f1, .string x.f1.f2]] (by rfl) rfl rfl (by simp only [List.map_toArray, List.map_cons, List.map_nil]; rfl) ?_; (with_reducible refine (mayVal_p _ HKX.out.2 HKV.out).mono ?_); rintro e w2 ⟨rfl, hb⟩; refine ⟨_, rfl, ?_⟩; have n1_ := Aside0.mk (below_step (by first | exact HW.out | exact HW.out.drew) hb); clear HW hb; have HW := n1_; clear n1_)
         | (refine goes_ Try.func16 (by kernel_rfl) rfl #[.string y.f0, .string x.f0] (by rfl) rfl rfl (by simp only [List.map_toArray, List.map_cons, List.map_nil]; rfl) ?_; (with_reducible refine (refLess_p _ HKY.out HKX.out.1 HKL.out).mono ?_); rintro e w2 ⟨rfl, hb⟩; refine ⟨_, rfl, ?_⟩; have n1_ := Aside0.mk (below_step (by first | exact HW.out | exact HW.out.drew) hb); clear HW hb; have HW := n1_; clear n1_)
             ); (refine hK.out _ _ (by first | exact ⟨((HW.out.cell (World.block_lt_of_cell? w _ H0.out)).trans H0.out), ((HW.out.cell (World.block_lt_of_cell? w _ H1.out)).trans H1.out), ((HW.out.cell (World.block_lt_of_cell? w _ H2.out)).trans H2.out), ((HW.out.cell (World.block_lt_of_cell? w _ H3.out)).trans H3.out)⟩ | exact ⟨((HW.out.drew.cell (World.block_lt_of_cell? w _ H0.out)).trans H0.out), ((HW.out.drew.cell (World.block_lt_of_cell? w _ H1.out)).trans H1.out), ((HW.out.drew.cell (World.block_lt_of_cell? w _ H2.out)).trans H2.out), ((HW.out.drew.cell (World.block_lt_of_cell? w _ H3.out)).trans H3.out)⟩) (fun hHeld => ?_)); clear hK K; refine norm_ (a' := ?_) ?_ ?_; rotate_left; (show Act.put _ _ _ = _; simp only [Act.put, List.setIfInBounds_toArray, List.set_cons_zero, List.set_cons_succ, i64_w, i32_w]; rfl)))
         refine done_ (by kernel_rfl) ?_
         go_wp2_with fail
         go_meet
         exact ⟨true, rfl, ⟨fun h => (by exact absurd h.symm Bool.false_ne_true), fun h => absurd h HNG.out⟩, HW.out⟩
       · cases vv
         · clear hok
           refine GR.start_p (n := 35) (S := fun w' => w'.cell? (ad.add (i * 4)) = some (.string x.f0) ∧ w'.cell? ⟨(ad.add (i * 4)).block, (ad.add (i * 4)).off + 1, none⟩ = some (.int .i64 x.f1.f0) ∧ w'.cell? ⟨(ad.add (i * 4)).block, (ad.add (i * 4)).off + 2, none⟩ = some (.int .i64 x.f1.f1) ∧ w'.cell? ⟨(ad.add (i * 4)).block, (ad.add (i * 4)).off + 3, none⟩ = some (.string x.f1.f2)) (ds := []) (by kernel_rfl) rfl ⟨((HW.out.drew.cell (World.block_lt_of_cell? w _ H0.out)).trans H0.out), ((HW.out.drew.cell (World.block_lt_of_cell? w _ H1.out)).trans H1.out), ((HW.out.drew.cell (World.block_lt_of_cell? w _ H2.out)).trans H2.out), ((HW.out.drew.cell (World.block_lt_of_cell? w _ H3.out)).trans H3.out)⟩ (fun hHeld => ?_)
           repeat (first
            | (refine GR.off_p (a' := ?_) (by simp only [List.getElem?_toArray, List.getElem?_cons_succ, List.getElem?_cons_zero] <;> rfl) (by first | (dsimp only; done) | (dsimp only; rfl) | rfl) (by kernel_rfl) (by exact fun _ _ _ h => h) (by rfl) ?_ ?_; rotate_left; (simp only [Act.put, List.setIfInBounds_toArray, List.set_cons_zero, List.set_cons_succ, i64_w, i32_w]; rfl))
            | (refine GR.pure_p (v := ?_) (a' := ?_) (by simp only [List.getElem?_toArray, List.getElem?_cons_succ, List.getElem?_cons_zero] <;> rfl) (by first | (dsimp only; done) | (dsimp only; rfl) | rfl) (by kernel_rfl) (by exact fun _ _ _ h => h) (by rfl) ?_ ?_ ?_; rotate_left; (intro w'; go_simp; with_reducible rfl); rotate_left; (simp only [Act.put, List.setIfInBounds_toArray, List.set_cons_zero, List.set_cons_succ, i64_w, i32_w]; rfl))
            | (refine GR.take_p (v := ?_) (a' := ?_) (by simp only [List.getElem?_toArray, List.getElem?_cons_succ, List.getElem?_cons_zero] <;> rfl) (by first | (dsimp only; done) | (dsimp only; rfl) | rfl) (by kernel_rfl) (by exact fun _ _ _ h => h) (by rfl) ?_ hHeld ?_ ?_; rotate_left; (rintro w' ⟨s0, s1, s2, s3⟩; go_simp; with_reducible rfl); rotate_left; (simp only [Act.put, List.setIfInBounds_toArray, List.set_cons_zero, List.set_cons_succ, i64_w, i32_w]; rfl))
            | (refine GR.one_p (by simp only [List.getElem?_toArray, List.getElem?_cons_succ, List.getElem?_cons_zero] <;> rfl) (by first | (dsimp only; done) | (dsimp only; rfl) | rfl) (by kernel_rfl) (by decide) (fun K hK => ?_); (first
           | (refine goes_ Try.func34 (by kernel_rfl) rfl #[.string x.f0] (by rfl) rfl rfl (by simp only [List.map_toArray, List.map_cons, List.map_nil]; rfl) ?_; (with_reducible refine (mayKey_p _ HKK.out).mono ?_); rintro e w2 ⟨rfl, hb⟩; refine ⟨_, rfl, ?_⟩; have n1_ := Aside0.mk (below_step (by first | exact HW.out | exact HW.out.drew) hb); clear HW hb; have HW := n1_; clear n1_)
           | (refine goes_ Try.func35 (by kernel_rfl) rfl #[.agg #[.int .i64 x.f1.f0, .int .i64 x.f1.f1, .string x.f1.f2]] (by rfl) rfl rfl (by simp only [List.map_toArray, List.map_cons, List.map_nil]; rfl) ?_; (with_reducible refine (mayVal_p _ HKX.out.2 HKV.out).mono ?_); rintro e w2 ⟨rfl, hb⟩; refine ⟨_, rfl, ?_⟩; have n1_ := Aside0.mk (below_step (by first | exact HW.out | exact HW.out.drew) hb); clear HW hb; have HW := n1_; clear n1_)
           | (refine goes_ Try.func16 (by kernel_rfl) rfl #[.string y.f0, .string x.f0] (by rfl) rfl rfl (by simp only [List.map_toArray, List.map_cons, List.map_nil]; rfl) ?_; (with_reducible refine (refLess_p _ HKY.out HKX.out.1 HKL.out).mono ?_); rintro e w2 ⟨rfl, hb⟩; refine ⟨_, rfl, ?_⟩; have n1_ := Aside0.mk (below_step (by first | exact HW.out | exact HW.out.drew) hb); clear HW hb; have HW := n1_; clear n1_)
               ); (refine hK.out _ _ (by first | exact ⟨((HW.out.cell (World.block_lt_of_cell? w _ H0.out)).trans H0.out), ((HW.out.cell (World.block_lt_of_cell? w _ H1.out)).trans H1.out), ((HW.out.cell (World.block_lt_of_cell? w _ H2.out)).trans H2.out), ((HW.out.cell (World.block_lt_of_cell? w _ H3.out)).trans H3.out)⟩ | exact ⟨((HW.out.drew.cell (World.block_lt_of_cell? w _ H0.out)).trans H0.out), ((HW.out.drew.cell (World.block_lt_of_cell? w _ H1.out)).trans H1.out), ((HW.out.drew.cell (World.block_lt_of_cell? w _ H2.out)).trans H2.out), ((HW.out.drew.cell (World.block_lt_of_cell? w _ H3.out)).trans H3.out)⟩) (fun hHeld => ?_)); clear hK K; refine norm_ (a' := ?_) ?_ ?_; rotate_left; (show Act.put _ _ _ = _; simp only [Act.put, List.setIfInBounds_toArray, List.set_cons_zero, List.set_cons_succ, i64_w, i32_w]; rfl)))
           refine done_ (by kernel_rfl) ?_
           go_wp2_with fail
           go_meet
           exact ⟨true, rfl, ⟨fun h => (by exact absurd h.symm Bool.false_ne_true), fun h => absurd h HNG.out⟩, HW.out⟩
         · cases hok
     | true =>
       rw [Bool.and_eq_true] at hok
       obtain ⟨rfl, rfl⟩ := hok
       have HOK := Aside0.mk (show okP x = true from hOK)
       clear hOK
       by_cases hi0 : i = 0
       · have hz : decide ((0 : Int) < (i : Int)) = false := decide_eq_false (by omega)
         have hz2 : decide (0 < i) = false := decide_eq_false (by omega)
         have HGI := Aside0.mk (show good L i from ⟨by rw [← HN.out]; exact HLT.out, by rw [← HLI.out]; exact HOK.out, fun h => by omega⟩)
         clear hi0
         refine GR.start_p (n := 35) (S := fun w' => w'.cell? (ad.add (i * 4)) = some (.string x.f0) ∧ w'.cell? ⟨(ad.add (i * 4)).block, (ad.add (i * 4)).off + 1, none⟩ = some (.int .i64 x.f1.f0) ∧ w'.cell? ⟨(ad.add (i * 4)).block, (ad.add (i * 4)).off + 2, none⟩ = some (.int .i64 x.f1.f1) ∧ w'.cell? ⟨(ad.add (i * 4)).block, (ad.add (i * 4)).off + 3, none⟩ = some (.string x.f1.f2)) (ds := []) (by kernel_rfl) rfl ⟨((HW.out.drew.cell (World.block_lt_of_cell? w _ H0.out)).trans H0.out), ((HW.out.drew.cell (World.block_lt_of_cell? w _ H1.out)).trans H1.out), ((HW.out.drew.cell (World.block_lt_of_cell? w _ H2.out)).trans H2.out), ((HW.out.drew.cell (World.block_lt_of_cell? w _ H3.out)).trans H3.out)⟩ (fun hHeld => ?_)
         repeat (first
          | (refine GR.off_p (a' := ?_) (by simp only [List.getElem?_toArray, List.getElem?_cons_succ, List.getElem?_cons_zero] <;> rfl) (by first | (dsimp only; done) | (dsimp only; rfl) | rfl) (by kernel_rfl) (by exact fun _ _ _ h => h) (by rfl) ?_ ?_; rotate_left; (simp only [Act.put, List.setIfInBounds_toArray, List.set_cons_zero, List.set_cons_succ, i64_w, i32_w]; rfl))
          | (refine GR.pure_p (v := ?_) (a' := ?_) (by simp only [List.getElem?_toArray, List.getElem?_cons_succ, List.getElem?_cons_zero] <;> rfl) (by first | (dsimp only; done) | (dsimp only; rfl) | rfl) (by kernel_rfl) (by exact fun _ _ _ h => h) (by rfl) ?_ ?_ ?_; rotate_left; (intro w'; go_simp; with_reducible rfl); rotate_left; (simp only [Act.put, List.setIfInBounds_toArray, List.set_cons_zero, List.set_cons_succ, i64_w, i32_w]; rfl))
          | (refine GR.take_p (v := ?_) (a' := ?_) (by simp only [List.getElem?_toArray, List.getElem?_cons_succ, List.getElem?_cons_zero] <;> rfl) (by first | (dsimp only; done) | (dsimp only; rfl) | rfl) (by kernel_rfl) (by exact fun _ _ _ h => h) (by rfl) ?_ hHeld ?_ ?_; rotate_left; (rintro w' ⟨s0, s1, s2, s3⟩; go_simp; with_reducible rfl); rotate_left; (simp only [Act.put, List.setIfInBounds_toArray, List.set_cons_zero, List.set_cons_succ, i64_w, i32_w]; rfl))
          | (refine GR.one_p (by simp only [List.getElem?_toArray, List.getElem?_cons_succ, List.getElem?_cons_zero] <;> rfl) (by first | (dsimp only; done) | (dsimp only; rfl) | rfl) (by kernel_rfl) (by decide) (fun K hK => ?_); (first
         | (refine goes_ Try.func34 (by kernel_rfl) rfl #[.string x.f0] (by rfl) rfl rfl (by simp only [List.map_toArray, List.map_cons, List.map_nil]; rfl) ?_; (with_reducible refine (mayKey_p _ HKK.out).mono ?_); rintro e w2 ⟨rfl, hb⟩; refine ⟨_, rfl, ?_⟩; have n1_ := Aside0.mk (below_step (by first | exact HW.out | exact HW.out.drew) hb); clear HW hb; have HW := n1_; clear n1_)
         | (refine goes_ Try.func35 (by kernel_rfl) rfl #[.agg #[.int .i64 x.f1.f0, .int .i64 x.f1.f1, .string x.f1.f2]] (by rfl) rfl rfl (by simp only [List.map_toArray, List.map_cons, List.map_nil]; rfl) ?_; (with_reducible refine (mayVal_p _ HKX.out.2 HKV.out).mono ?_); rintro e w2 ⟨rfl, hb⟩; refine ⟨_, rfl, ?_⟩; have n1_ := Aside0.mk (below_step (by first | exact HW.out | exact HW.out.drew) hb); clear HW hb; have HW := n1_; clear n1_)
         | (refine goes_ Try.func16 (by kernel_rfl) rfl #[.string y.f0, .string x.f0] (by rfl) rfl rfl (by simp only [List.map_toArray, List.map_cons, List.map_nil]; rfl) ?_; (with_reducible refine (refLess_p _ HKY.out HKX.out.1 HKL.out).mono ?_); rintro e w2 ⟨rfl, hb⟩; refine ⟨_, rfl, ?_⟩; have n1_ := Aside0.mk (below_step (by first | exact HW.out | exact HW.out.drew) hb); clear HW hb; have HW := n1_; clear n1_)
             ); (refine hK.out _ _ (by first | exact ⟨((HW.out.cell (World.block_lt_of_cell? w _ H0.out)).trans H0.out), ((HW.out.cell (World.block_lt_of_cell? w _ H1.out)).trans H1.out), ((HW.out.cell (World.block_lt_of_cell? w _ H2.out)).trans H2.out), ((HW.out.cell (World.block_lt_of_cell? w _ H3.out)).trans H3.out)⟩ | exact ⟨((HW.out.drew.cell (World.block_lt_of_cell? w _ H0.out)).trans H0.out), ((HW.out.drew.cell (World.block_lt_of_cell? w _ H1.out)).trans H1.out), ((HW.out.drew.cell (World.block_lt_of_cell? w _ H2.out)).trans H2.out), ((HW.out.drew.cell (World.block_lt_of_cell? w _ H3.out)).trans H3.out)⟩) (fun hHeld => ?_)); clear hK K; refine norm_ (a' := ?_) ?_ ?_; rotate_left; (show Act.put _ _ _ = _; simp only [Act.put, List.setIfInBounds_toArray, List.set_cons_zero, List.set_cons_succ, i64_w, i32_w]; rfl)))
         refine done_ (by kernel_rfl) ?_
         go_wp2_with fail
         go_meet
         exact ⟨false, rfl, ⟨fun _ => HGI.out, fun _ => rfl⟩, HW.out⟩
       · obtain ⟨i1, hi1⟩ : ∃ i1, i1 + 1 = i := ⟨i - 1, by omega⟩
         have hz : decide ((0 : Int) < (i : Int)) = true := decide_eq_true (by omega)
         have hz2 : decide (0 < i) = true := decide_eq_true (by omega)
         have hzp : (0 : Int) < (i : Int) := by omega
         have hwr : IntKind.i64.wrap ((i : Int) - 1) = (i1 : Int) := by rw [i64_w, w64 (by omega) (by omega)]; omega
         have hi1z : (i1 : Int) < (n : Int) := by omega
         have hi10 : (0 : Int) ≤ (i1 : Int) := by omega
         have hi1L : i1 < L.length := by rw [← HN.out]; have := HLT.out; omega
         obtain ⟨ad', e', hy0, _, _, _⟩ := at_T30 (by have := HC.out; rw [HN.out] at this; exact this) (i1 : Int) (Int.natCast_nonneg _) (by rw [← HN.out]; exact hi1z)
         obtain rfl : ad = ad' := Option.some.inj e'
         simp only [Int.toNat_natCast] at hy0
         obtain ⟨y, hy⟩ : ∃ y, y = rd_T30 L (i1 : Int) := ⟨_, rfl⟩
         rw [← hy] at hy0
         have hLi1 : y = L[i1] := by rw [hy]; simp [rd_T30, hi1L]
         have HY0 := Aside0.mk hy0
         have HKY := Aside0.mk (HK.out y (by rw [hLi1]; exact List.getElem_mem _)).1
         have hgood : good L i ↔ ltK y.f0 x.f0 = true := by
          constructor
          · rintro ⟨h1, h2, h3⟩
            have := h3 (by omega)
            rw [hLi1, HLI.out]
            have e : i - 1 = i1 := by omega
            subst e
            exact this
          · intro h
            refine ⟨by rw [← HN.out]; exact HLT.out, by rw [← HLI.out]; exact HOK.out, fun _ => ?_⟩
            rw [hLi1, HLI.out] at h
            have e : i - 1 = i1 := by omega
            subst e
            exact h
         obtain ⟨vl, hvl⟩ : ∃ v, ltK y.f0 x.f0 = v := ⟨_, rfl⟩
         rw [hvl] at hgood
         have HKL := Aside0.mk hvl
         have HGD := Aside0.mk hgood
         clear hi0 hi1 hy hLi1 hvl e' hy0 hgood
         refine GR.start_p (n := 35) (S := fun w' => w'.cell? (ad.add (i * 4)) = some (.string x.f0) ∧ w'.cell? ⟨(ad.add (i * 4)).block, (ad.add (i * 4)).off + 1, none⟩ = some (.int .i64 x.f1.f0) ∧ w'.cell? ⟨(ad.add (i * 4)).block, (ad.add (i * 4)).off + 2, none⟩ = some (.int .i64 x.f1.f1) ∧ w'.cell? ⟨(ad.add (i * 4)).block, (ad.add (i * 4)).off + 3, none⟩ = some (.string x.f1.f2)∧ w'.cell? (ad.add (i1 * 4)) = some (.string y.f0)) (ds := []) (by kernel_rfl) rfl ⟨((HW.out.drew.cell (World.block_lt_of_cell? w _ H0.out)).trans H0.out), ((HW.out.drew.cell (World.block_lt_of_cell? w _ H1.out)).trans H1.out), ((HW.out.drew.cell (World.block_lt_of_cell? w _ H2.out)).trans H2.out), ((HW.out.drew.cell (World.block_lt_of_cell? w _ H3.out)).trans H3.out), ((HW.out.drew.cell (World.block_lt_of_cell? w _ HY0.out)).trans HY0.out)⟩ (fun hHeld => ?_)
         repeat (first
          | (refine GR.off_p (a' := ?_) (by simp only [List.getElem?_toArray, List.getElem?_cons_succ, List.getElem?_cons_zero] <;> rfl) (by first | (dsimp only; done) | (dsimp only; rfl) | rfl) (by kernel_rfl) (by exact fun _ _ _ h => h) (by rfl) ?_ ?_; rotate_left; (simp only [Act.put, List.setIfInBounds_toArray, List.set_cons_zero, List.set_cons_succ, i64_w, i32_w]; rfl))
          | (refine GR.pure_p (v := ?_) (a' := ?_) (by simp only [List.getElem?_toArray, List.getElem?_cons_succ, List.getElem?_cons_zero] <;> rfl) (by first | (dsimp only; done) | (dsimp only; rfl) | rfl) (by kernel_rfl) (by exact fun _ _ _ h => h) (by rfl) ?_ ?_ ?_; rotate_left; (intro w'; go_simp; with_reducible rfl); rotate_left; (simp only [Act.put, List.setIfInBounds_toArray, List.set_cons_zero, List.set_cons_succ, i64_w, i32_w]; rfl))
          | (refine GR.take_p (v := ?_) (a' := ?_) (by simp only [List.getElem?_toArray, List.getElem?_cons_succ, List.getElem?_cons_zero] <;> rfl) (by first | (dsimp only; done) | (dsimp only; rfl) | rfl) (by kernel_rfl) (by exact fun _ _ _ h => h) (by rfl) ?_ hHeld ?_ ?_; rotate_left; (rintro w' ⟨s0, s1, s2, s3, s4⟩; go_simp; with_reducible rfl); rotate_left; (simp only [Act.put, List.setIfInBounds_toArray, List.set_cons_zero, List.set_cons_succ, i64_w, i32_w]; rfl))
          | (refine GR.one_p (by simp only [List.getElem?_toArray, List.getElem?_cons_succ, List.getElem?_cons_zero] <;> rfl) (by first | (dsimp only; done) | (dsimp only; rfl) | rfl) (by kernel_rfl) (by decide) (fun K hK => ?_); (first
         | (refine goes_ Try.func34 (by kernel_rfl) rfl #[.string x.f0] (by rfl) rfl rfl (by simp only [List.map_toArray, List.map_cons, List.map_nil]; rfl) ?_; (with_reducible refine (mayKey_p _ HKK.out).mono ?_); rintro e w2 ⟨rfl, hb⟩; refine ⟨_, rfl, ?_⟩; have n1_ := Aside0.mk (below_step (by first | exact HW.out | exact HW.out.drew) hb); clear HW hb; have HW := n1_; clear n1_)
         | (refine goes_ Try.func35 (by kernel_rfl) rfl #[.agg #[.int .i64 x.f1.f0, .int .i64 x.f1.f1, .string x.f1.f2]] (by rfl) rfl rfl (by simp only [List.map_toArray, List.map_cons, List.map_nil]; rfl) ?_; (with_reducible refine (mayVal_p _ HKX.out.2 HKV.out).mono ?_); rintro e w2 ⟨rfl, hb⟩; refine ⟨_, rfl, ?_⟩; have n1_ := Aside0.mk (below_step (by first | exact HW.out | exact HW.out.drew) hb); clear HW hb; have HW := n1_; clear n1_)
         | (refine goes_ Try.func16 (by kernel_rfl) rfl #[.string y.f0, .string x.f0] (by rfl) rfl rfl (by simp only [List.map_toArray, List.map_cons, List.map_nil]; rfl) ?_; (with_reducible refine (refLess_p _ HKY.out HKX.out.1 HKL.out).mono ?_); rintro e w2 ⟨rfl, hb⟩; refine ⟨_, rfl, ?_⟩; have n1_ := Aside0.mk (below_step (by first | exact HW.out | exact HW.out.drew) hb); clear HW hb; have HW := n1_; clear n1_)
             ); (refine hK.out _ _ (by first | exact ⟨((HW.out.cell (World.block_lt_of_cell? w _ H0.out)).trans H0.out), ((HW.out.cell (World.block_lt_of_cell? w _ H1.out)).trans H1.out), ((HW.out.cell (World.block_lt_of_cell? w _ H2.out)).trans H2.out), ((HW.out.cell (World.block_lt_of_cell? w _ H3.out)).trans H3.out), ((HW.out.cell (World.block_lt_of_cell? w _ HY0.out)).trans HY0.out)⟩ | exact ⟨((HW.out.drew.cell (World.block_lt_of_cell? w _ H0.out)).trans H0.out), ((HW.out.drew.cell (World.block_lt_of_cell? w _ H1.out)).trans H1.out), ((HW.out.drew.cell (World.block_lt_of_cell? w _ H2.out)).trans H2.out), ((HW.out.drew.cell (World.block_lt_of_cell? w _ H3.out)).trans H3.out), ((HW.out.drew.cell (World.block_lt_of_cell? w _ HY0.out)).trans HY0.out)⟩) (fun hHeld => ?_)); clear hK K; refine norm_ (a' := ?_) ?_ ?_; rotate_left; (show Act.put _ _ _ = _; simp only [Act.put, List.setIfInBounds_toArray, List.set_cons_zero, List.set_cons_succ, i64_w, i32_w]; rfl)))
         refine done_ (by kernel_rfl) ?_
         go_wp2_with fail
         go_meet
         exact ⟨!vl, rfl, ⟨fun h => HGD.out.2 (by cases vl; exact h.symm; rfl), fun h => by rw [HGD.out.1 h]; rfl⟩, HW.out⟩
    case rest =>
     obtain ⟨bb, rfl, hbb, hbw⟩ := hcut
     have HW2 := Aside0.mk hbw
     clear HW hbw
     cases bb with
     | true =>
       have HBAD := Aside0.mk (show ¬ MayP L from fun hM => absurd (hbb.2 (hM.2 i (by rw [← HN.out]; exact HLT.out))) (fun e => Bool.false_ne_true e.symm))
       clear hbb
       go_wp2
       go_ret
       exact ⟨false, rfl, ⟨fun h => absurd h Bool.false_ne_true, fun h => absurd h HBAD.out⟩, HW2.out⟩
     | false =>
       have HGI := Aside0.mk (hbb.1 rfl)
       clear hbb
       go_wp2
       refine ⟨⟨i + 1, by first | rfl | go_num, by have := HLT.out; omega, ⟨fun j hj => by rcases Nat.lt_or_eq_of_le (Nat.le_of_lt_succ hj) with h | h; exact HG.out j h; rw [h]; exact HGI.out⟩, HW2⟩, ?_⟩
       have := HLT.out
       simp [intOf]
       omega
  · obtain rfl : i = n := by omega
    have hl1 : decide ((i : Int) < (i : Int)) = false := decide_eq_false (by omega)
    have hl2 : decide (i < i) = false := decide_eq_false (by omega)
    clear hlt hi
    go_wp2
    go_ret
    refine ⟨_, rfl, ?_, HW.out⟩
    constructor
    · intro h
      have h2 := of_decide_eq_true h
      exact ⟨by rw [← HN.out]; omega, fun j hj => HG.out j (by rw [HN.out]; exact hj)⟩
    · intro h
      have h2 := h.1
      rw [← HN.out] at h2
      exact decide_eq_true (by omega)
theorem may_b {w : World} {A : Option Addr} {n c : Nat} {L : List Pr} {v : Bool} (hn : n = L.length) (hC : Kd.C k30 w A n L) (hc : n ≤ c) (hl : n ≤ 1000000) (hk : ∀ p ∈ L, p.f0.size < 17592186044416 ∧ p.f1.f2.size < 17592186044416) (hm : v = true ↔ MayP L) :
    Calls Try.prog 14 #[.slice A n c] w fun e w' => e = .returned (.bool v) ∧ Below w.heap.size w w' := by
 refine (ref_MayPairs hn hC hc hl hk).mono ?_
 rintro e w' ⟨b, h, hb, hbl⟩
 have : b = v := by
  rw [Bool.eq_iff_iff, hb, hm]
 exact ⟨by rw [← this]; exact h, hbl⟩
end Go.Proofs.Ytkhcmddeeodbkaa.GL
namespace Go.Proofs.Ytkhcmddeeodbkaa.Q
open Go.RowKit Go.Proofs.YtkhcmddeeodbkaaW.PrintWords Go.Proofs.YtkhcmddeeodbkaaW.PrintMore Go.Proofs.Ytkhcmddeeodbkaa.XSor
theorem zig_bitsR {n : Int} (h : I64 n) : (if n < 0 then Go.bits .xor .u64 18446744073709551615 (IntKind.u64.wrap (IntKind.u64.wrap n * 2)) else IntKind.u64.wrap (IntKind.u64.wrap n * 2)) = (zig n : Int) := by
 unfold I64 at h
 unfold zig
 split
 · rw [u64_mod, u64_mod, not_u64 (by omega) (by omega)]
   omega
 · rw [u64_mod, u64_mod]
   omega
theorem ref_Put_l (u : Nat) : ∀ l : List Int, l.length + (putU u).length ≤ 140737488355328 → u < 18446744073709551616 → Ev (fun k => loessref1_Put.l0 k (u : Int) l) (l ++ putU u) := by
 induction u using Nat.strongRecOn with
 | _ u ih =>
   intro l hl hu
   by_cases h : u < 128
   · rw [putU_lt h] at hl ⊢
     refine Ev.step (f := fun _ => some (l ++ [(u : Int)])) (fun k => ?_) (Ev.now _)
     simp only [loessref1_Put.l0]
     simp only [List.length_cons, List.length_nil] at hl
     rw [if_neg (by omega), if_pos (by omega), show (u : Int) % 256 = u by omega]
   · rw [putU_ge h] at hl ⊢
     simp only [List.length_cons] at hl
     refine Ev.step (f := fun k => loessref1_Put.l0 k ((u / 128 : Nat) : Int) (l ++ [((u % 128 + 128 : Nat) : Int)])) (fun k => ?_) ?_
     · simp only [loessref1_Put.l0]
       rw [if_pos (by omega), if_pos (by omega), Int.tdiv_eq_ediv_of_nonneg (by omega), Int.tmod_eq_emod_of_nonneg (by omega), u64 (x := (u : Int) / 128) (by omega) (by omega), u64 (x := (u : Int) % 128 + 128) (by omega) (by omega)]
       rw [show ((u : Int) % 128 + 128) % 256 = ((u % 128 + 128 : Nat) : Int) by omega, show (u : Int) / 128 = ((u / 128 : Nat) : Int) by omega]
     · refine evEq (ih (u / 128) (by omega) (l ++ [((u % 128 + 128 : Nat) : Int)]) (by simp only [List.length_append, List.length_cons, List.length_nil]; omega) (by omega)) ?_
       rw [List.append_assoc]
       rfl
theorem ref_Put_ev {n : Int} (h : I64 n) : Ev (fun k => loessref1_Put.f k n) (putN n) := by
 have hz := zig_bitsR h
 have := putN_len h
 have h1 : Ev (fun k => loessref1_Put.j0 k (zig n : Int)) (putN n) := Ev.step (fun k => by simp only [loessref1_Put.j0]) (ref_Put_l (zig n) [] (by unfold putN at this; simp only [List.length_nil]; omega) (zig_lt h))
 refine Ev.congr (fun k => ?_) h1
 unfold loessref1_Put.f
 split
 · rename_i hn; rw [if_pos hn] at hz; rw [hz]
 · rename_i hn; rw [if_neg hn] at hz; rw [hz]
theorem ref_PutText_ev {s : ByteArray} (h : s.size ≤ 70368744177664) : Ev (fun k => loessref1_PutText.f k s) (putT s) := by
 have hi : I64 (s.size : Int) := by unfold I64; omega
 have := putN_len hi
 have h2 : Ev (fun _ => if (putN (s.size : Int)).length + s.size < 140737488355328 then some (putN (s.size : Int) ++ bytesOf s) else none) (putN (s.size : Int) ++ bytesOf s) :=
  evC (if_pos (by omega))
 exact Ev.bind (ref_Put_ev hi) h2
end Go.Proofs.Ytkhcmddeeodbkaa.Q
namespace Go.Proofs.Ytkhcmddeeodbkaa.Q
open Go.RowKit Go.Proofs.YtkhcmddeeodbkaaW.PrintWords Go.Proofs.YtkhcmddeeodbkaaW.PrintMore Go.Proofs.Ytkhcmddeeodbkaa.G Go.Proofs.Ytkhcmddeeodbkaa.XSor
theorem putVal_ev {a b : Int} {s : ByteArray} (ha : I64 a) (hb : I64 b) (h : s.size ≤ 30) : Ev (fun k => loessref1_PutVal.f k a b s) (putV a b s) := by
 have h1 := putN_len ha
 have h2 := putN_len hb
 have h3 := putT_len h (by decide)
 unfold loessref1_PutVal.f putV
 refine Ev.bind (ref_Put_ev ha) ?_
 by_cases e : a = 1
 · refine Ev.congr (fun k => if_pos e) ?_
   rw [if_pos e]
   exact Ev.bind (ref_Put_ev hb) (Ev.congr (fun k => if_pos (by omega)) (Ev.now _))
 · refine Ev.congr (fun k => if_neg e) ?_
   rw [if_neg e]
   exact Ev.bind (ref_PutText_ev (s := s) (by omega)) (Ev.congr (fun k => if_pos (by omega)) (Ev.now _))
theorem recBytes_ev {x : Rc} (h : SmR x) : Ev (fun k => loessref10_Bytes.f k x.f0 x.f1 x.f2.f0 x.f2.f1 x.f2.f2) (putR x) := by
 obtain ⟨h1, h2, h3, h4⟩ := h
 have a1 := putT_len h1 (by decide)
 have a2 := putV_len h3 h4 h2 (by decide)
 have a3 := putN_len (n := 0) (by unfold I64; omega)
 unfold loessref10_Bytes.f putR
 refine Ev.bind (ref_PutText_ev (s := x.f0) (by omega)) ?_
 by_cases g : x.f1 = true
 · refine Ev.congr (fun k => if_pos g) ?_
   rw [if_pos g]
   exact Ev.bind (ref_Put_ev (n := 0) (by unfold I64; omega)) (Ev.congr (fun k => if_pos (by omega)) (Ev.now _))
 · refine Ev.congr (fun k => if_neg g) ?_
   rw [if_neg g]
   exact Ev.bind (putVal_ev h3 h4 h2) (Ev.congr (fun k => if_pos (by omega)) (Ev.now _))
end Go.Proofs.Ytkhcmddeeodbkaa.Q
namespace Go.Proofs.Ytkhcmddeeodbkaa.GL
open Go.RowKit Go.Proofs.YtkhcmddeeodbkaaW.PrintWords Go.Proofs.YtkhcmddeeodbkaaW.PrintLast Go.Proofs.YtkhcmddeeodbkaaW.PrintMore Go.Proofs.Ytkhcmddeeodbkaa.Q Go.Proofs.Ytkhcmddeeodbkaa.XSor Go.Proofs.Ytkhcmddeeodbkaa.G
set_option maxRecDepth 1000000 in
set_option maxHeartbeats 8000000 in
theorem ref_PairBytes {w : World} {A : Option Addr} {n c : Nat} {L : List Pr} (hn : n = L.length) (hC : Kd.C k30 w A n L) (hc : n ≤ c) (hm : MayP L) (hsm : ∀ p ∈ L, SmR (recP p)) :
    Calls Try.prog 26 #[.slice A n c] w fun e w' => ∃ v, e = .returned v ∧ Kd.R (Kd.int .u8) 5 w' w.heap.size (fun _ => True) v (encP L) ∧ Below w.heap.size w w' := by
 have HN := Aside0.mk hn
 have HC := Aside0.mk hC
 have HCC := Aside0.mk hc
 have HM := Aside0.mk hm
 have HSM := Aside0.mk hsm
 have HMO := Aside0.mk (show n ≤ 1000 by rw [hn]; exact hm.1)
 have HX := Aside0.mk (Below.refl w.heap.size w)
 have HK := Aside0.mk (show ∀ p ∈ L, p.f0.size < 17592186044416 ∧ p.f1.f2.size < 17592186044416 from fun p hp => by
  obtain ⟨h1, h2, _⟩ := hsm p hp
  have h1 : p.f0.size ≤ 20 := h1
  have h2 : p.f1.f2.size ≤ 30 := h2
  omega)
 have hnz : (n : Int) ≤ 1000 := by have := HMO.out; omega
 obtain ⟨k0, hk0⟩ := (ref_Put_ev (n := (n : Int)) (by unfold I64; omega)).rounds
 have HK0 := Aside0.mk hk0
 clear hn hC hc hm hsm hk0
 go_enter Try.func26, Try.ntmps26
 go_wp2_with (first
  | (go_at_call 14; (with_reducible refine (may_b (v := true) HN.out HC.out HCC.out (by have := HMO.out; omega) HK.out ⟨fun _ => HM.out, fun _ => rfl⟩).mono ?_); rintro e w1 ⟨rfl, hb⟩; have n1_ := Aside0.mk hb; clear HX hb; have HX := n1_; clear n1_)
  | (go_at_call 53; (with_reducible refine (loessref1_Put.calls k0 (n : Int) _ _ HK0.out).mono ?_); rintro e w2 ⟨v2, rfl, hR, hb⟩; have n1_ := Aside0.mk (below_step HX.out hb); have HO := Aside0.mk (Kd.R_lower hR HX.out.size); clear HX hb hR; have HX := n1_; clear n1_))
 go_loopw [3, 4] (fun v3 v4 wr => ∃ (i : Nat), v4 = .int .i64 i ∧ i ≤ n ∧ Aside0 (Kd.R (Kd.int .u8) 5 wr w.heap.size (fun _ => True) v3 (preP L i)) ∧ Aside0 (Below w.heap.size w wr)) (fun _ v _ => n - (intOf v).toNat)
 case atStart => exact ⟨0, by first | rfl | go_num, Nat.zero_le _, ⟨by unfold preP; rw [List.take_zero, List.flatMap_nil, List.append_nil, ← HN.out]; exact HO.out⟩, HX⟩
 case round =>
  clear HO HX
  obtain ⟨i, rfl, hi, HO, HW⟩ := hrel
  by_cases hlt : i < n
  · have HLT := Aside0.mk hlt
    have hltz : (i : Int) < (L.length : Int) := by rw [← HN.out]; omega
    have hltz2 : (i : Int) < (n : Int) := by omega
    have hl1 : decide ((i : Int) < (n : Int)) = true := decide_eq_true (by omega)
    have hl2 := decide_eq_true hlt
    have HST := Aside0.mk (preP_step (L := L) (i := i) (by rw [← HN.out]; exact hlt))
    obtain ⟨ad, e, h0, h1, h2, h3⟩ := at_T30 (by have := HC.out; rw [HN.out] at this; exact this) (i : Int) (Int.natCast_nonneg _) hltz
    cases e
    simp only [Int.toNat_natCast] at h0 h1 h2 h3
    have hxL : rd_T30 L (i : Int) ∈ L := by
     have e : rd_T30 L (i : Int) = L[i]'(by rw [← HN.out]; exact HLT.out) := by simp [rd_T30, ← HN.out, hlt]
     rw [e]
     exact List.getElem_mem _
    obtain ⟨x, hx⟩ : ∃ x, x = rd_T30 L (i : Int) := ⟨_, rfl⟩
    rw [← hx] at h0 h1 h2 h3 HST hxL
    obtain ⟨kB, hkB⟩ := (recBytes_ev (HSM.out x hxL)).rounds
    have HKB := Aside0.mk (show loessref10_Bytes.f kB x.f0 false x.f1.f0 x.f1.f1 x.f1.f2 = some (putR (recP x)) from hkB)
    have HSZ := Aside0.mk (show (preP L i).length ≤ 80010 ∧ (putR (recP x)).length ≤ 80 from ⟨preP_len HM.out.1 HSM.out i, putR_len (HSM.out x hxL)⟩)
    have H0 := Aside0.mk h0
    have H1 := Aside0.mk h1
    have H2 := Aside0.mk h2
    have H3 := Aside0.mk h3
    clear hx hxL hkB hltz hlt hi h0 h1 h2 h3
    go_upto_region 7 with (fail)
    refine GR.start_p (n := 15) (S := fun w' => w'.cell? (ad.add (i * 4)) = some (.string x.f0) ∧ w'.cell? ⟨(ad.add (i * 4)).block, (ad.add (i * 4)).off + 1, none⟩ = some (.int .i64 x.f1.f0) ∧ w'.cell? ⟨(ad.add (i * 4)).block, (ad.add (i * 4)).off + 2, none⟩ = some (.int .i64 x.f1.f1) ∧ w'.cell? ⟨(ad.add (i * 4)).block, (ad.add (i * 4)).off + 3, none⟩ = some (.string x.f1.f2)) (ds := []) (by kernel_rfl) rfl ⟨(HW.out.drew.cell (World.block_lt_of_cell? w _ H0.out)).trans H0.out, (HW.out.drew.cell (World.block_lt_of_cell? w _ H1.out)).trans H1.out, (HW.out.drew.cell (World.block_lt_of_cell? w _ H2.out)).trans H2.out, (HW.out.drew.cell (World.block_lt_of_cell? w _ H3.out)).trans H3.out⟩ (fun hHeld => ?_)
    repeat (first
     | (refine GR.off_p (a' := ?_) (by simp only [List.getElem?_toArray, List.getElem?_cons_succ, List.getElem?_cons_zero] <;> rfl) (by first | (dsimp only; done) | (dsimp only; rfl) | rfl) (by kernel_rfl) (by exact fun _ _ _ h => h) (by rfl) ?_ ?_; rotate_left; (simp only [Act.put, List.setIfInBounds_toArray, List.set_cons_zero, List.set_cons_succ, i64_w, i32_w]; rfl))
     | (refine GR.pure_p (v := ?_) (a' := ?_) (by simp only [List.getElem?_toArray, List.getElem?_cons_succ, List.getElem?_cons_zero] <;> rfl) (by first | (dsimp only; done) | (dsimp only; rfl) | rfl) (by kernel_rfl) (by exact fun _ _ _ h => h) (by rfl) ?_ ?_ ?_; rotate_left; (intro w'; go_simp; with_reducible rfl); rotate_left; (simp only [Act.put, List.setIfInBounds_toArray, List.set_cons_zero, List.set_cons_succ, i64_w, i32_w]; rfl))
     | (refine GR.take_p (v := ?_) (a' := ?_) (by simp only [List.getElem?_toArray, List.getElem?_cons_succ, List.getElem?_cons_zero] <;> rfl) (by first | (dsimp only; done) | (dsimp only; rfl) | rfl) (by kernel_rfl) (by exact fun _ _ _ h => h) (by rfl) ?_ hHeld ?_ ?_; rotate_left; (rintro w' ⟨s0, s1, s2, s3⟩; go_simp; with_reducible rfl); rotate_left; (simp only [Act.put, List.setIfInBounds_toArray, List.set_cons_zero, List.set_cons_succ, i64_w, i32_w]; rfl))
     | (refine GR.one_p (by simp only [List.getElem?_toArray, List.getElem?_cons_succ, List.getElem?_cons_zero] <;> rfl) (by first | (dsimp only; done) | (dsimp only; rfl) | rfl) (by kernel_rfl) (by decide) (fun K hK => ?_); (first
    | (refine goes_ Try.func54 (by kernel_rfl) rfl #[.agg #[.string x.f0, .bool false, .int .i64 x.f1.f0, .int .i64 x.f1.f1, .string x.f1.f2]] (by rfl) rfl rfl (by simp only [List.map_toArray, List.map_cons, List.map_nil]; rfl) ?_; (with_reducible refine (loessref10_Bytes.calls kB x.f0 false x.f1.f0 x.f1.f1 x.f1.f2 _ _ HKB.out).mono ?_); rintro e w4 ⟨v29, rfl, hR, hb⟩; refine ⟨_, rfl, ?_⟩; obtain ⟨A29, c29, rfl, hn29, hC29⟩ := Kd.R_reads hR; have HL29 := Aside0.mk hC29; have n1_ := Aside0.mk (Kd.R_below (by first | exact HO.out | exact Kd.R_drew HO.out) hb); have n2_ := Aside0.mk (below_step (by first | exact HW.out | exact HW.out.drew) hb); clear HO HW hR hn29 hC29 hb; have HO := n1_; have HW := n2_; clear n1_ n2_)
    | (refine Kd.R_append_rows_step (Kd.int .u8) (w0 := w) w.heap.size (by rfl) (.tmp 17) (.tmp 29) 40 5 (.int .u8 0) 1 (by rfl) Try.underlying40 info5 (by rfl) (by decide) (by omega) u3 (preP L i) (putR (recP x)) A29 (putR (recP x)).length c29 (fun _ => True) (fun _ => False) (by rfl) (by rfl) HO.out HL29.out (fun _ _ h => h) (fun _ h => h.elim) (fun _ _ => trivial) HW.out HW.out.size (by have := HSZ.out; omega) ?_; intro v30 w5 ho hb hg hat; rw [← HST.out] at ho; have n1_ := Aside0.mk ho; have n2_ := Aside0.mk hb; clear HO HW HL29 ho hb hg hat; have HO := n1_; have HW := n2_; clear n1_ n2_)
        ); (refine hK.out _ _ (by first | exact ⟨(HW.out.cell (World.block_lt_of_cell? w _ H0.out)).trans H0.out, (HW.out.cell (World.block_lt_of_cell? w _ H1.out)).trans H1.out, (HW.out.cell (World.block_lt_of_cell? w _ H2.out)).trans H2.out, (HW.out.cell (World.block_lt_of_cell? w _ H3.out)).trans H3.out⟩ | exact ⟨(HW.out.drew.cell (World.block_lt_of_cell? w _ H0.out)).trans H0.out, (HW.out.drew.cell (World.block_lt_of_cell? w _ H1.out)).trans H1.out, (HW.out.drew.cell (World.block_lt_of_cell? w _ H2.out)).trans H2.out, (HW.out.drew.cell (World.block_lt_of_cell? w _ H3.out)).trans H3.out⟩) (fun hHeld => ?_)); clear hK K; refine norm_ (a' := ?_) ?_ ?_; rotate_left; (show Act.put _ _ _ = _; simp only [Act.put, List.setIfInBounds_toArray, List.set_cons_zero, List.set_cons_succ, i64_w, i32_w]; rfl)))
    refine done_ (by kernel_rfl) ?_
    go_wp2
    refine ⟨⟨i + 1, by first | rfl | go_num, by have := HLT.out; omega, HO, HW⟩, ?_⟩
    have := HLT.out
    simp [intOf]
    omega
  · obtain rfl : i = n := by omega
    have hl1 : decide ((i : Int) < (i : Int)) = false := decide_eq_false (by omega)
    have hl2 : decide (i < i) = false := decide_eq_false (by omega)
    have HE := Aside0.mk (show preP L i = encP L by rw [HN.out]; exact preP_all L)
    clear hlt hi
    go_wp2
    go_ret
    exact ⟨_, rfl, by rw [← HE.out]; exact HO.out, HW.out⟩
end Go.Proofs.Ytkhcmddeeodbkaa.GL
namespace Go.Proofs.Ytkhcmddeeodbkaa.GL
open Go.RowKit Go.Proofs.YtkhcmddeeodbkaaW.PrintWords Go.Proofs.YtkhcmddeeodbkaaW.PrintLast Go.Proofs.YtkhcmddeeodbkaaW.PrintMore Go.Proofs.Ytkhcmddeeodbkaa.Q Go.Proofs.Ytkhcmddeeodbkaa.XSor Go.Proofs.Ytkhcmddeeodbkaa.G
theorem conv_e {W : World} {A : Option Addr} {c : Nat} {l e : List Int} {t : ByteArray} (hC : Kd.C (Kd.int .u8) W A e.length e) (he : e = l) (ht : t = strOfNums l) : (convert 40 9 (.slice A e.length c)).run Try.prog W = .ok (.string t) W := by
 rw [ht, ← he]
 exact Kd.C_string (P := Try.prog) (c := c) Try.underlying40 Try.underlying5 Try.underlying9 hC
end Go.Proofs.Ytkhcmddeeodbkaa.GL
namespace Go.Proofs.Ytkhcmddeeodbkaa.GL
open Go.RowKit Go.Proofs.YtkhcmddeeodbkaaW.PrintWords Go.Proofs.YtkhcmddeeodbkaaW.PrintLast Go.Proofs.YtkhcmddeeodbkaaW.PrintMore Go.Proofs.Ytkhcmddeeodbkaa.Q Go.Proofs.Ytkhcmddeeodbkaa.XSor Go.Proofs.Ytkhcmddeeodbkaa.G
theorem eqVal_p (x : Rw) (w : World) : Calls Try.prog 45 #[.agg #[.int .i64 x.f0, .int .i64 x.f1, .string x.f2], .agg #[.int .i64 x.f0, .int .i64 x.f1, .string x.f2]] w fun e w' => e = .returned (.bool true) ∧ Below w.heap.size w w' :=
 loessref1_EqVal.calls x.f0 x.f1 x.f2 x.f0 x.f1 x.f2 true w (by unfold loessref1_EqVal.f; simp)
set_option maxRecDepth 1000000 in
set_option maxHeartbeats 8000000 in
theorem ref_EqSame {w : World} {A B : Option Addr} {n c d : Nat} {L : List Pr} (hn : n = L.length) (hC : Kd.C k30 w A n L) (hD : Kd.C k30 w B n L) (hl : n ≤ 1000000) :
    Calls Try.prog 44 #[.slice A n c, .slice B n d] w fun e w' => e = .returned (.bool true) ∧ Below w.heap.size w w' := by
 have HN := Aside0.mk hn
 have HC := Aside0.mk hC
 have HD := Aside0.mk hD
 have HX := Aside0.mk (Below.refl w.heap.size w)
 have hnz : (n : Int) ≤ 1000000 := by omega
 have hne : ((n : Int) != (n : Int)) = false := by simp
 clear hn hC hD hl
 go_enter Try.func44, Try.ntmps44
 go_wp2
 go_loopw [5] (fun v5 wr => ∃ (i : Nat), v5 = .int .i64 i ∧ i ≤ n ∧ Aside0 (Below w.heap.size w wr)) (fun v _ => n - (intOf v).toNat)
 case atStart => exact ⟨0, by first | rfl | go_num, Nat.zero_le _, HX⟩
 case round =>
  clear HX
  obtain ⟨i, rfl, hi, HW⟩ := hrel
  by_cases hlt : i < n
  · have HLT := Aside0.mk hlt
    have hltz : (i : Int) < (L.length : Int) := by rw [← HN.out]; omega
    have hltz2 : (i : Int) < (n : Int) := by omega
    have hl1 : decide ((i : Int) < (n : Int)) = true := decide_eq_true (by omega)
    have hl2 := decide_eq_true hlt
    obtain ⟨ad, e, h0, h1, h2, h3⟩ := at_T30 (by have := HC.out; rw [HN.out] at this; exact this) (i : Int) (Int.natCast_nonneg _) hltz
    cases e
    obtain ⟨bd, e, k0, k1, k2, k3⟩ := at_T30 (by have := HD.out; rw [HN.out] at this; exact this) (i : Int) (Int.natCast_nonneg _) hltz
    cases e
    simp only [Int.toNat_natCast] at h0 h1 h2 h3 k0 k1 k2 k3
    obtain ⟨x, hx⟩ : ∃ x, x = rd_T30 L (i : Int) := ⟨_, rfl⟩
    rw [← hx] at h0 h1 h2 h3 k0 k1 k2 k3
    have H0 := Aside0.mk h0
    have H1 := Aside0.mk h1
    have H2 := Aside0.mk h2
    have H3 := Aside0.mk h3
    have K0 := Aside0.mk k0
    have K1 := Aside0.mk k1
    have K2 := Aside0.mk k2
    have K3 := Aside0.mk k3
    have hkb : (x.f0.toList == x.f0.toList) = true := beq_self_eq_true _
    clear hx hltz hlt hi h0 h1 h2 h3 k0 k1 k2 k3
    go_upto_region 6 with (fail)
    refine GR.start_p (n := 25) (S := fun w' => w'.cell? (ad.add (i * 4)) = some (.string x.f0) ∧ w'.cell? ⟨(ad.add (i * 4)).block, (ad.add (i * 4)).off + 1, none⟩ = some (.int .i64 x.f1.f0) ∧ w'.cell? ⟨(ad.add (i * 4)).block, (ad.add (i * 4)).off + 2, none⟩ = some (.int .i64 x.f1.f1) ∧ w'.cell? ⟨(ad.add (i * 4)).block, (ad.add (i * 4)).off + 3, none⟩ = some (.string x.f1.f2) ∧ w'.cell? (bd.add (i * 4)) = some (.string x.f0) ∧ w'.cell? ⟨(bd.add (i * 4)).block, (bd.add (i * 4)).off + 1, none⟩ = some (.int .i64 x.f1.f0) ∧ w'.cell? ⟨(bd.add (i * 4)).block, (bd.add (i * 4)).off + 2, none⟩ = some (.int .i64 x.f1.f1) ∧ w'.cell? ⟨(bd.add (i * 4)).block, (bd.add (i * 4)).off + 3, none⟩ = some (.string x.f1.f2)) (ds := []) (by kernel_rfl) rfl ⟨((HW.out.drew.cell (World.block_lt_of_cell? w _ H0.out)).trans H0.out), ((HW.out.drew.cell (World.block_lt_of_cell? w _ H1.out)).trans H1.out), ((HW.out.drew.cell (World.block_lt_of_cell? w _ H2.out)).trans H2.out), ((HW.out.drew.cell (World.block_lt_of_cell? w _ H3.out)).trans H3.out), ((HW.out.drew.cell (World.block_lt_of_cell? w _ K0.out)).trans K0.out), ((HW.out.drew.cell (World.block_lt_of_cell? w _ K1.out)).trans K1.out), ((HW.out.drew.cell (World.block_lt_of_cell? w _ K2.out)).trans K2.out), ((HW.out.drew.cell (World.block_lt_of_cell? w _ K3.out)).trans K3.out)⟩ (fun hHeld => ?_)
    repeat (first
     | (refine GR.off_p (a' := ?_) (by simp only [List.getElem?_toArray, List.getElem?_cons_succ, List.getElem?_cons_zero] <;> rfl) (by first | (dsimp only; done) | (dsimp only; rfl) | rfl) (by kernel_rfl) (by exact fun _ _ _ h => h) (by rfl) ?_ ?_; rotate_left; (simp only [Act.put, List.setIfInBounds_toArray, List.set_cons_zero, List.set_cons_succ, i64_w, i32_w]; rfl))
     | (refine GR.pure_p (v := ?_) (a' := ?_) (by simp only [List.getElem?_toArray, List.getElem?_cons_succ, List.getElem?_cons_zero] <;> rfl) (by first | (dsimp only; done) | (dsimp only; rfl) | rfl) (by kernel_rfl) (by exact fun _ _ _ h => h) (by rfl) ?_ ?_ ?_; rotate_left; (intro w'; go_simp; with_reducible rfl); rotate_left; (simp only [Act.put, List.setIfInBounds_toArray, List.set_cons_zero, List.set_cons_succ, i64_w, i32_w]; rfl))
     | (refine GR.take_p (v := ?_) (a' := ?_) (by simp only [List.getElem?_toArray, List.getElem?_cons_succ, List.getElem?_cons_zero] <;> rfl) (by first | (dsimp only; done) | (dsimp only; rfl) | rfl) (by kernel_rfl) (by exact fun _ _ _ h => h) (by rfl) ?_ hHeld ?_ ?_; rotate_left; (rintro w' ⟨s0, s1, s2, s3, t0, t1, t2, t3⟩; go_simp; with_reducible rfl); rotate_left; (simp only [Act.put, List.setIfInBounds_toArray, List.set_cons_zero, List.set_cons_succ, i64_w, i32_w]; rfl))
     | (refine GR.one_p (by simp only [List.getElem?_toArray, List.getElem?_cons_succ, List.getElem?_cons_zero] <;> rfl) (by first | (dsimp only; done) | (dsimp only; rfl) | rfl) (by kernel_rfl) (by decide) (fun K hK => ?_); (first
    | (refine goes_ Try.func45 (by kernel_rfl) rfl #[.agg #[.int .i64 x.f1.f0, .int .i64 x.f1.f1, .string x.f1.f2], .agg #[.int .i64 x.f1.f0, .int .i64 x.f1.f1, .string x.f1.f2]] (by rfl) rfl rfl (by simp only [List.map_toArray, List.map_cons, List.map_nil]; rfl) ?_; (with_reducible refine (eqVal_p x.f1 _).mono ?_); rintro e w4 ⟨rfl, hb⟩; refine ⟨_, rfl, ?_⟩; have n2_ := Aside0.mk (below_step (by first | exact HW.out | exact HW.out.drew) hb); clear HW hb; have HW := n2_; clear n2_)
    | fail
        ); (refine hK.out _ _ (by first | exact ⟨((HW.out.cell (World.block_lt_of_cell? w _ H0.out)).trans H0.out), ((HW.out.cell (World.block_lt_of_cell? w _ H1.out)).trans H1.out), ((HW.out.cell (World.block_lt_of_cell? w _ H2.out)).trans H2.out), ((HW.out.cell (World.block_lt_of_cell? w _ H3.out)).trans H3.out), ((HW.out.cell (World.block_lt_of_cell? w _ K0.out)).trans K0.out), ((HW.out.cell (World.block_lt_of_cell? w _ K1.out)).trans K1.out), ((HW.out.cell (World.block_lt_of_cell? w _ K2.out)).trans K2.out), ((HW.out.cell (World.block_lt_of_cell? w _ K3.out)).trans K3.out)⟩ | exact ⟨((HW.out.drew.cell (World.block_lt_of_cell? w _ H0.out)).trans H0.out), ((HW.out.drew.cell (World.block_lt_of_cell? w _ H1.out)).trans H1.out), ((HW.out.drew.cell (World.block_lt_of_cell? w _ H2.out)).trans H2.out), ((HW.out.drew.cell (World.block_lt_of_cell? w _ H3.out)).trans H3.out), ((HW.out.drew.cell (World.block_lt_of_cell? w _ K0.out)).trans K0.out), ((HW.out.drew.cell (World.block_lt_of_cell? w _ K1.out)).trans K1.out), ((HW.out.drew.cell (World.block_lt_of_cell? w _ K2.out)).trans K2.out), ((HW.out.drew.cell (World.block_lt_of_cell? w _ K3.out)).trans K3.out)⟩) (fun hHeld => ?_)); clear hK K; refine norm_ (a' := ?_) ?_ ?_; rotate_left; (show Act.put _ _ _ = _; simp only [Act.put, List.setIfInBounds_toArray, List.set_cons_zero, List.set_cons_succ, i64_w, i32_w]; rfl)))
    refine done_ (by kernel_rfl) ?_
    go_wp2
    refine ⟨⟨i + 1, by first | rfl | go_num, by have := HLT.out; omega, HW⟩, ?_⟩
    have := HLT.out
    simp [intOf]
    omega
  · obtain rfl : i = n := by omega
    have hl1 : decide ((i : Int) < (i : Int)) = false := decide_eq_false (by omega)
    have hl2 : decide (i < i) = false := decide_eq_false (by omega)
    clear hlt hi
    go_wp2
    go_ret
    exact ⟨rfl, HW.out⟩
end Go.Proofs.Ytkhcmddeeodbkaa.GL
