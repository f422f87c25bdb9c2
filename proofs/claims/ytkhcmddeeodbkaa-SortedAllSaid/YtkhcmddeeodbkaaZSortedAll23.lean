import Derived.Test.YtkhcmddeeodbkaaZSortedAll22
-- Own texts and, of the words that the kit's print program wrote for this claim, those that are needed here: put together by wip/prune.py.
set_option linter.unusedSimpArgs false
set_option linter.unusedVariables false
namespace Go.Proofs.Ytkhcmddeeodbkaa.GL
open Go.RowKit Go.Proofs.YtkhcmddeeodbkaaW.PrintWords Go.Proofs.YtkhcmddeeodbkaaW.PrintLast Go.Proofs.YtkhcmddeeodbkaaW.PrintMore Go.Proofs.Ytkhcmddeeodbkaa.Q Go.Proofs.Ytkhcmddeeodbkaa.XSor Go.Proofs.Ytkhcmddeeodbkaa.G
def PairsPost (w : World) (l : List Rc) (e : Ending) (w' : World) : Prop := ∃ v, e = .returned v ∧ Kd.R k30 30 w' w.heap.size (fun _ => True) v (pairsL l) ∧ Below w.heap.size w w'
theorem recs_p {w : World} {A : Option Addr} {n c : Nat} {l : List Rc} (hn : n = l.length) (hC : Kd.C k27 w A n l) (hc : n ≤ c) :
    Calls Try.prog 40 #[.slice A n c, .int .i64 30] w fun e w' => ∃ v, e = .returned v ∧ Kd.R k27 27 w' w.heap.size (fun _ => True) v (recsL l 30) ∧ Below w.heap.size w w' := by
 subst hn
 obtain ⟨k, hk⟩ := (recs_ev l 30 (by omega)).rounds
 exact loesslaw10_Recs.calls k A c l 30 _ w hC hc hk
theorem refPairs_p {w : World} {A : Option Addr} {n c : Nat} {l : List Rc} (hn : n = l.length) (hC : Kd.C k27 w A n l) (hc : n ≤ c) (hL : l.length ≤ 1000000) (hg : ∀ r ∈ l, r.f1 = false) :
    Calls Try.prog 41 #[.slice A n c] w fun e w' => ∃ v, e = .returned v ∧ Kd.R k30 30 w' w.heap.size (fun _ => True) v (l.map toP) ∧ Below w.heap.size w w' := by
 subst hn
 obtain ⟨k, hk⟩ := (pairs_ev l hL hg).rounds
 exact loessref22_Pairs.calls k A c l _ w hC hc hk
theorem filter_step {l : List Rc} {i : Nat} (h : i < l.length) : (l.take (i + 1)).filter goodR = (l.take i).filter goodR ++ (if goodR (rr l i) = true then [rr l i] else []) := by
 rw [List.take_succ_eq_append_getElem h, List.filter_append, rr_get h]
 congr 1
 by_cases c : goodR l[i] = true
 · rw [if_pos c, List.filter_cons_of_pos c]; rfl
 · rw [if_neg c, List.filter_cons_of_neg c]; rfl
theorem R_lowerP {W : World} {b1 b2 : Nat} {v : Value} {L : List Pr} (h : Kd.R k30 30 W b1 (fun _ => True) v L) (hb : b2 ≤ b1) : Kd.R k30 30 W b2 (fun _ => True) v L := by
 obtain ⟨hok, inner, hown, hr⟩ := h
 refine ⟨fun _ _ => trivial, inner, ?_, hr.1, fun j p hj => ?_⟩
 · obtain ⟨hl, h1⟩ := hown
   refine ⟨hl, ?_⟩
   rcases h1 with h1 | ⟨g, cap, cur, h2, hg, h3⟩
   · exact .inl h1
   · exact .inr ⟨g, cap, cur, h2, Nat.le_trans hb hg, h3⟩
 · have h1 := k30_openM (hr.2 j p hj)
   show Kd.M k30 W b2 _ p ((inner.drop (j * 4)).take 4)
   rw [show (inner.drop (j * 4)).take 4 = [.string p.f0, .int .i64 p.f1.f0, .int .i64 p.f1.f1, .string p.f1.f2] from h1]
   exact k30_mkM W b2 _ p
set_option maxRecDepth 1000000 in
set_option maxHeartbeats 8000000 in
theorem st_Pairs {w : World} {n c : Nat} {A : Option Addr} {l : List Rc} (hn : n = l.length) (hC : Kd.C k27 w A n l) (hc : n ≤ c) :
    Calls Try.prog 17 #[.slice A n c] w (PairsPost w l) := by
 have HN := Aside0.mk hn
 have HC := Aside0.mk hC
 have HCC := Aside0.mk hc
 clear hn hC hc
 go_enter Try.func17, Try.ntmps17
 go_wp2_with (first
  | (go_at_call 40; refine (recs_p HN.out HC.out HCC.out).mono ?_; rintro e w1 ⟨v1, rfl, hR, hb⟩; have HR := Aside0.mk hR; have HB := Aside0.mk hb; clear hR hb))
 obtain ⟨M, hM⟩ : ∃ M, M = recsL l 30 := ⟨_, rfl⟩
 rw [← hM] at HR
 have HM := Aside0.mk hM
 have HML := Aside0.mk (show M.length ≤ 30 by rw [hM]; exact recsL_len l 30)
 obtain ⟨A1, c1, rfl, hn1, hC1⟩ := Kd.R_reads HR.out
 obtain ⟨m, hm⟩ : ∃ m, m = M.length := ⟨_, rfl⟩
 rw [← hm] at hn1 hC1 ⊢
 have HMM := Aside0.mk hm
 have HC1 := Aside0.mk hC1
 have HN1 := Aside0.mk hn1
 have HW := Aside0.mk (Below.refl w1.heap.size w1)
 have hmz : (m : Int) ≤ 30 := by have := HML.out; omega
 clear hM hn1 hC1 hm HR
 go_wp2
 go_loopw [3, 4] (fun v3 v4 wr => ∃ (i : Nat), v4 = .int .i64 i ∧ i ≤ m ∧ Aside0 (Kd.R k27 27 wr w1.heap.size (fun _ => True) v3 ((M.take i).filter goodR)) ∧ Aside0 (Below w1.heap.size w1 wr)) (fun _ v _ => m - (intOf v).toNat)
 case atStart => exact ⟨0, by first | rfl | go_num, Nat.zero_le _, ⟨Kd.R_nil _ _ _ _ _⟩, HW⟩
 case round =>
  clear HW
  obtain ⟨i, rfl, hi, HO, HW⟩ := hrel
  obtain ⟨D, hD⟩ : ∃ D, D = (M.take i).filter goodR := ⟨_, rfl⟩
  rw [← hD] at HO
  have HD := Aside0.mk hD
  have HDL := Aside0.mk (show D.length ≤ 30 by
   have h1 := List.length_filter_le goodR (M.take i)
   have h2 := HML.out
   rw [List.length_take] at h1
   rw [hD]
   omega)
  obtain ⟨A3, c3, rfl, hn3, hC3⟩ := Kd.R_reads HO.out
  obtain ⟨dn, hdn⟩ : ∃ m, m = D.length := ⟨_, rfl⟩
  rw [← hdn] at hn3 hC3 HO ⊢
  have HDN := Aside0.mk hdn
  have HC3 := Aside0.mk hC3
  have HN3 := Aside0.mk hn3
  clear hD hdn hn3 hC3
  by_cases hlt : i < m
  · have HLT := Aside0.mk hlt
    have hltz : (i : Int) < (m : Int) := by omega
    have hl1 : decide ((i : Int) < (m : Int)) = true := decide_eq_true hltz
    have hl2 := decide_eq_true hlt
    obtain ⟨ad, e, h0, h1, h2, h3, h4⟩ := at_T27 HC1.out (i : Int) (Int.natCast_nonneg _) hltz
    cases e
    simp only [Int.toNat_natCast] at h0 h1 h2 h3 h4
    replace h0 := (HW.out.cell (World.block_lt_of_cell? w1 _ h0)).trans h0
    replace h1 := (HW.out.cell (World.block_lt_of_cell? w1 _ h1)).trans h1
    replace h2 := (HW.out.cell (World.block_lt_of_cell? w1 _ h2)).trans h2
    replace h3 := (HW.out.cell (World.block_lt_of_cell? w1 _ h3)).trans h3
    replace h4 := (HW.out.cell (World.block_lt_of_cell? w1 _ h4)).trans h4
    obtain ⟨x, hx⟩ : ∃ x, x = rd_T27 M (i : Int) := ⟨_, rfl⟩
    rw [← hx] at h0 h1 h2 h3 h4
    have HST := Aside0.mk (show (M.take (i + 1)).filter goodR = D ++ (if goodR x = true then [x] else []) by rw [filter_step (by rw [← HMM.out]; exact hlt), HD.out, hx])
    have HXS := Aside0.mk (show x.f2.f2.size < 17592186044416 by
     have h5 : x ∈ recsL l 30 := by rw [hx, ← HM.out]; exact rr_mem (by rw [← HMM.out]; exact hlt)
     obtain ⟨y, _, rfl⟩ := List.mem_map.1 h5
     have := cutS_size 30 y.f2.f2
     exact Nat.lt_of_le_of_lt this (by decide))
    have HKK := Aside0.mk (mayKey_eq x.f0)
    obtain ⟨kV, hkV⟩ := (may_ev x.f2.f0 x.f2.f1 HXS.out).rounds
    have HKV := Aside0.mk hkV
    have HV := Aside0.mk (Below.refl wr.heap.size wr)
    obtain ⟨g0, hg0⟩ : ∃ b, b = x.f1 := ⟨_, rfl⟩
    obtain ⟨g1, hg1⟩ : ∃ b, b = keyB x.f0 := ⟨_, rfl⟩
    obtain ⟨g2, hg2⟩ : ∃ b, b = mayV x.f2.f0 x.f2.f1 x.f2.f2 := ⟨_, rfl⟩
    have HGG := Aside0.mk (show goodR x = (!g0 && (g1 && g2)) by rw [hg0, hg1, hg2]; rfl)
    rw [← hg0] at h1
    rw [← hg1] at HKK
    rw [← hg2] at HKV
    have HG0 := Aside0.mk hg0
    clear hx hkV hlt hi hg0 hg1 hg2
    cases g0
    all_goals cases g1
    all_goals cases g2
    all_goals
     go_wp2_with (first
      | (go_at_call 34; refine (loessref1_MayKey.calls x.f0 _ _ HKK.out).mono ?_; rintro e w2 ⟨rfl, hb⟩; have n1_ := Aside0.mk (below_step HV.out hb.below); clear HV hb; have HV := n1_; clear n1_; have h2k := (HV.out.cell (World.block_lt_of_cell? wr _ h2)).trans h2; have h3k := (HV.out.cell (World.block_lt_of_cell? wr _ h3)).trans h3; have h4k := (HV.out.cell (World.block_lt_of_cell? wr _ h4)).trans h4; have h3b : w2.cell? ⟨(ad.add (i * 5)).block, (ad.add (i * 5)).off + 2 + 1, none⟩ = some (.int .i64 x.f2.f1) := h3k; have h4b : w2.cell? ⟨(ad.add (i * 5)).block, (ad.add (i * 5)).off + 2 + 2, none⟩ = some (.string x.f2.f2) := h4k)
      | (go_at_call 35; refine (loessref1_MayVal.calls kV x.f2.f0 x.f2.f1 x.f2.f2 _ _ HKV.out).mono ?_; rintro e w3 ⟨rfl, hb⟩; clear h2k h3k h4k h3b h4b; have n1_ := Aside0.mk (below_step HV.out hb); clear HV hb; have HV := n1_; clear n1_; have h0v := (HV.out.cell (World.block_lt_of_cell? wr _ h0)).trans h0; have h1v := (HV.out.cell (World.block_lt_of_cell? wr _ h1)).trans h1; have h2v := (HV.out.cell (World.block_lt_of_cell? wr _ h2)).trans h2; have h3v := (HV.out.cell (World.block_lt_of_cell? wr _ h3)).trans h3; have h4v := (HV.out.cell (World.block_lt_of_cell? wr _ h4)).trans h4)
      | ((with_reducible refine gate_builtin (b := .append) (xs := #[.tmp 35, .tmp 40]) rfl ?_); at_builtin; refine Kd.R_append k27 (w0 := w1) w1.heap.size rfl (.tmp 35) (.tmp 40) 39 27 (.agg #[(.string ⟨#[]⟩), (.bool false), (.int .i64 0), (.int .i64 0), (.string ⟨#[]⟩)]) 56 rfl Try.underlying39 info27 rfl (by decide) (by omega) (.slice A3 dn c3) D x [.string x.f0, .bool false, .int .i64 x.f2.f0, .int .i64 x.f2.f1, .string x.f2.f2] (fun _ => True) (fun _ => False) rfl rfl ?aP (fun _ hk => hk.elim) ?aF ?aO ?aB ?aS ?aL ?_; (case aP => have hmk := k27_mkM (w3.alloc (.cells #[.string x.f0, .bool false, .int .i64 x.f2.f0, .int .i64 x.f2.f1, .string x.f2.f2] 27 (0, 0))) w1.heap.size (fun _ => True) x; rw [show x.f1 = false by first | exact HG0.out.symm | exact HG0.out] at hmk; exact hmk); (case aB => exact below_step HW.out HV.out); (case aF => exact (fun _ _ => trivial)); (case aO => exact Kd.R_below HO.out HV.out); (case aS => exact below_size (below_step HW.out HV.out)); (case aL => have := HDL.out; omega); intro v9 w9 ho hb hg hat; have HB9 := Aside0.mk hb; have HO9 := Aside0.mk ho; clear ho hb hg hat))
    all_goals
     refine ⟨⟨i + 1, by first | rfl | go_num, by have := HLT.out; omega, ⟨?_⟩, ⟨by first | exact HB9.out | exact below_step HW.out HV.out⟩⟩, by have := HLT.out; simp [intOf]; omega⟩
     first
      | (rw [HST.out, if_pos (by first | exact HGG.out | simpa using HGG.out)]; exact HO9.out)
      | (rw [HST.out, if_neg (by rw [show goodR x = false by first | exact HGG.out | simpa using HGG.out]; exact Bool.false_ne_true), List.append_nil]; exact Kd.R_below HO.out HV.out)
  · obtain rfl : i = m := by omega
    have hl1 : decide ((i : Int) < (i : Int)) = false := decide_eq_false (by omega)
    have hl2 : decide (i < i) = false := decide_eq_false (by omega)
    have HDI := Aside0.mk (show D = inL l by rw [HD.out, HMM.out, List.take_length, HM.out]; rfl)
    have HKD := Aside0.mk (show ∀ r ∈ D, r.f0.size < 17592186044416 by
     intro r hr
     rw [HDI.out] at hr
     obtain ⟨_, h2, _⟩ := goodR_iff (inL_good (l := l) r hr)
     unfold keyB at h2
     have := of_decide_eq_true h2
     omega)
    clear hlt hi
    have HBA := Aside0.mk (below_alloc (Below.refl wr.heap.size wr) (.cells #[.slice A3 dn c3] 39 (0, 0)))
    go_wp2_with (first
     | (go_at_call 42; refine (st_InOrder (L := D) HDN.out ?hs (Kd.C_below HC3.out HBA.out) HN3.out (by have := HDL.out; have := HDN.out; omega) HKD.out).mono ?_; (case hs => exact (blk_cell (blk_new _ _) 0).trans rfl); rintro e w2 ⟨v2, rfl, hR, hb⟩; obtain ⟨A2, c2, rfl, hn2, hC2⟩ := Kd.R_reads hR; have HC2 := Aside0.mk hC2; have HN2 := Aside0.mk hn2; have HB2 := Aside0.mk (below_step HBA.out hb); clear hR hn2 hC2 hb)
     | (go_at_call 41; refine (refPairs_p rfl HC2.out HN2.out ?hl ?hg).mono ?_; (case hl => rw [ordK_len]; have := dedK_len D; have := HDL.out; omega); (case hg => intro r hr; rw [HDI.out] at hr; exact (goodR_iff (ord_good (l := l) r hr)).1); rintro e w3 ⟨v3, rfl, hR, hb⟩; have HR3 := Aside0.mk hR; have HB3 := Aside0.mk (below_step HB2.out hb); clear hR hb))
    go_ret
    have hb := below_step HB.out (below_step HW.out HB3.out)
    have h3 := R_lowerP HR3.out (show w.heap.size ≤ w2.heap.size from (below_step HB.out (below_step HW.out HB2.out)).size)
    rw [HDI.out] at h3
    exact ⟨_, rfl, h3, hb⟩
end Go.Proofs.Ytkhcmddeeodbkaa.GL
namespace Go.Proofs.Ytkhcmddeeodbkaa.Q
open Go.RowKit Go.Proofs.YtkhcmddeeodbkaaW.PrintWords Go.Proofs.YtkhcmddeeodbkaaW.PrintMore Go.Proofs.Ytkhcmddeeodbkaa.G Go.Proofs.Ytkhcmddeeodbkaa.XSor Go.Proofs.Ytkhcmddeeodbkaa.GL
def kA : ByteArray := ⟨#[97]⟩
def kB : ByteArray := ⟨#[98]⟩
def kC : ByteArray := ⟨#[99]⟩
def rA : Rc := ⟨kA, false, ⟨1, 1, ⟨#[]⟩⟩⟩
def rB : Rc := ⟨kB, false, ⟨1, 2, ⟨#[]⟩⟩⟩
theorem ba_lt : ltK kB kA = true := by kernel_rfl
theorem ab_lt : ltK kA kB = false := by kernel_rfl
def pA : Pr := ⟨kA, ⟨1, 1, ⟨#[]⟩⟩⟩
def pB : Pr := ⟨kB, ⟨1, 2, ⟨#[]⟩⟩⟩
theorem pairs_ab : pairsL [rA, rB] = [pB, pA] := by kernel_rfl
theorem like_a : (GL.likeL [pB, pA] kA).length = 1 := by kernel_rfl
theorem val_b : valP [pB, pA] kB = (⟨1, 2, ⟨#[]⟩⟩, true) := by kernel_rfl
theorem val_c : valP [pB, pA] kC = (⟨0, 0, ⟨#[]⟩⟩, false) := by kernel_rfl
theorem may_ba : MayP [pB, pA] := by rw [← pairs_ab]; exact pairsL_may _
theorem not_ab : ¬ MayP [pA, pB] := fun h => by
 have h1 := (h.2 1 (by decide)).2.2 (by decide)
 have h2 : ltK kA kB = true := h1
 rw [ab_lt] at h2
 cases h2
theorem open_ba : OpenP (encP [pB, pA]) [pB, pA] := ⟨decP_enc may_ba (fun x hx => by
 rcases List.mem_cons.1 hx with rfl | hx
 · exact ⟨by decide, by decide⟩
 · rcases List.mem_cons.1 hx with rfl | hx
   · exact ⟨by decide, by decide⟩
   · cases hx), may_ba, rfl⟩
theorem open_nil : ∀ L, ¬ OpenP [] L := fun L h => by
 have h1 : decP [] = some L := h.1
 have h2 : decP [] = none := by kernel_rfl
 rw [h2] at h1
 cases h1
theorem sm_ba : ∀ p ∈ [pB, pA], SmR (recP p) := fun p hp => by
 refine mayR_sm (may_ba.ok hp) ?_
 rcases List.mem_cons.1 hp with rfl | hx
 · exact ⟨by decide, by decide⟩
 · rcases List.mem_cons.1 hx with rfl | hx
   · exact ⟨by decide, by decide⟩
   · cases hx
end Go.Proofs.Ytkhcmddeeodbkaa.Q
namespace Go.Proofs.Ytkhcmddeeodbkaa.GL
open Go.RowKit Go.Proofs.YtkhcmddeeodbkaaW.PrintWords Go.Proofs.YtkhcmddeeodbkaaW.PrintLast Go.Proofs.YtkhcmddeeodbkaaW.PrintMore Go.Proofs.Ytkhcmddeeodbkaa.Q Go.Proofs.Ytkhcmddeeodbkaa.XSor Go.Proofs.Ytkhcmddeeodbkaa.G
theorem row_C {W : World} {g : Nat} {L : List Rc} (hL : L.length ≤ 100) (hh : W.heap[g]? = some (.cells (List.toArray (rowC L)) 27 (0, 0))) : Kd.C k27 W (some ⟨g, 0, none⟩) L.length L := by
 obtain ⟨A, c, e, hn, hC⟩ := Kd.R_reads (R_of_cells (base := 0) (Nat.zero_le _) hh (Nat.le_refl _) (Nat.le_trans hL (by decide)) (rowC_len L) (List.take_of_length_le (by rw [rowC_len]; exact Nat.le_refl _)))
 injection e with e1 e2 e3
 rw [e1]
 exact hC
theorem enc_len : (encP [pB, pA]).length < 4611686018427387904 := of_decide_eq_true (by kernel_rfl)
theorem get_b {W : World} {g : Nat} (h : SO W g [pB, pA]) : Calls Try.prog 19 #[.pointer (some ⟨g, 0, none⟩), .string ⟨#[98]⟩] W fun e w' => e = .returned (.tuple #[.agg #[.int .i64 1, .int .i64 2, .string ⟨#[]⟩], .bool true]) ∧ Below W.heap.size W w' := by
 have h1 := st_Get (k := kB) h (by decide)
 rw [val_b] at h1
 exact h1
theorem get_c {W : World} {g : Nat} (h : SO W g [pB, pA]) : Calls Try.prog 19 #[.pointer (some ⟨g, 0, none⟩), .string ⟨#[99]⟩] W fun e w' => e = .returned (.tuple #[.agg #[.int .i64 0, .int .i64 0, .string ⟨#[]⟩], .bool false]) ∧ Below W.heap.size W w' := by
 have h1 := st_Get (k := kC) h (by decide)
 rw [val_c] at h1
 exact h1
theorem lit2 (W : World) (base : Nat) : Reps (Kd.M k30 W base (fun _ => True)) k30.sz [pA, pB] [.string kA, .int .i64 1, .int .i64 1, .string ⟨#[]⟩, .string kB, .int .i64 1, .int .i64 2, .string ⟨#[]⟩] := by
 refine ⟨rfl, fun j p hj => ?_⟩
 rcases j with _ | _ | j
 · obtain rfl : pA = p := by simpa using hj
   exact k30_mkM W base _ pA
 · obtain rfl : pB = p := by simpa using hj
   exact k30_mkM W base _ pB
 · simp at hj
theorem new_ab {W : World} {A : Option Addr} {c : Nat} (hC : Kd.C k30 W A 2 [pA, pB]) (hc : 2 ≤ c) : Calls Try.prog 13 #[.slice A 2 c] W fun e w' => e = .returned (.tuple #[.pointer none, .int .i64 1]) ∧ Below W.heap.size W w' := by
 refine (st_New (L := [pA, pB]) rfl hC hc (fun p hp => ?_)).mono ?_
 · rcases List.mem_cons.1 hp with rfl | hp
   · exact ⟨by decide, by decide⟩
   · rcases List.mem_cons.1 hp with rfl | hp
     · exact ⟨by decide, by decide⟩
     · cases hp
 · rintro e w' ⟨hb, ⟨h, _⟩ | ⟨_, h⟩⟩
   · exact absurd h not_ab
   · exact ⟨h, hb⟩
theorem open_nil_p (W : World) : Calls Try.prog 22 #[.slice none 0 0] W fun e w' => e = .returned (.tuple #[.pointer none, .int .i64 8]) ∧ Below W.heap.size W w' := by
 obtain ⟨A, c, e, hn, hC⟩ := Kd.R_reads (Kd.R_nil (Kd.int .u8) 5 W 0 (fun _ => True))
 injection e with e1 e2 e3
 subst e1
 refine (st_Open (l := []) rfl hC (Nat.le_refl 0) Byt.nil (by decide)).mono ?_
 rintro e w' ⟨hb, ⟨L, g, h, _⟩ | ⟨_, h⟩⟩
 · exact absurd h (open_nil L)
 · exact ⟨h, hb⟩
theorem reads_a {W : World} {g : Nat} (h : SO W g [pB, pA]) : Calls Try.prog 20 #[.pointer (some ⟨g, 0, none⟩), .string ⟨#[97]⟩] W fun e w' => e = .returned (.int .i64 1) ∧ Below W.heap.size W w' := by
 have h1 := st_Reads (k := kA) h (by decide)
 rw [like_a] at h1
 exact h1
theorem len_2 {W : World} {g : Nat} (h : SO W g [pB, pA]) : Calls Try.prog 18 #[.pointer (some ⟨g, 0, none⟩)] W fun e w' => e = .returned (.int .i64 2) ∧ Below W.heap.size W w' := by
 refine (st_Len h).mono ?_
 rintro e w' ⟨h1, rfl⟩
 exact ⟨h1, Below.refl _ _⟩
theorem less_ba (W : World) : Calls Try.prog 15 #[.string kB, .string kA] W fun e w' => e = .returned (.bool true) ∧ Below W.heap.size W w' := by
 obtain ⟨k, hk⟩ := (less_ev (a := kB) (b := kA) (by decide) (by decide)).rounds
 rw [ba_lt] at hk
 exact sorted_Less.calls k kB kA _ _ hk
set_option maxRecDepth 1000000 in
set_option maxHeartbeats 8000000 in
theorem st_begun (w : World) : Calls Try.prog 10 #[] w fun e w' => e = .returned (.bool true) ∧ Below w.heap.size w w' := by
 have HR1 := Aside0.mk (row_C (W := w.alloc (.cells #[.string kA, .bool false, .int .i64 1, .int .i64 1, .string ⟨#[]⟩, .string kB, .bool false, .int .i64 1, .int .i64 2, .string ⟨#[]⟩] 27 (0, 0))) (L := [rA, rB]) (by decide) (blk_new _ _))
 have HB := Aside0.mk (below_alloc (Below.refl w.heap.size w) (.cells #[.string kA, .bool false, .int .i64 1, .int .i64 1, .string ⟨#[]⟩, .string kB, .bool false, .int .i64 1, .int .i64 2, .string ⟨#[]⟩] 27 (0, 0)))
 go_enter Try.func10, Try.ntmps10
 go_wp2_with (first
  | (go_at_call 17; refine (st_Pairs (n := 2) (l := [rA, rB]) rfl HR1.out (Nat.le_refl _)).mono ?_; rintro e w1 ⟨v1, rfl, hR, hb⟩; rw [pairs_ab] at hR; obtain ⟨A1, c1, rfl, hn1, hC1⟩ := Kd.R_reads hR; have HC1 := Aside0.mk hC1; have HN1 := Aside0.mk hn1; have HB1 := Aside0.mk (below_step HB.out hb); clear hR hn1 hC1 hb)
  | (go_at_call 13; refine (st_New (n := 2) (L := [pB, pA]) rfl HC1.out HN1.out (fun p hp => ⟨Nat.lt_of_le_of_lt (sm_ba p hp).1 (by decide), Nat.lt_of_le_of_lt (sm_ba p hp).2.1 (by decide)⟩)).mono ?_; rintro e w2 ⟨hb, h2⟩; rcases h2 with ⟨_, g, rfl, hso⟩ | ⟨hbad, _⟩; rotate_left; exact absurd may_ba hbad; have HSO := Aside0.mk hso; have HB2 := Aside0.mk (below_step HB1.out hb); have HC2 := Aside0.mk (Kd.C_below HC1.out hb); clear hso hb)
  | (go_at_call 19; (with_reducible refine (get_b HSO.out).mono ?_); rintro e w3 ⟨rfl, hb⟩; have n1_ := Aside0.mk (below_step HB2.out hb); have n2_ := Aside0.mk (HSO.out.below hb); have n3_ := Aside0.mk (Kd.C_below HC2.out hb); clear HB2 HSO HC2 hb; have HB2 := n1_; have HSO := n2_; have HC2 := n3_; clear n1_ n2_ n3_)
  | ((with_reducible refine gate_dst (N := 4) rfl ?_); refine box_event ?hg (N := 4) ?hd (cs := #[.int .i64 0, .int .i64 0, .string ⟨#[]⟩]) (t := 25) ?hr ?_; (case hd => rfl); (case hg => rfl); (case hr => first | (go_simp; done) | (go_simp; rfl)); intro g4 hg w4 hbox hb; have G4 := Aside0.mk (show w3.heap.size ≤ g4 by omega); have X4 := Aside0.mk hbox; have HV := Aside0.mk (show Below w3.heap.size w3 w4 from hb); clear hbox hg hb; have hs0 : w4.cell? ⟨g4, 0, none⟩ = some (.int .i64 0) := (blk_cell X4.out 0).trans rfl; have hs1 : w4.cell? ⟨g4, 1, none⟩ = some (.int .i64 0) := (blk_cell X4.out 1).trans rfl; have hs2 : w4.cell? ⟨g4, 2, none⟩ = some (.string ⟨#[]⟩) := (blk_cell X4.out 2).trans rfl; have hf0 := blk_frozen X4.out 0; have hf1 := blk_frozen X4.out 1; have hf2 := blk_frozen X4.out 2)
  | ((with_reducible refine gate_store (t := 25) (p := 4) rfl ?_); refine store_event (t := 25) (p := 4) (v := ?vo4) (w1 := (((w4.setCell ⟨g4, 0, none⟩ (.int .i64 1)).setCell ⟨g4, 1, none⟩ (.int .i64 2)).setCell ⟨g4, 2, none⟩ (.string ⟨#[]⟩))) ?hg ?ho ?hn ?hr ?_; (case ho => rfl); (case hg => rfl); (case hn => rfl); (case hr => first | (go_simp; done) | (go_simp; rfl)); intro w5 hw; have hb : Below w3.heap.size w3 w5 := (by rw [hw]; exact below_set (below_set (below_set HV.out G4.out) G4.out) G4.out); have n1_ := Aside0.mk (below_step HB2.out hb); have n2_ := Aside0.mk (HSO.out.below hb); have n3_ := Aside0.mk (Kd.C_below HC2.out hb); clear HB2 HSO HC2 hb; have HB2 := n1_; have HSO := n2_; have HC2 := n3_; clear n1_ n2_ n3_; have B4 := Aside0.mk (show w5.heap[g4]? = some (.cells #[.int .i64 1, .int .i64 2, .string ⟨#[]⟩] 25 (0, 0)) by rw [hw]; exact blk_put (blk_put (blk_put X4.out 0 _ rfl) 1 _ rfl) 2 _ rfl); clear HV X4 hs0 hs1 hs2 hf0 hf1 hf2 hw)
  | (go_at_call 19; (with_reducible refine (get_c HSO.out).mono ?_); rintro e w6 ⟨rfl, hb⟩; have n4_ := Aside0.mk (blk_below B4.out hb); clear B4; have B4 := n4_; clear n4_; have n1_ := Aside0.mk (below_step HB2.out hb); have n2_ := Aside0.mk (HSO.out.below hb); have n3_ := Aside0.mk (Kd.C_below HC2.out hb); clear HB2 HSO HC2 hb; have HB2 := n1_; have HSO := n2_; have HC2 := n3_; clear n1_ n2_ n3_)
  | ((with_reducible refine gate_dst (N := 6) rfl ?_); refine box_event ?hg (N := 6) ?hd (cs := #[.int .i64 0, .int .i64 0, .string ⟨#[]⟩]) (t := 25) ?hr ?_; (case hd => rfl); (case hg => rfl); (case hr => first | (go_simp; done) | (go_simp; rfl)); intro g6 hg w7 hbox hb; have G6 := Aside0.mk (show w6.heap.size ≤ g6 by omega); have X6 := Aside0.mk hbox; have HV := Aside0.mk (show Below w6.heap.size w6 w7 from hb); clear hbox hg hb; have hs0 : w7.cell? ⟨g6, 0, none⟩ = some (.int .i64 0) := (blk_cell X6.out 0).trans rfl; have hs1 : w7.cell? ⟨g6, 1, none⟩ = some (.int .i64 0) := (blk_cell X6.out 1).trans rfl; have hs2 : w7.cell? ⟨g6, 2, none⟩ = some (.string ⟨#[]⟩) := (blk_cell X6.out 2).trans rfl; have hf0 := blk_frozen X6.out 0; have hf1 := blk_frozen X6.out 1; have hf2 := blk_frozen X6.out 2)
  | ((with_reducible refine gate_store (t := 25) (p := 6) rfl ?_); refine store_event (t := 25) (p := 6) (v := ?vo6) (w1 := (((w7.setCell ⟨g6, 0, none⟩ (.int .i64 0)).setCell ⟨g6, 1, none⟩ (.int .i64 0)).setCell ⟨g6, 2, none⟩ (.string ⟨#[]⟩))) ?hg ?ho ?hn ?hr ?_; (case ho => rfl); (case hg => rfl); (case hn => rfl); (case hr => first | (go_simp; done) | (go_simp; rfl)); intro w8 hw; have hb : Below w6.heap.size w6 w8 := (by rw [hw]; exact below_set (below_set (below_set HV.out G6.out) G6.out) G6.out); have n4_ := Aside0.mk (blk_below B4.out hb); clear B4; have B4 := n4_; clear n4_; have n1_ := Aside0.mk (below_step HB2.out hb); have n2_ := Aside0.mk (HSO.out.below hb); have n3_ := Aside0.mk (Kd.C_below HC2.out hb); clear HB2 HSO HC2 hb; have HB2 := n1_; have HSO := n2_; have HC2 := n3_; clear n1_ n2_ n3_; clear HV X6 hs0 hs1 hs2 hf0 hf1 hf2 hw)
  | (go_at_call 23; refine (st_Bytes HSO.out sm_ba).mono ?_; rintro e w9 ⟨v9, rfl, hR, hb⟩; obtain ⟨A9, c9, rfl, hn9, hC9⟩ := Kd.R_reads hR; have HC9 := Aside0.mk hC9; have HN9 := Aside0.mk hn9; clear hR hn9 hC9; have n4_ := Aside0.mk (blk_below B4.out hb); clear B4; have B4 := n4_; clear n4_; have n1_ := Aside0.mk (below_step HB2.out hb); have n2_ := Aside0.mk (HSO.out.below hb); have n3_ := Aside0.mk (Kd.C_below HC2.out hb); clear HB2 HSO HC2 hb; have HB2 := n1_; have HSO := n2_; have HC2 := n3_; clear n1_ n2_ n3_)
  | (go_at_call 22; refine (st_Open rfl HC9.out HN9.out (encP_byt _) enc_len).mono ?_; rintro e w10 ⟨hb, h10⟩; rcases h10 with ⟨L2, g2, ho2, rfl, hso2⟩ | ⟨hbad, _⟩; rotate_left; exact absurd open_ba (hbad _); obtain rfl : [pB, pA] = L2 := Option.some.inj (open_ba.1.symm.trans ho2.1); have HSO2 := Aside0.mk hso2; clear ho2 hso2; have n4_ := Aside0.mk (blk_below B4.out hb); clear B4; have B4 := n4_; clear n4_; have n1_ := Aside0.mk (below_step HB2.out hb); have n2_ := Aside0.mk (HSO.out.below hb); have n3_ := Aside0.mk (Kd.C_below HC2.out hb); clear HB2 HSO HC2 hb; have HB2 := n1_; have HSO := n2_; have HC2 := n3_; clear n1_ n2_ n3_))
 have HV := Aside0.mk (Below.refl w10.heap.size w10)
 obtain ⟨ad, e, b0, b1, b2, b3⟩ := at_T30 HC2.out 0 (by decide) (by decide)
 obtain ⟨ad', e', a0, a1, a2, a3⟩ := at_T30 HC2.out 1 (by decide) (by decide)
 cases e
 obtain rfl : ad = ad' := Option.some.inj e'
 clear e'
 have z0 : ad.add ((0 : Int).toNat * 4) = ad := by cases ad; rfl
 have z1 : ad.add ((1 : Int).toNat * 4) = ⟨ad.block, ad.off + 4, none⟩ := rfl
 rw [z0] at b0 b1 b2 b3
 rw [z1] at a0 a1 a2 a3
 refine GR.start_p (n := 13) (S := fun w' => w'.cell? ad = some (.string pB.f0) ∧ w'.cell? ⟨ad.block, ad.off + 1, none⟩ = some (.int .i64 pB.f1.f0) ∧ w'.cell? ⟨ad.block, ad.off + 2, none⟩ = some (.int .i64 pB.f1.f1) ∧ w'.cell? ⟨ad.block, ad.off + 3, none⟩ = some (.string pB.f1.f2) ∧ w'.cell? ⟨ad.block, ad.off + 4, none⟩ = some (.string pA.f0) ∧ w'.cell? ⟨ad.block, ad.off + 4 + 1, none⟩ = some (.int .i64 pA.f1.f0) ∧ w'.cell? ⟨ad.block, ad.off + 4 + 2, none⟩ = some (.int .i64 pA.f1.f1) ∧ w'.cell? ⟨ad.block, ad.off + 4 + 3, none⟩ = some (.string pA.f1.f2)) (ds := []) (by kernel_rfl) rfl ⟨(HV.out.drew.cell (World.block_lt_of_cell? w10 _ b0)).trans b0, (HV.out.drew.cell (World.block_lt_of_cell? w10 _ b1)).trans b1, (HV.out.drew.cell (World.block_lt_of_cell? w10 _ b2)).trans b2, (HV.out.drew.cell (World.block_lt_of_cell? w10 _ b3)).trans b3, (HV.out.drew.cell (World.block_lt_of_cell? w10 _ a0)).trans a0, (HV.out.drew.cell (World.block_lt_of_cell? w10 _ a1)).trans a1, (HV.out.drew.cell (World.block_lt_of_cell? w10 _ a2)).trans a2, (HV.out.drew.cell (World.block_lt_of_cell? w10 _ a3)).trans a3⟩ (fun hHeld => ?_)
 repeat (first
  | (refine GR.off_p (a' := ?_) (by simp only [List.getElem?_toArray, List.getElem?_cons_succ, List.getElem?_cons_zero] <;> rfl) (by first | (dsimp only; done) | (dsimp only; rfl) | rfl) (by kernel_rfl) (by exact fun _ _ _ h => h) (by rfl) ?_ ?_; rotate_left; (simp only [Act.put, List.setIfInBounds_toArray, List.set_cons_zero, List.set_cons_succ, i64_w, i32_w]; rfl))
  | (refine GR.pure_p (v := ?_) (a' := ?_) (by simp only [List.getElem?_toArray, List.getElem?_cons_succ, List.getElem?_cons_zero] <;> rfl) (by first | (dsimp only; done) | (dsimp only; rfl) | rfl) (by kernel_rfl) (by exact fun _ _ _ h => h) (by rfl) ?_ ?_ ?_; rotate_left; (intro w'; go_simp; with_reducible rfl); rotate_left; (simp only [Act.put, List.setIfInBounds_toArray, List.set_cons_zero, List.set_cons_succ, i64_w, i32_w]; rfl))
  | (refine GR.take_p (v := ?_) (a' := ?_) (by simp only [List.getElem?_toArray, List.getElem?_cons_succ, List.getElem?_cons_zero] <;> rfl) (by first | (dsimp only; done) | (dsimp only; rfl) | rfl) (by kernel_rfl) (by exact fun _ _ _ h => h) (by rfl) ?_ hHeld ?_ ?_; rotate_left; (rintro w' ⟨s0, s1, s2, s3, s4, s5, s6, s7⟩; go_simp; with_reducible rfl); rotate_left; (simp only [Act.put, List.setIfInBounds_toArray, List.set_cons_zero, List.set_cons_succ, i64_w, i32_w]; rfl))
  | (refine GR.one_p (by simp only [List.getElem?_toArray, List.getElem?_cons_succ, List.getElem?_cons_zero] <;> rfl) (by first | (dsimp only; done) | (dsimp only; rfl) | rfl) (by kernel_rfl) (by decide) (fun K hK => ?_); (first
 | (refine Kd.R_lit_step k30 (w0 := w10) w10.heap.size 30 (by rfl) (N := 59) rfl (xs := [pA, pB]) (inner := [.string kA, .int .i64 1, .int .i64 1, .string ⟨#[]⟩, .string kB, .int .i64 1, .int .i64 2, .string ⟨#[]⟩]) (ok := fun _ => True) (okp := fun _ => True) ?hr1 (lit2 _ _) (fun _ hk => hk) trivial (by first | exact HV.out | exact HV.out.drew) (by first | exact HV.out.size | exact HV.out.drew.size) (by simp) ?_; (case hr1 => first | (go_simp; done) | (go_simp; rfl)); intro v59 w59 ho hb hg hat; obtain ⟨A59, c59, rfl, hn59, hC59⟩ := Kd.R_reads ho; have n1_ := Aside0.mk hb; clear HV ho hb hg hat; have HV := n1_; clear n1_)
 | (refine goes_ Try.func13 (by kernel_rfl) rfl #[.slice A59 2 c59] (by rfl) rfl rfl (by simp only [List.map_toArray, List.map_cons, List.map_nil]; rfl) ?_; (with_reducible refine (new_ab hC59 hn59).mono ?_); rintro e w12 ⟨rfl, hb⟩; refine ⟨_, rfl, ?_⟩; have n1_ := Aside0.mk (below_step (by first | exact HV.out | exact HV.out.drew) hb); clear HV hb; have HV := n1_; clear n1_)
     ); (refine hK.out _ _ (by first | exact ⟨(HV.out.cell (World.block_lt_of_cell? w10 _ b0)).trans b0, (HV.out.cell (World.block_lt_of_cell? w10 _ b1)).trans b1, (HV.out.cell (World.block_lt_of_cell? w10 _ b2)).trans b2, (HV.out.cell (World.block_lt_of_cell? w10 _ b3)).trans b3, (HV.out.cell (World.block_lt_of_cell? w10 _ a0)).trans a0, (HV.out.cell (World.block_lt_of_cell? w10 _ a1)).trans a1, (HV.out.cell (World.block_lt_of_cell? w10 _ a2)).trans a2, (HV.out.cell (World.block_lt_of_cell? w10 _ a3)).trans a3⟩ | exact ⟨(HV.out.drew.cell (World.block_lt_of_cell? w10 _ b0)).trans b0, (HV.out.drew.cell (World.block_lt_of_cell? w10 _ b1)).trans b1, (HV.out.drew.cell (World.block_lt_of_cell? w10 _ b2)).trans b2, (HV.out.drew.cell (World.block_lt_of_cell? w10 _ b3)).trans b3, (HV.out.drew.cell (World.block_lt_of_cell? w10 _ a0)).trans a0, (HV.out.drew.cell (World.block_lt_of_cell? w10 _ a1)).trans a1, (HV.out.drew.cell (World.block_lt_of_cell? w10 _ a2)).trans a2, (HV.out.drew.cell (World.block_lt_of_cell? w10 _ a3)).trans a3⟩) (fun hHeld => ?_)); clear hK K; refine norm_ (a' := ?_) ?_ ?_; rotate_left; (show Act.put _ _ _ = _; simp only [Act.put, List.setIfInBounds_toArray, List.set_cons_zero, List.set_cons_succ, i64_w, i32_w]; rfl)))
 refine done_ (by kernel_rfl) ?_
 go_wp2_with (first
  | (go_at_call 22; (with_reducible refine (open_nil_p _).mono ?_); rintro e w11 ⟨rfl, hb⟩; have n1_ := Aside0.mk (below_step HV.out hb); clear HV hb; have HV := n1_; clear n1_)
  | (fail))
 have q4 : w11.cell? ⟨g4, 1, none⟩ = some (.int .i64 2) := (blk_cell (blk_below B4.out HV.out) 1).trans rfl
 have qb : w11.cell? ad = some (.string kB) := (HV.out.cell (World.block_lt_of_cell? w10 _ b0)).trans b0
 have qa : w11.cell? ⟨ad.block, ad.off + 4, none⟩ = some (.string kA) := (HV.out.cell (World.block_lt_of_cell? w10 _ a0)).trans a0
 have n1_ := Aside0.mk (HSO.out.below HV.out)
 have n2_ := Aside0.mk (HSO2.out.below HV.out)
 have n3_ := Aside0.mk (below_step HB2.out HV.out)
 clear HSO HSO2 HB2 HV b0 b1 b2 b3 a0 a1 a2 a3
 have HSO := n1_
 have HSO2 := n2_
 have HB2 := n3_
 have HV := Aside0.mk (Below.refl w11.heap.size w11)
 clear n1_ n2_ n3_
 refine GR.start_p (n := 44) (S := fun w' => w'.cell? ⟨g4, 1, none⟩ = some (.int .i64 2) ∧ w'.cell? ad = some (.string kB) ∧ w'.cell? ⟨ad.block, ad.off + 4, none⟩ = some (.string kA)) (ds := []) (by kernel_rfl) rfl ⟨(HV.out.drew.cell (World.block_lt_of_cell? w11 _ q4)).trans q4, (HV.out.drew.cell (World.block_lt_of_cell? w11 _ qb)).trans qb, (HV.out.drew.cell (World.block_lt_of_cell? w11 _ qa)).trans qa⟩ (fun hHeld => ?_)
 repeat (first
  | (refine GR.off_p (a' := ?_) (by simp only [List.getElem?_toArray, List.getElem?_cons_succ, List.getElem?_cons_zero] <;> rfl) (by first | (dsimp only; done) | (dsimp only; rfl) | rfl) (by kernel_rfl) (by exact fun _ _ _ h => h) (by rfl) ?_ ?_; rotate_left; (simp only [Act.put, List.setIfInBounds_toArray, List.set_cons_zero, List.set_cons_succ, i64_w, i32_w]; rfl))
  | (refine GR.pure_p (v := ?_) (a' := ?_) (by simp only [List.getElem?_toArray, List.getElem?_cons_succ, List.getElem?_cons_zero] <;> rfl) (by first | (dsimp only; done) | (dsimp only; rfl) | rfl) (by kernel_rfl) (by exact fun _ _ _ h => h) (by rfl) ?_ ?_ ?_; rotate_left; (intro w'; go_simp; with_reducible rfl); rotate_left; (simp only [Act.put, List.setIfInBounds_toArray, List.set_cons_zero, List.set_cons_succ, i64_w, i32_w]; rfl))
  | (refine GR.take_p (v := ?_) (a' := ?_) (by simp only [List.getElem?_toArray, List.getElem?_cons_succ, List.getElem?_cons_zero] <;> rfl) (by first | (dsimp only; done) | (dsimp only; rfl) | rfl) (by kernel_rfl) (by exact fun _ _ _ h => h) (by rfl) ?_ hHeld ?_ ?_; rotate_left; (rintro w' ⟨s0, s1, s2⟩; go_simp; with_reducible rfl); rotate_left; (simp only [Act.put, List.setIfInBounds_toArray, List.set_cons_zero, List.set_cons_succ, i64_w, i32_w]; rfl))
  | (refine GR.one_p (by simp only [List.getElem?_toArray, List.getElem?_cons_succ, List.getElem?_cons_zero] <;> rfl) (by first | (dsimp only; done) | (dsimp only; rfl) | rfl) (by kernel_rfl) (by decide) (fun K hK => ?_); (first
 | (refine goes_ Try.func20 (by kernel_rfl) rfl #[.pointer (some ⟨g, 0, none⟩), .string ⟨#[97]⟩] (by rfl) rfl rfl (by simp only [List.map_toArray, List.map_cons, List.map_nil]; rfl) ?_; (with_reducible refine (reads_a (HSO.out.below (by first | exact HV.out | exact HV.out.drew))).mono ?_); rintro e w12 ⟨rfl, hb⟩; refine ⟨_, rfl, ?_⟩; have n1_ := Aside0.mk (below_step (by first | exact HV.out | exact HV.out.drew) hb); clear HV hb; have HV := n1_; clear n1_)
 | (refine goes_ Try.func18 (by kernel_rfl) rfl #[.pointer (some ⟨g2, 0, none⟩)] (by rfl) rfl rfl (by simp only [List.map_toArray, List.map_cons, List.map_nil]; rfl) ?_; (with_reducible refine (len_2 (HSO2.out.below (by first | exact HV.out | exact HV.out.drew))).mono ?_); rintro e w12 ⟨rfl, hb⟩; refine ⟨_, rfl, ?_⟩; have n1_ := Aside0.mk (below_step (by first | exact HV.out | exact HV.out.drew) hb); clear HV hb; have HV := n1_; clear n1_)
 | (refine goes_ Try.func15 (by kernel_rfl) rfl #[.string kB, .string kA] (by rfl) rfl rfl (by simp only [List.map_toArray, List.map_cons, List.map_nil]; rfl) ?_; (with_reducible refine (less_ba _).mono ?_); rintro e w12 ⟨rfl, hb⟩; refine ⟨_, rfl, ?_⟩; have n1_ := Aside0.mk (below_step (by first | exact HV.out | exact HV.out.drew) hb); clear HV hb; have HV := n1_; clear n1_)
     ); (refine hK.out _ _ (by first | exact ⟨(HV.out.cell (World.block_lt_of_cell? w11 _ q4)).trans q4, (HV.out.cell (World.block_lt_of_cell? w11 _ qb)).trans qb, (HV.out.cell (World.block_lt_of_cell? w11 _ qa)).trans qa⟩ | exact ⟨(HV.out.drew.cell (World.block_lt_of_cell? w11 _ q4)).trans q4, (HV.out.drew.cell (World.block_lt_of_cell? w11 _ qb)).trans qb, (HV.out.drew.cell (World.block_lt_of_cell? w11 _ qa)).trans qa⟩) (fun hHeld => ?_)); clear hK K; refine norm_ (a' := ?_) ?_ ?_; rotate_left; (show Act.put _ _ _ = _; simp only [Act.put, List.setIfInBounds_toArray, List.set_cons_zero, List.set_cons_succ, i64_w, i32_w]; rfl)))
 refine done_ (by kernel_rfl) ?_
 go_wp2
 go_ret
 exact ⟨rfl, below_step HB2.out HV.out⟩
end Go.Proofs.Ytkhcmddeeodbkaa.GL
namespace Go.Proofs.Ytkhcmddeeodbkaa.GL
open Go.RowKit Go.Proofs.YtkhcmddeeodbkaaW.PrintWords Go.Proofs.YtkhcmddeeodbkaaW.PrintLast Go.Proofs.YtkhcmddeeodbkaaW.PrintMore Go.Proofs.Ytkhcmddeeodbkaa.Q Go.Proofs.Ytkhcmddeeodbkaa.XSor Go.Proofs.Ytkhcmddeeodbkaa.G
theorem new_p {w : World} {A : Option Addr} {n c : Nat} {l : List Rc} (hn : n = (pairsL l).length) (hC : Kd.C k30 w A n (pairsL l)) (hc : n ≤ c) :
    Calls Try.prog 13 #[.slice A n c] w fun e w' => ∃ g, e = .returned (.tuple #[.pointer (some ⟨g, 0, none⟩), .int .i64 0]) ∧ SO w' g (pairsL l) ∧ Below w.heap.size w w' := by
 refine (st_New hn hC hc (fun p hp => by have := pairsL_sm (l := l) p hp; omega)).mono ?_
 rintro e w' ⟨hb, ⟨_, g, h, hs⟩ | ⟨h, _⟩⟩
 · exact ⟨g, h, hs, hb⟩
 · exact absurd (pairsL_may l) h
theorem get_v {W : World} {g : Nat} {L : List Pr} {k : ByteArray} {u : Rw} {b : Bool} (h : SO W g L) (hk : k.size < 17592186044416) (hv : valP L k = (u, b)) : Calls Try.prog 19 #[.pointer (some ⟨g, 0, none⟩), .string k] W fun e w' => e = .returned (.tuple #[.agg #[.int .i64 u.f0, .int .i64 u.f1, .string u.f2], .bool b]) ∧ Below W.heap.size W w' := by
 have h1 := st_Get (k := k) h hk
 rw [hv] at h1
 exact h1
end Go.Proofs.Ytkhcmddeeodbkaa.GL
