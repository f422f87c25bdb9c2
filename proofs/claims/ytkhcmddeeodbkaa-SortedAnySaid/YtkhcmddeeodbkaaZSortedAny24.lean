import Derived.Test.YtkhcmddeeodbkaaZSortedAny23
-- Own texts and, of the words that the kit's print program wrote for this claim, those that are needed here: put together by wip/prune.py.
set_option linter.unusedSimpArgs false
set_option linter.unusedVariables false
namespace Go.Proofs.Ytkhcmddeeodbkaa.Q
open Go.RowKit Go.Proofs.YtkhcmddeeodbkaaW.PrintWords Go.Proofs.YtkhcmddeeodbkaaW.PrintMore Go.Proofs.Ytkhcmddeeodbkaa.G Go.Proofs.Ytkhcmddeeodbkaa.XSor
def cutS (n : Nat) (s : ByteArray) : ByteArray := if (s.size : Int) > n then s.extract 0 n else s
def cutR (x : Rc) : Rc := ⟨cutS 20 x.f0, x.f1, ⟨x.f2.f0, x.f2.f1, cutS 30 x.f2.f2⟩⟩
theorem cutS_eq (n : Nat) (s : ByteArray) : loesslaw3_Cut.f s (n : Int) = some (cutS n s) := by
  unfold loesslaw3_Cut.f cutS
  split
  · rw [if_pos (by omega), if_pos (by omega), Int.toNat_natCast]
  · rfl
theorem cutS_size (n : Nat) (s : ByteArray) : (cutS n s).size ≤ n := by
  unfold cutS
  split
  · rw [ByteArray.size_extract]; omega
  · omega
theorem cutR_eq (x : Rc) : loesslaw10_Cut.f x.f0 x.f1 x.f2.f0 x.f2.f1 x.f2.f2 = some ((cutR x).f0, (cutR x).f1, (cutR x).f2.f0, (cutR x).f2.f1, (cutR x).f2.f2) := by
  unfold loesslaw10_Cut.f
  rw [show ((20 : Int)) = ((20 : Nat) : Int) from rfl, cutS_eq, Option.bind_some]
  unfold loesslaw4_Cut.f
  rw [show ((30 : Int)) = ((30 : Nat) : Int) from rfl, cutS_eq]
  rfl
def recsL (l : List Rc) (n : Nat) : List Rc := (l.take n).map cutR
theorem recs_l (l : List Rc) (n : Nat) (hn : n ≤ 100) : ∀ (d i : Nat), i + d = n → i ≤ l.length → Ev (fun k => loesslaw10_Recs.l0 k l (n : Int) ((l.take i).map cutR) (i : Int)) (recsL l n) := by
  intro d
  induction d with
  | zero =>
    intro i h hi
    obtain rfl : i = n := by omega
    refine Ev.step (fun k => by unfold loesslaw10_Recs.l0; rfl) ?_
    by_cases c : (i : Int) < (l.length : Int)
    · exact Ev.congr (fun k => if_pos c) (Ev.congr (fun k => if_neg (by omega)) (Ev.now _))
    · exact Ev.congr (fun k => if_neg c) (Ev.now _)
  | succ d ih =>
    intro i h hi
    refine Ev.step (fun k => by unfold loesslaw10_Recs.l0; rfl) ?_
    by_cases c : i < l.length
    · have hrec := ih (i + 1) (by omega) (by omega)
      rw [List.take_succ_eq_append_getElem c, List.map_append, ← rr_get c] at hrec
      have hlen : ((l.take i).map cutR).length = i := by rw [List.length_map, List.length_take]; omega
      refine Ev.congr (fun k => if_pos (by omega)) (Ev.congr (fun k => if_pos (by omega)) (Ev.congr (fun k => if_pos (by omega)) ?_))
      refine Ev.bind (evC (cutR_eq (rr l i))) (Ev.congr (fun k => if_pos (by omega)) ?_)
      rw [w64 (x := (i : Int) + 1) (by omega) (by omega)]
      exact hrec
    · refine Ev.congr (fun k => if_neg (by omega)) (evEq (Ev.now _) ?_)
      unfold recsL
      rw [List.take_of_length_le (by omega), List.take_of_length_le (by omega)]
theorem recs_ev (l : List Rc) (n : Nat) (hn : n ≤ 100) : Ev (fun k => loesslaw10_Recs.f k l (n : Int)) (recsL l n) := by
  have := recs_l l n hn n 0 (by omega) (Nat.zero_le _)
  exact this
theorem recsL_len (l : List Rc) (n : Nat) : (recsL l n).length ≤ n := by unfold recsL; rw [List.length_map, List.length_take]; omega
theorem recsL_sm {l : List Rc} (h : ∀ x ∈ l, I64 x.f2.f0 ∧ I64 x.f2.f1) (n : Nat) : ∀ x ∈ recsL l n, SmR x := by
  intro x hx
  obtain ⟨y, hy, rfl⟩ := List.mem_map.1 hx
  have := h y (List.mem_of_mem_take hy)
  exact ⟨cutS_size 20 _, cutS_size 30 _, this.1, this.2⟩
def toP (r : Rc) : Pr := ⟨r.f0, ⟨r.f2.f0, r.f2.f1, r.f2.f2⟩⟩
def goodR (x : Rc) : Bool := !x.f1 && (keyB x.f0 && mayV x.f2.f0 x.f2.f1 x.f2.f2)
theorem pairs_l (L : List Rc) (hL : L.length ≤ 1000000) : ∀ (d i : Nat) (acc : List Pr), i + d = L.length → acc.length ≤ i → Ev (fun k => loessref22_Pairs.l0 k L acc (i : Int)) (acc ++ ((L.drop i).filter (fun r => !r.f1)).map toP) := by
  intro d
  induction d with
  | zero =>
    intro i acc h ha
    refine Ev.step (fun k => by unfold loessref22_Pairs.l0; rfl) (Ev.congr (fun k => if_neg (by omega)) (evEq (Ev.now _) ?_))
    rw [List.drop_of_length_le (by omega)]
    simp
  | succ d ih =>
    intro i acc h ha
    have hlt : i < L.length := by omega
    refine Ev.step (fun k => by unfold loessref22_Pairs.l0; rfl) (Ev.congr (fun k => if_pos (by omega)) (Ev.congr (fun k => if_pos (by omega)) ?_))
    rw [rr_drop hlt]
    by_cases c : (rr L i).f1 = true
    · refine Ev.congr (fun k => if_pos c) ?_
      rw [w64 (x := (i : Int) + 1) (by omega) (by omega)]
      refine evEq (ih (i + 1) acc (by omega) (by omega)) ?_
      rw [List.filter_cons_of_neg (by rw [c]; simp)]
    · refine Ev.congr (fun k => if_neg c) (Ev.congr (fun k => if_pos (by omega)) ?_)
      rw [w64 (x := (i : Int) + 1) (by omega) (by omega)]
      refine evEq (ih (i + 1) (acc ++ [toP (rr L i)]) (by omega) (by rw [List.length_append, List.length_singleton]; omega)) ?_
      rw [List.filter_cons_of_pos (by simp [c]), List.map_cons, List.append_assoc, List.singleton_append]
theorem pairs_ev (L : List Rc) (hL : L.length ≤ 1000000) (hg : ∀ r ∈ L, r.f1 = false) : Ev (fun k => loessref22_Pairs.f k L) (L.map toP) := by
  have h := pairs_l L hL L.length 0 [] (by omega) (Nat.le_refl _)
  rw [List.drop_zero, List.nil_append, List.filter_eq_self.2 (fun r hr => by rw [hg r hr]; rfl)] at h
  exact h
def inL (l : List Rc) : List Rc := (recsL l 30).filter goodR
def pairsL (l : List Rc) : List Pr := (ordK (inL l)).map toP
theorem inL_len (l : List Rc) : (inL l).length ≤ 30 := Nat.le_trans (List.length_filter_le _ _) (recsL_len l 30)
theorem inL_good {l : List Rc} : ∀ x ∈ inL l, goodR x = true := fun x hx => (List.mem_filter.1 hx).2
theorem ord_good {l : List Rc} : ∀ x ∈ ordK (inL l), goodR x = true := fun x hx => inL_good x (dedK_mem _ x ((ordK_mem _ x).1 hx))
theorem pairsL_len (l : List Rc) : (pairsL l).length ≤ 30 := by
  unfold pairsL
  rw [List.length_map, ordK_len]
  exact Nat.le_trans (dedK_len _) (inL_len l)
theorem goodR_iff {x : Rc} (h : goodR x = true) : x.f1 = false ∧ keyB x.f0 = true ∧ mayV x.f2.f0 x.f2.f1 x.f2.f2 = true := by
  unfold goodR at h
  rw [Bool.and_eq_true, Bool.and_eq_true, Bool.not_eq_true'] at h
  exact ⟨h.1, h.2.1, h.2.2⟩
theorem mayP_map {M : List Rc} (hl : M.length ≤ 1000) (hg : ∀ x ∈ M, goodR x = true) (hr : RiseK M) : MayP (M.map toP) := by
  refine ⟨by rw [List.length_map]; exact hl, fun j hj => ?_⟩
  have hj2 : j < M.length := by rw [List.length_map] at hj; exact hj
  refine ⟨hj, ?_, fun h0 => ?_⟩
  · rw [List.getElem_map]
    obtain ⟨h1, h2, h3⟩ := goodR_iff (hg _ (List.getElem_mem hj2))
    unfold okP recP toP mayR
    simp [h2, h3]
  · rw [List.getElem_map, List.getElem_map]
    exact List.pairwise_iff_getElem.1 hr (j - 1) j (by omega) hj2 (by omega)
theorem pairsL_may (l : List Rc) : MayP (pairsL l) := by
  have h := pairsL_len l
  unfold pairsL at h
  rw [List.length_map] at h
  exact mayP_map (by omega) (fun x hx => ord_good (l := l) x hx) (ordK_rise _)
end Go.Proofs.Ytkhcmddeeodbkaa.Q
namespace Go.Proofs.Ytkhcmddeeodbkaa.GL
open Go.RowKit Go.Proofs.YtkhcmddeeodbkaaW.PrintWords Go.Proofs.YtkhcmddeeodbkaaW.PrintLast Go.Proofs.YtkhcmddeeodbkaaW.PrintMore Go.Proofs.Ytkhcmddeeodbkaa.Q Go.Proofs.Ytkhcmddeeodbkaa.XSor Go.Proofs.Ytkhcmddeeodbkaa.G
def PairsPost (w : World) (l : List Rc) (e : Ending) (w' : World) : Prop := ∃ v, e = .returned v ∧ Kd.R k30 30 w' w.heap.size (fun _ => True) v (pairsL l) ∧ Below w.heap.size w w'
theorem recs_p {w : World} {A : Option Addr} {n c : Nat} {l : List Rc} (hn : n = l.length) (hC : Kd.C k27 w A n l) (hc : n ≤ c) :
    Calls Try.prog 40 #[.slice A n c, .int .i64 30] w fun e w' => ∃ v, e = .returned v ∧ Kd.R k27 27 w' w.heap.size (fun _ => True) v (recsL l 30) ∧ Below w.heap.size w w' := by
  subst hn
  obtain ⟨k, hk⟩ := (recs_ev l 30 (by omega)).rounds
  exact loesslaw10_Recs.calls k A c l 30 _ w hC hc hk
theorem refPairs_p {w : World} {A : Option Addr} {n c : Nat} {l : List Rc} (hn : n = l.length) (hC : Kd.C k27 w A n l) (hc : n ≤ c) (hL : l.length ≤ 1000000) (hg : ∀ r ∈ l, r.f1 = false) :
    Calls Try.prog 41 #[.slice A n c] w fun e w' => ∃ v, e = .returned v ∧ Kd.R k30 30 w' w.heap.size (fun _ => True) v (l.map toP) ∧ Below w.heap.size w w' := by
  subst hn
  obtain ⟨k, hk⟩ := (pairs_ev l hL hg).rounds
  exact loessref22_Pairs.calls k A c l _ w hC hc hk
theorem filter_step {l : List Rc} {i : Nat} (h : i < l.length) : (l.take (i + 1)).filter goodR = (l.take i).filter goodR ++ (if goodR (rr l i) = true then [rr l i] else []) := by
  rw [List.take_succ_eq_append_getElem h, List.filter_append, rr_get h]
  congr 1
  by_cases c : goodR l[i] = true
  · rw [if_pos c, List.filter_cons_of_pos c]; rfl
  · rw [if_neg c, List.filter_cons_of_neg c]; rfl
theorem R_lowerP {W : World} {b1 b2 : Nat} {v : Value} {L : List Pr} (h : Kd.R k30 30 W b1 (fun _ => True) v L) (hb : b2 ≤ b1) : Kd.R k30 30 W b2 (fun _ => True) v L := by
  obtain ⟨hok, inner, hown, hr⟩ := h
  refine ⟨fun _ _ => trivial, inner, ?_, hr.1, fun j p hj => ?_⟩
  · obtain ⟨hl, h1⟩ := hown
    refine ⟨hl, ?_⟩
    rcases h1 with h1 | ⟨g, cap, cur, h2, hg, h3⟩
    · exact .inl h1
    · exact .inr ⟨g, cap, cur, h2, Nat.le_trans hb hg, h3⟩
  · have h1 := k30_openM (hr.2 j p hj)
    show Kd.M k30 W b2 _ p ((inner.drop (j * 4)).take 4)
    rw [show (inner.drop (j * 4)).take 4 = [.string p.f0, .int .i64 p.f1.f0, .int .i64 p.f1.f1, .string p.f1.f2] from h1]
    exact k30_mkM W b2 _ p
set_option maxRecDepth 1000000 in
set_option maxHeartbeats 8000000 in
theorem st_Pairs {w : World} {n c : Nat} {A : Option Addr} {l : List Rc} (hn : n = l.length) (hC : Kd.C k27 w A n l) (hc : n ≤ c) :
    Calls Try.prog 17 #[.slice A n c] w (PairsPost w l) := by
  have HN := Aside0.mk hn
  have HC := Aside0.mk hC
  have HCC := Aside0.mk hc
  clear hn hC hc
  go_enter Try.func17, Try.ntmps17
  go_wp2_with (first
    | (go_at_call 40; refine (recs_p HN.out HC.out HCC.out).mono ?_; rintro e w1 ⟨v1, rfl, hR, hb⟩; have HR := Aside0.mk hR; have HB := Aside0.mk hb; clear hR hb))
  obtain ⟨M, hM⟩ : ∃ M, M = recsL l 30 := ⟨_, rfl⟩
  rw [← hM] at HR
  have HM := Aside0.mk hM
  have HML := Aside0.mk (show M.length ≤ 30 by rw [hM]; exact recsL_len l 30)
  obtain ⟨A1, c1, rfl, hn1, hC1⟩ := Kd.R_reads HR.out
  obtain ⟨m, hm⟩ : ∃ m, m = M.length := ⟨_, rfl⟩
  rw [← hm] at hn1 hC1 ⊢
  have HMM := Aside0.mk hm
  have HC1 := Aside0.mk hC1
  have HN1 := Aside0.mk hn1
  have HW := Aside0.mk (Below.refl w1.heap.size w1)
  have hmz : (m : Int) ≤ 30 := by have := HML.out; omega
  clear hM hn1 hC1 hm HR
  go_wp2
  go_loopw [3, 4] (fun v3 v4 wr => ∃ (i : Nat), v4 = .int .i64 i ∧ i ≤ m ∧ Aside0 (Kd.R k27 27 wr w1.heap.size (fun _ => True) v3 ((M.take i).filter goodR)) ∧ Aside0 (Below w1.heap.size w1 wr)) (fun _ v _ => m - (intOf v).toNat)
  case atStart => exact ⟨0, by first | rfl | go_num, Nat.zero_le _, ⟨Kd.R_nil _ _ _ _ _⟩, HW⟩
  case round =>
    clear HW
    obtain ⟨i, rfl, hi, HO, HW⟩ := hrel
    obtain ⟨D, hD⟩ : ∃ D, D = (M.take i).filter goodR := ⟨_, rfl⟩
    rw [← hD] at HO
    have HD := Aside0.mk hD
    have HDL := Aside0.mk (show D.length ≤ 30 by
      have h1 := List.length_filter_le goodR (M.take i)
      have h2 := HML.out
      rw [List.length_take] at h1
      rw [hD]
      omega)
    obtain ⟨A3, c3, rfl, hn3, hC3⟩ := Kd.R_reads HO.out
    obtain ⟨dn, hdn⟩ : ∃ m, m = D.length := ⟨_, rfl⟩
    rw [← hdn] at hn3 hC3 HO ⊢
    have HDN := Aside0.mk hdn
    have HC3 := Aside0.mk hC3
    have HN3 := Aside0.mk hn3
    clear hD hdn hn3 hC3
    by_cases hlt : i < m
    · have HLT := Aside0.mk hlt
      have hltz : (i : Int) < (m : Int) := by omega
      have hl1 : decide ((i : Int) < (m : Int)) = true := decide_eq_true hltz
      have hl2 := decide_eq_true hlt
      obtain ⟨ad, e, h0, h1, h2, h3, h4⟩ := at_T27 HC1.out (i : Int) (Int.natCast_nonneg _) hltz
      cases e
      simp only [Int.toNat_natCast] at h0 h1 h2 h3 h4
      replace h0 := (HW.out.cell (World.block_lt_of_cell? w1 _ h0)).trans h0
      replace h1 := (HW.out.cell (World.block_lt_of_cell? w1 _ h1)).trans h1
      replace h2 := (HW.out.cell (World.block_lt_of_cell? w1 _ h2)).trans h2
      replace h3 := (HW.out.cell (World.block_lt_of_cell? w1 _ h3)).trans h3
      replace h4 := (HW.out.cell (World.block_lt_of_cell? w1 _ h4)).trans h4
      obtain ⟨x, hx⟩ : ∃ x, x = rd_T27 M (i : Int) := ⟨_, rfl⟩
      rw [← hx] at h0 h1 h2 h3 h4
      have HST := Aside0.mk (show (M.take (i + 1)).filter goodR = D ++ (if goodR x = true then [x] else []) by rw [filter_step (by rw [← HMM.out]; exact hlt), HD.out, hx])
      have HXS := Aside0.mk (show x.f2.f2.size < 17592186044416 by
        have h5 : x ∈ recsL l 30 := by rw [hx, ← HM.out]; exact rr_mem (by rw [← HMM.out]; exact hlt)
        obtain ⟨y, _, rfl⟩ := List.mem_map.1 h5
        have := cutS_size 30 y.f2.f2
        exact Nat.lt_of_le_of_lt this (by decide))
      have HKK := Aside0.mk (mayKey_eq x.f0)
      obtain ⟨kV, hkV⟩ := (may_ev x.f2.f0 x.f2.f1 HXS.out).rounds
      have HKV := Aside0.mk hkV
      have HV := Aside0.mk (Below.refl wr.heap.size wr)
      obtain ⟨g0, hg0⟩ : ∃ b, b = x.f1 := ⟨_, rfl⟩
      obtain ⟨g1, hg1⟩ : ∃ b, b = keyB x.f0 := ⟨_, rfl⟩
      obtain ⟨g2, hg2⟩ : ∃ b, b = mayV x.f2.f0 x.f2.f1 x.f2.f2 := ⟨_, rfl⟩
      have HGG := Aside0.mk (show goodR x = (!g0 && (g1 && g2)) by rw [hg0, hg1, hg2]; rfl)
      rw [← hg0] at h1
      rw [← hg1] at HKK
      rw [← hg2] at HKV
      have HG0 := Aside0.mk hg0
      clear hx hkV hlt hi hg0 hg1 hg2
      cases g0
      all_goals cases g1
      all_goals cases g2
      all_goals
        go_wp2_with (first
          | (go_at_call 34; refine (loessref1_MayKey.calls x.f0 _ _ HKK.out).mono ?_; rintro e w2 ⟨rfl, hb⟩; have n1_ := Aside0.mk (below_step HV.out hb.below); clear HV hb; have HV := n1_; clear n1_; have h2k := (HV.out.cell (World.block_lt_of_cell? wr _ h2)).trans h2; have h3k := (HV.out.cell (World.block_lt_of_cell? wr _ h3)).trans h3; have h4k := (HV.out.cell (World.block_lt_of_cell? wr _ h4)).trans h4; have h3b : w2.cell? ⟨(ad.add (i * 5)).block, (ad.add (i * 5)).off + 2 + 1, none⟩ = some (.int .i64 x.f2.f1) := h3k; have h4b : w2.cell? ⟨(ad.add (i * 5)).block, (ad.add (i * 5)).off + 2 + 2, none⟩ = some (.string x.f2.f2) := h4k)
          | (go_at_call 35; refine (loessref1_MayVal.calls kV x.f2.f0 x.f2.f1 x.f2.f2 _ _ HKV.out).mono ?_; rintro e w3 ⟨rfl, hb⟩; clear h2k h3k h4k h3b h4b; have n1_ := Aside0.mk (below_step HV.out hb); clear HV hb; have HV := n1_; clear n1_; have h0v := (HV.out.cell (World.block_lt_of_cell? wr _ h0)).trans h0; have h1v := (HV.out.cell (World.block_lt_of_cell? wr _ h1)).trans h1; have h2v := (HV.out.cell (World.block_lt_of_cell? wr _ h2)).trans h2; have h3v := (HV.out.cell (World.block_lt_of_cell? wr _ h3)).trans h3; have h4v := (HV.out.cell (World.block_lt_of_cell? wr _ h4)).trans h4)
          | ((with_reducible refine gate_builtin (b := .append) (xs := #[.tmp 35, .tmp 40]) rfl ?_); at_builtin; refine Kd.R_append k27 (w0 := w1) w1.heap.size rfl (.tmp 35) (.tmp 40) 39 27 (.agg #[(.string ⟨#[]⟩), (.bool false), (.int .i64 0), (.int .i64 0), (.string ⟨#[]⟩)]) 56 rfl Try.underlying39 info27 rfl (by decide) (by omega) (.slice A3 dn c3) D x [.string x.f0, .bool false, .int .i64 x.f2.f0, .int .i64 x.f2.f1, .string x.f2.f2] (fun _ => True) (fun _ => False) rfl rfl ?aP (fun _ hk => hk.elim) ?aF ?aO ?aB ?aS ?aL ?_; (case aP => have hmk := k27_mkM (w3.alloc (.cells #[.string x.f0, .bool false, .int .i64 x.f2.f0, .int .i64 x.f2.f1, .string x.f2.f2] 27 (0, 0))) w1.heap.size (fun _ => True) x; rw [show x.f1 = false by first | exact HG0.out.symm | exact HG0.out] at hmk; exact hmk); (case aB => exact below_step HW.out HV.out); (case aF => exact (fun _ _ => trivial)); (case aO => exact Kd.R_below HO.out HV.out); (case aS => exact below_size (below_step HW.out HV.out)); (case aL => have := HDL.out; omega); intro v9 w9 ho hb hg hat; have HB9 := Aside0.mk hb; have HO9 := Aside0.mk ho; clear ho hb hg hat))
      all_goals
        refine ⟨⟨i + 1, by first | rfl | go_num, by have := HLT.out; omega, ⟨?_⟩, ⟨by first | exact HB9.out | exact below_step HW.out HV.out⟩⟩, by have := HLT.out; simp [intOf]; omega⟩
        first
          | (rw [HST.out, if_pos (by first | exact HGG.out | simpa using HGG.out)]; exact HO9.out)
          | (rw [HST.out, if_neg (by rw [show goodR x = false by first | exact HGG.out | simpa using HGG.out]; exact Bool.false_ne_true), List.append_nil]; exact Kd.R_below HO.out HV.out)
    · obtain rfl : i = m := by omega
      have hl1 : decide ((i : Int) < (i : Int)) = false := decide_eq_false (by omega)
      have hl2 : decide (i < i) = false := decide_eq_false (by omega)
      have HDI := Aside0.mk (show D = inL l by rw [HD.out, HMM.out, List.take_length, HM.out]; rfl)
      have HKD := Aside0.mk (show ∀ r ∈ D, r.f0.size < 17592186044416 by
        intro r hr
        rw [HDI.out] at hr
        obtain ⟨_, h2, _⟩ := goodR_iff (inL_good (l := l) r hr)
        unfold keyB at h2
        have := of_decide_eq_true h2
        omega)
      clear hlt hi
      have HBA := Aside0.mk (below_alloc (Below.refl wr.heap.size wr) (.cells #[.slice A3 dn c3] 39 (0, 0)))
      go_wp2_with (first
        | (go_at_call 42; refine (st_InOrder (L := D) HDN.out ?hs (Kd.C_below HC3.out HBA.out) HN3.out (by have := HDL.out; have := HDN.out; omega) HKD.out).mono ?_; (case hs => exact (blk_cell (blk_new _ _) 0).trans rfl); rintro e w2 ⟨v2, rfl, hR, hb⟩; obtain ⟨A2, c2, rfl, hn2, hC2⟩ := Kd.R_reads hR; have HC2 := Aside0.mk hC2; have HN2 := Aside0.mk hn2; have HB2 := Aside0.mk (below_step HBA.out hb); clear hR hn2 hC2 hb)
        | (go_at_call 41; refine (refPairs_p rfl HC2.out HN2.out ?hl ?hg).mono ?_; (case hl => rw [ordK_len]; have := dedK_len D; have := HDL.out; omega); (case hg => intro r hr; rw [HDI.out] at hr; exact (goodR_iff (ord_good (l := l) r hr)).1); rintro e w3 ⟨v3, rfl, hR, hb⟩; have HR3 := Aside0.mk hR; have HB3 := Aside0.mk (below_step HB2.out hb); clear hR hb))
      go_ret
      have hb := below_step HB.out (below_step HW.out HB3.out)
      have h3 := R_lowerP HR3.out (show w.heap.size ≤ w2.heap.size from (below_step HB.out (below_step HW.out HB2.out)).size)
      rw [HDI.out] at h3
      exact ⟨_, rfl, h3, hb⟩
end Go.Proofs.Ytkhcmddeeodbkaa.GL
namespace Go.Proofs.Ytkhcmddeeodbkaa.Q
open Go.RowKit Go.Proofs.YtkhcmddeeodbkaaW.PrintWords Go.Proofs.YtkhcmddeeodbkaaW.PrintMore Go.Proofs.Ytkhcmddeeodbkaa.G Go.Proofs.Ytkhcmddeeodbkaa.XSor Go.Proofs.Ytkhcmddeeodbkaa.GL
def kA : ByteArray := ⟨#[97]⟩
def kB : ByteArray := ⟨#[98]⟩
def kC : ByteArray := ⟨#[99]⟩
def rA : Rc := ⟨kA, false, ⟨1, 1, ⟨#[]⟩⟩⟩
def rB : Rc := ⟨kB, false, ⟨1, 2, ⟨#[]⟩⟩⟩
theorem ba_lt : ltK kB kA = true := by kernel_rfl
theorem ab_lt : ltK kA kB = false := by kernel_rfl
def pA : Pr := ⟨kA, ⟨1, 1, ⟨#[]⟩⟩⟩
def pB : Pr := ⟨kB, ⟨1, 2, ⟨#[]⟩⟩⟩
theorem pairs_ab : pairsL [rA, rB] = [pB, pA] := by kernel_rfl
theorem like_a : (GL.likeL [pB, pA] kA).length = 1 := by kernel_rfl
theorem val_b : valP [pB, pA] kB = (⟨1, 2, ⟨#[]⟩⟩, true) := by kernel_rfl
theorem val_c : valP [pB, pA] kC = (⟨0, 0, ⟨#[]⟩⟩, false) := by kernel_rfl
theorem may_ba : MayP [pB, pA] := by rw [← pairs_ab]; exact pairsL_may _
theorem not_ab : ¬ MayP [pA, pB] := fun h => by
  have h1 := (h.2 1 (by decide)).2.2 (by decide)
  have h2 : ltK kA kB = true := h1
  rw [ab_lt] at h2
  cases h2
theorem open_ba : OpenP (encP [pB, pA]) [pB, pA] := ⟨decP_enc may_ba (fun x hx => by
  rcases List.mem_cons.1 hx with rfl | hx
  · exact ⟨by decide, by decide⟩
  · rcases List.mem_cons.1 hx with rfl | hx
    · exact ⟨by decide, by decide⟩
    · cases hx), may_ba, rfl⟩
theorem open_nil : ∀ L, ¬ OpenP [] L := fun L h => by
  have h1 : decP [] = some L := h.1
  have h2 : decP [] = none := by kernel_rfl
  rw [h2] at h1
  cases h1
theorem sm_ba : ∀ p ∈ [pB, pA], SmR (recP p) := fun p hp => by
  refine mayR_sm (may_ba.ok hp) ?_
  rcases List.mem_cons.1 hp with rfl | hx
  · exact ⟨by decide, by decide⟩
  · rcases List.mem_cons.1 hx with rfl | hx
    · exact ⟨by decide, by decide⟩
    · cases hx
end Go.Proofs.Ytkhcmddeeodbkaa.Q
