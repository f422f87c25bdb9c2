import Derived.Test.YtkhcmddeeodbkaaZSortedAll21
-- Own texts and, of the words that the kit's print program wrote for this claim, those that are needed here: put together by wip/prune.py.
set_option linter.unusedSimpArgs false
set_option linter.unusedVariables false
namespace Go.Proofs.Ytkhcmddeeodbkaa.GL
open Go.RowKit Go.Proofs.YtkhcmddeeodbkaaW.PrintWords Go.Proofs.YtkhcmddeeodbkaaW.PrintLast Go.Proofs.YtkhcmddeeodbkaaW.PrintMore Go.Proofs.Ytkhcmddeeodbkaa.Q Go.Proofs.Ytkhcmddeeodbkaa.XSor Go.Proofs.Ytkhcmddeeodbkaa.G
def OpenPost (w : World) (l : List Int) (e : Ending) (w' : World) : Prop :=
 Below w.heap.size w w' ∧ ((∃ L g, OpenP l L ∧ e = .returned (.tuple #[.pointer (some ⟨g, 0, none⟩), .int .i64 0]) ∧ SO w' g L) ∨ ((∀ L, ¬ OpenP l L) ∧ e = .returned (.tuple #[.pointer none, .int .i64 8])))
theorem equal_p {w : World} {A B : Option Addr} {n m c d : Nat} {l r : List Int} (hn : n = l.length) (hm : m = r.length) (hC : Kd.C (Kd.int .u8) w A n l) (hc : n ≤ c) (hD : Kd.C (Kd.int .u8) w B m r) (hd : m ≤ d) (hl : Byt l) (hr : Byt r) :
    Calls Try.prog 50 #[.slice A n c, .slice B m d] w fun e w' => e = .returned (.bool (decide (l = r))) ∧ Below w.heap.size w w' := by
 subst hn
 subst hm
 have he : bytes_Equal.f l r = some (decide (l = r)) := by
  unfold bytes_Equal.f
  congr 1
  by_cases h : l = r
  · rw [h, decide_eq_true rfl]; simp
  · rw [decide_eq_false h]
    exact beq_eq_false_iff_ne.mpr (fun e => h (str_inj hl hr (toList_inj e)))
 exact (bytes_Equal.calls A c l B d r _ w hC hc hD hd he).mono (fun e w' h => ⟨h.1, h.2.below⟩)
theorem decP_bad {l : List Int} (h : ¬ ((getN l).2.2 = 0 ∧ 0 ≤ (getN l).1 ∧ (getN l).1 ≤ 1000)) : ∀ L, ¬ OpenP l L := by
 intro L hL
 have := hL.1
 unfold decP at this
 rw [if_neg h] at this
 cases this
theorem decP_none {l : List Int} (h : decP l = none) : ∀ L, ¬ OpenP l L := fun L hL => by have := hL.1; rw [h] at this; cases this
theorem mk5 {W : World} {g : Nat} {cs : Array Value} (r : Rc) (h : W.heap[g]? = some (.cells cs 27 (0, 0))) (h5 : cs = #[.string ⟨#[]⟩, .bool false, .int .i64 0, .int .i64 0, .string ⟨#[]⟩]) :
    (((((W.setCell ⟨g, 0, none⟩ (.string r.f0)).setCell ⟨g, 1, none⟩ (.bool r.f1)).setCell ⟨g, 2, none⟩ (.int .i64 r.f2.f0)).setCell ⟨g, 3, none⟩ (.int .i64 r.f2.f1)).setCell ⟨g, 4, none⟩ (.string r.f2.f2)).heap[g]? = some (.cells #[.string r.f0, .bool r.f1, .int .i64 r.f2.f0, .int .i64 r.f2.f1, .string r.f2.f2] 27 (0, 0)) := by
 subst h5
 exact blk_put (blk_put (blk_put (blk_put (blk_put h 0 _ rfl) 1 _ rfl) 2 _ rfl) 3 _ rfl) 4 _ rfl
theorem encP_byt (L : List Pr) : Byt (encP L) := by
 unfold encP
 refine (putN_byt _).append (fun x hx => ?_)
 obtain ⟨p, _, hp⟩ := List.mem_flatMap.1 hx
 exact putR_byt _ x hp
set_option maxRecDepth 1000000 in
set_option maxHeartbeats 8000000 in
theorem st_Open {w : World} {A : Option Addr} {n c : Nat} {l : List Int} (hn : n = l.length) (hC : Kd.C (Kd.int .u8) w A n l) (hc : n ≤ c) (hb : Byt l) (hl : n < 4611686018427387904) :
    Calls Try.prog 22 #[.slice A n c] w (OpenPost w l) := by
 have HN := Aside0.mk hn
 have HC := Aside0.mk hC
 have HCC := Aside0.mk hc
 have HBY := Aside0.mk hb
 have HL := Aside0.mk hl
 have HGB := Aside0.mk (getN_bound l)
 obtain ⟨N, hN⟩ : ∃ x, x = (getN l).1 := ⟨_, rfl⟩
 obtain ⟨P, hP⟩ : ∃ x, x = (getN l).2.1 := ⟨_, rfl⟩
 obtain ⟨E, hE⟩ : ∃ x, x = (getN l).2.2 := ⟨_, rfl⟩
 have HG := Aside0.mk (show N = (getN l).1 ∧ P = (getN l).2.1 ∧ E = (getN l).2.2 from ⟨hN, hP, hE⟩)
 have HCALL := Aside0.mk (show Calls Try.prog 48 #[.slice A n c] w fun e w' => e = .returned (.tuple #[.int .i64 N, .int .i64 P, .int .i64 E]) ∧ Below w.heap.size w w' by
  rw [hN, hP, hE]; exact numGet_p hn hC hc hb hl)
 clear hn hC hc hb hl hN hP hE
 by_cases hE : ¬ E = 0
 · have HBAD := Aside0.mk (decP_bad (l := l) (fun h => hE (by rw [HG.out.2.2]; exact h.1)))
   have he : (E == 0) = false := beq_eq_false_iff_ne.mpr hE
   have he2 : (E != 0) = true := by rw [bne, he]; rfl
   have he3 : decide (E = 0) = false := decide_eq_false hE
   go_enter Try.func22, Try.ntmps22
   go_wp2_with (first
    | (go_at_call 48; refine (HCALL.out).mono ?_; rintro e w1 ⟨rfl, hb⟩; have HB := Aside0.mk hb; clear hb)
    | fail)
   go_ret2
   exact ⟨HB.out, .inr ⟨HBAD.out, rfl⟩⟩
 obtain rfl : E = 0 := Decidable.not_not.1 hE
 clear hE
 by_cases hneg : N < 0
 · have HBAD := Aside0.mk (decP_bad (l := l) (fun h => by have := HG.out.1; omega))
   have hd : decide (N < 0) = true := decide_eq_true hneg
   clear hneg
   go_enter Try.func22, Try.ntmps22
   go_wp2_with (first
    | (go_at_call 48; refine (HCALL.out).mono ?_; rintro e w1 ⟨rfl, hb⟩; have HB := Aside0.mk hb; clear hb)
    | fail)
   go_ret2
   exact ⟨HB.out, .inr ⟨HBAD.out, rfl⟩⟩
 by_cases hbig : 1000 < N
 · have HBAD := Aside0.mk (decP_bad (l := l) (fun h => by have := HG.out.1; omega))
   have hd : decide (1000 < N) = true := decide_eq_true hbig
   have hd0 : decide (N < 0) = false := decide_eq_false hneg
   clear hneg hbig
   go_enter Try.func22, Try.ntmps22
   go_wp2_with (first
    | (go_at_call 48; refine (HCALL.out).mono ?_; rintro e w1 ⟨rfl, hb⟩; have HB := Aside0.mk hb; clear hb)
    | fail)
   go_ret2
   exact ⟨HB.out, .inr ⟨HBAD.out, rfl⟩⟩
 obtain ⟨m, rfl⟩ := Int.eq_ofNat_of_zero_le (show 0 ≤ N by omega)
 obtain ⟨p0, rfl⟩ := Int.eq_ofNat_of_zero_le (show 0 ≤ P by rw [HG.out.2.1]; exact HGB.out.1)
 have hm : m ≤ 1000 := by omega
 have HP0 := Aside0.mk (show p0 ≤ n by have h1 := HGB.out.2.1; have h2 := HG.out.2.1; have := HN.out; omega)
 have HDEC := Aside0.mk (show decP l = readP l m (p0 : Int) [] by
  have h1 := HG.out.1
  have h2 := HG.out.2.1
  have h3 := HG.out.2.2
  unfold decP
  rw [← h1, ← h2, ← h3, if_pos ⟨by first | trivial | rfl, by omega, by omega⟩, Int.toNat_natCast])
 have hd0 : decide ((m : Int) < 0) = false := decide_eq_false hneg
 have hd1 : decide (1000 < (m : Int)) = false := decide_eq_false hbig
 have hd2 : decide (1000 < m) = false := decide_eq_false (by omega)
 have HM := Aside0.mk hm
 clear hneg hbig hm HG HGB
 go_enter Try.func22, Try.ntmps22
 go_wp2_with (first
  | (go_at_call 48; refine (HCALL.out).mono ?_; rintro e w1 ⟨rfl, hb⟩; have HB := Aside0.mk hb; clear hb)
  | fail)
 clear HCALL
 go_loopw [5, 7, 29] (fun v5 v7 v29 wr => ∃ (i p : Nat) (acc : List Pr), v29 = .int .i64 i ∧ v5 = .int .i64 p ∧ i ≤ m ∧ p ≤ n ∧ acc.length = i ∧ Aside0 (decP l = readP l (m - i) (p : Int) acc) ∧ Aside0 (∀ x ∈ acc, x.f0.size < 17592186044416 ∧ x.f1.f2.size < 17592186044416 ∧ I64 x.f1.f0 ∧ I64 x.f1.f1) ∧ Aside0 (Kd.R k30 30 wr w.heap.size (fun _ => True) v7 acc) ∧ Aside0 (Below w.heap.size w wr)) (fun _ _ v _ => m - (intOf v).toNat)
 case atStart => exact ⟨0, p0, [], by first | rfl | go_num, by first | rfl | go_num, Nat.zero_le _, HP0.out, rfl, ⟨by rw [Nat.sub_zero]; exact HDEC.out⟩, ⟨fun x hx => by cases hx⟩, ⟨Kd.R_nil _ _ _ _ _⟩, HB⟩
 case round =>
  clear HB HDEC
  obtain ⟨i, p, acc, rfl, rfl, hi, hp, hacc, HDEC, HSZ, HO, HB⟩ := hrel
  obtain ⟨A3, c3, rfl, hn3, hC3⟩ := Kd.R_reads HO.out
  rw [hacc] at hn3 hC3 HO ⊢
  have HAC := Aside0.mk hacc
  have HC3 := Aside0.mk hC3
  have HN3 := Aside0.mk hn3
  clear hacc hn3 hC3
  by_cases hlt : i < m
  · have HLT := Aside0.mk hlt
    have hltz : (i : Int) < (m : Int) := by omega
    have hiz : (i : Int) < 1000 := by have := HM.out; omega
    have hl1 : decide ((i : Int) < (m : Int)) = true := decide_eq_true hltz
    have hl2 := decide_eq_true hlt
    obtain ⟨A1, n1, c1, hn1, hnc1, hcut, hCc⟩ := cutU A n c p hp HCC.out
    have HCc := Aside0.mk (fun (W : World) (hb : Below w.heap.size w W) => hCc W l HN.out (Kd.C_below HC.out hb))
    have HN1 := Aside0.mk hn1
    have HNC1 := Aside0.mk hnc1
    have HND := Aside0.mk (show n1 = (l.drop p).length by rw [hn1, List.length_drop, ← HN.out])
    have HBD := Aside0.mk (HBY.out.drop p)
    have HGB := Aside0.mk (getR_bound (l.drop p))
    have HGO := Aside0.mk (getR_ok HBD.out)
    have HGK := Aside0.mk (getR_key (l.drop p))
    have HPN := Aside0.mk hp
    obtain ⟨r, hr⟩ : ∃ x, x = (Q.getR (l.drop p)).1 := ⟨_, rfl⟩
    obtain ⟨kk, hkk⟩ : ∃ x, x = (Q.getR (l.drop p)).2.1 := ⟨_, rfl⟩
    obtain ⟨e, he⟩ : ∃ x, x = (Q.getR (l.drop p)).2.2 := ⟨_, rfl⟩
    have HREC := Aside0.mk (show ∀ W, Below w.heap.size w W → Calls Try.prog 49 #[.slice A1 n1 c1] W fun e' w' => e' = .returned (.tuple #[.agg #[.string r.f0, .bool r.f1, .int .i64 r.f2.f0, .int .i64 r.f2.f1, .string r.f2.f2], .int .i64 kk, .int .i64 e]) ∧ Below W.heap.size W w' by
     intro W hb
     rw [hr, hkk, he]
     exact recGet_p HND.out (HCc.out W hb) HNC1.out HBD.out (by have := HL.out; have := HN1.out; omega))
    have HRD := Aside0.mk (show readP l (m - i) (p : Int) acc = if e = 0 ∧ r.f1 = false then readP l (m - (i + 1)) ((p : Int) + kk) (acc ++ [prR r]) else none by
     rw [show m - i = (m - (i + 1)) + 1 by omega, readP_succ, Int.toNat_natCast, ← hr, ← hkk, ← he])
    rw [← hkk] at HGB
    rw [← hr] at HGO HGK
    clear hr hkk he hlt hn1 hnc1 hCc hp hi
    obtain ⟨q, rfl⟩ := Int.eq_ofNat_of_zero_le HGB.out.1
    by_cases he : ¬ e = 0
    · have HBAD := Aside0.mk (decP_none (l := l) (by rw [HDEC.out, HRD.out, if_neg (fun h => he h.1)]))
      have he1 : (e == 0) = false := beq_eq_false_iff_ne.mpr he
      have he2 : (e != 0) = true := by rw [bne, he1]; rfl
      have he3 : decide (e = 0) = false := decide_eq_false he
      go_wp2_with (first
    | (go_at_call 49; refine (HREC.out wr HB.out).mono ?_; rintro e w2 ⟨rfl, hb⟩; have HV := Aside0.mk hb; clear hb hcut)
    | ((with_reducible refine gate_dst (N := 8) rfl ?_); refine box_event ?hg (N := 8) ?hd (cs := #[.string ⟨#[]⟩, .bool false, .int .i64 0, .int .i64 0, .string ⟨#[]⟩]) (t := 27) ?hr ?_; (case hd => rfl); (case hg => rfl); (case hr => first | (go_simp; done) | (go_simp; rfl)); intro g8 hg w7 hbox hb; have G8 := Aside0.mk (show wr.heap.size ≤ g8 by have := HV.out.size; omega); have B8 := Aside0.mk hbox; have n1_ := Aside0.mk (show Below wr.heap.size wr w7 from below_step HV.out hb); clear HV hbox hg hb; have HV := n1_; clear n1_; have hs0 : w7.cell? ⟨g8, 0, none⟩ = some (.string ⟨#[]⟩) := (blk_cell B8.out 0).trans rfl; have hs1 : w7.cell? ⟨g8, 1, none⟩ = some (.bool false) := (blk_cell B8.out 1).trans rfl; have hs2 : w7.cell? ⟨g8, 2, none⟩ = some (.int .i64 0) := (blk_cell B8.out 2).trans rfl; have hs3 : w7.cell? ⟨g8, 3, none⟩ = some (.int .i64 0) := (blk_cell B8.out 3).trans rfl; have hs4 : w7.cell? ⟨g8, 4, none⟩ = some (.string ⟨#[]⟩) := (blk_cell B8.out 4).trans rfl; have hf0 := blk_frozen B8.out 0; have hf1 := blk_frozen B8.out 1; have hf2 := blk_frozen B8.out 2; have hf3 := blk_frozen B8.out 3; have hf4 := blk_frozen B8.out 4)
    | ((with_reducible refine gate_store (t := 27) (p := 8) rfl ?_); refine store_event (t := 27) (p := 8) (v := ?vo1) (w1 := (((((w7.setCell ⟨g8, 0, none⟩ (.string r.f0)).setCell ⟨g8, 1, none⟩ (.bool r.f1)).setCell ⟨g8, 2, none⟩ (.int .i64 r.f2.f0)).setCell ⟨g8, 3, none⟩ (.int .i64 r.f2.f1)).setCell ⟨g8, 4, none⟩ (.string r.f2.f2))) ?hg ?ho ?hn ?hr ?_; (case ho => rfl); (case hg => rfl); (case hn => rfl); (case hr => first | (go_simp; done) | (go_simp; rfl)); intro w8 hw; have n1_ : Aside0 (Below wr.heap.size wr w8) := ⟨by rw [hw]; exact bel5 HV.out G8.out⟩; have n2_ := Aside0.mk (show w8.heap[g8]? = _ from hw ▸ mk5 r B8.out rfl); clear HV B8 hs0 hs1 hs2 hs3 hs4 hf0 hf1 hf2 hf3 hf4 hw; have HV := n1_; clear n1_; have k0 : w8.cell? ⟨g8, 0, none⟩ = some (.string r.f0) := (blk_cell n2_.out 0).trans rfl; have k1 : w8.cell? ⟨g8, 1, none⟩ = some (.bool r.f1) := (blk_cell n2_.out 1).trans rfl; have k2 : w8.cell? ⟨g8, 2, none⟩ = some (.int .i64 r.f2.f0) := (blk_cell n2_.out 2).trans rfl; have k3 : w8.cell? ⟨g8, 3, none⟩ = some (.int .i64 r.f2.f1) := (blk_cell n2_.out 3).trans rfl; have k4 : w8.cell? ⟨g8, 4, none⟩ = some (.string r.f2.f2) := (blk_cell n2_.out 4).trans rfl; clear n2_)
        )
      go_ret2
      exact ⟨below_step HB.out HV.out, .inr ⟨HBAD.out, rfl⟩⟩
    obtain rfl : e = 0 := Decidable.not_not.1 he
    clear he
    by_cases hgn : r.f1 = true
    · have HBAD := Aside0.mk (decP_none (l := l) (by rw [HDEC.out, HRD.out, if_neg (fun h => by rw [hgn] at h; cases h.2)]))
      go_wp2_with (first
    | (go_at_call 49; refine (HREC.out wr HB.out).mono ?_; rintro e w2 ⟨rfl, hb⟩; have HV := Aside0.mk hb; clear hb hcut)
    | ((with_reducible refine gate_dst (N := 8) rfl ?_); refine box_event ?hg (N := 8) ?hd (cs := #[.string ⟨#[]⟩, .bool false, .int .i64 0, .int .i64 0, .string ⟨#[]⟩]) (t := 27) ?hr ?_; (case hd => rfl); (case hg => rfl); (case hr => first | (go_simp; done) | (go_simp; rfl)); intro g8 hg w7 hbox hb; have G8 := Aside0.mk (show wr.heap.size ≤ g8 by have := HV.out.size; omega); have B8 := Aside0.mk hbox; have n1_ := Aside0.mk (show Below wr.heap.size wr w7 from below_step HV.out hb); clear HV hbox hg hb; have HV := n1_; clear n1_; have hs0 : w7.cell? ⟨g8, 0, none⟩ = some (.string ⟨#[]⟩) := (blk_cell B8.out 0).trans rfl; have hs1 : w7.cell? ⟨g8, 1, none⟩ = some (.bool false) := (blk_cell B8.out 1).trans rfl; have hs2 : w7.cell? ⟨g8, 2, none⟩ = some (.int .i64 0) := (blk_cell B8.out 2).trans rfl; have hs3 : w7.cell? ⟨g8, 3, none⟩ = some (.int .i64 0) := (blk_cell B8.out 3).trans rfl; have hs4 : w7.cell? ⟨g8, 4, none⟩ = some (.string ⟨#[]⟩) := (blk_cell B8.out 4).trans rfl; have hf0 := blk_frozen B8.out 0; have hf1 := blk_frozen B8.out 1; have hf2 := blk_frozen B8.out 2; have hf3 := blk_frozen B8.out 3; have hf4 := blk_frozen B8.out 4)
    | ((with_reducible refine gate_store (t := 27) (p := 8) rfl ?_); refine store_event (t := 27) (p := 8) (v := ?vo2) (w1 := (((((w7.setCell ⟨g8, 0, none⟩ (.string r.f0)).setCell ⟨g8, 1, none⟩ (.bool r.f1)).setCell ⟨g8, 2, none⟩ (.int .i64 r.f2.f0)).setCell ⟨g8, 3, none⟩ (.int .i64 r.f2.f1)).setCell ⟨g8, 4, none⟩ (.string r.f2.f2))) ?hg ?ho ?hn ?hr ?_; (case ho => rfl); (case hg => rfl); (case hn => rfl); (case hr => first | (go_simp; done) | (go_simp; rfl)); intro w8 hw; have n1_ : Aside0 (Below wr.heap.size wr w8) := ⟨by rw [hw]; exact bel5 HV.out G8.out⟩; have n2_ := Aside0.mk (show w8.heap[g8]? = _ from hw ▸ mk5 r B8.out rfl); clear HV B8 hs0 hs1 hs2 hs3 hs4 hf0 hf1 hf2 hf3 hf4 hw; have HV := n1_; clear n1_; have k0 : w8.cell? ⟨g8, 0, none⟩ = some (.string r.f0) := (blk_cell n2_.out 0).trans rfl; have k1 : w8.cell? ⟨g8, 1, none⟩ = some (.bool r.f1) := (blk_cell n2_.out 1).trans rfl; have k2 : w8.cell? ⟨g8, 2, none⟩ = some (.int .i64 r.f2.f0) := (blk_cell n2_.out 2).trans rfl; have k3 : w8.cell? ⟨g8, 3, none⟩ = some (.int .i64 r.f2.f1) := (blk_cell n2_.out 3).trans rfl; have k4 : w8.cell? ⟨g8, 4, none⟩ = some (.string r.f2.f2) := (blk_cell n2_.out 4).trans rfl; clear n2_)
        )
      go_ret2
      exact ⟨below_step HB.out HV.out, .inr ⟨HBAD.out, rfl⟩⟩
    have hgf : r.f1 = false := Bool.eq_false_iff.2 hgn
    obtain ⟨pq, hpq⟩ : ∃ z, z = p + q := ⟨_, rfl⟩
    have HPQ := Aside0.mk (show pq ≤ n by have h1 := HGB.out.2; have h2 := HND.out; have h3 := HN1.out; have h4 := HPN.out; omega)
    have HDE := Aside0.mk (show decP l = readP l (m - (i + 1)) (pq : Int) (acc ++ [prR r]) by rw [HDEC.out, HRD.out, if_pos ⟨rfl, hgf⟩, hpq, Int.natCast_add])
    have hwpq : IntKind.i64.wrap ((p : Int) + (q : Int)) = (pq : Int) := by
     have h1 := HPQ.out
     have h2 := HL.out
     rw [hpq] at h1 ⊢
     rw [i64_w, w64 (by omega) (by omega)]
     rfl
    have HSZ2 := Aside0.mk (show ∀ x ∈ acc ++ [prR r], x.f0.size < 17592186044416 ∧ x.f1.f2.size < 17592186044416 ∧ I64 x.f1.f0 ∧ I64 x.f1.f1 by
     intro x hx
     rcases List.mem_append.1 hx with hx | hx
     · exact HSZ.out x hx
     · rw [List.mem_singleton.1 hx]
       exact ⟨Nat.lt_of_le_of_lt HGK.out (by decide), HGO.out.1, HGO.out.2.1, HGO.out.2.2⟩)
    have HCAP := Aside0.mk (show (acc.length + 1) * 48 ≤ 140737488355328 by have := HAC.out; have := HLT.out; have := HM.out; omega)
    have HI2 := Aside0.mk (show (acc ++ [prR r]).length = i + 1 by rw [List.length_append, List.length_singleton, HAC.out])
    have HLEN := Aside0.mk HAC.out.symm
    clear hgn hpq
    go_wp2_with (first
    | (go_at_call 49; refine (HREC.out wr HB.out).mono ?_; rintro e w2 ⟨rfl, hb⟩; have HV := Aside0.mk hb; clear hb hcut)
    | ((with_reducible refine gate_dst (N := 8) rfl ?_); refine box_event ?hg (N := 8) ?hd (cs := #[.string ⟨#[]⟩, .bool false, .int .i64 0, .int .i64 0, .string ⟨#[]⟩]) (t := 27) ?hr ?_; (case hd => rfl); (case hg => rfl); (case hr => first | (go_simp; done) | (go_simp; rfl)); intro g8 hg w7 hbox hb; have G8 := Aside0.mk (show wr.heap.size ≤ g8 by have := HV.out.size; omega); have B8 := Aside0.mk hbox; have n1_ := Aside0.mk (show Below wr.heap.size wr w7 from below_step HV.out hb); clear HV hbox hg hb; have HV := n1_; clear n1_; have hs0 : w7.cell? ⟨g8, 0, none⟩ = some (.string ⟨#[]⟩) := (blk_cell B8.out 0).trans rfl; have hs1 : w7.cell? ⟨g8, 1, none⟩ = some (.bool false) := (blk_cell B8.out 1).trans rfl; have hs2 : w7.cell? ⟨g8, 2, none⟩ = some (.int .i64 0) := (blk_cell B8.out 2).trans rfl; have hs3 : w7.cell? ⟨g8, 3, none⟩ = some (.int .i64 0) := (blk_cell B8.out 3).trans rfl; have hs4 : w7.cell? ⟨g8, 4, none⟩ = some (.string ⟨#[]⟩) := (blk_cell B8.out 4).trans rfl; have hf0 := blk_frozen B8.out 0; have hf1 := blk_frozen B8.out 1; have hf2 := blk_frozen B8.out 2; have hf3 := blk_frozen B8.out 3; have hf4 := blk_frozen B8.out 4)
    | ((with_reducible refine gate_store (t := 27) (p := 8) rfl ?_); refine store_event (t := 27) (p := 8) (v := ?vo3) (w1 := (((((w7.setCell ⟨g8, 0, none⟩ (.string r.f0)).setCell ⟨g8, 1, none⟩ (.bool r.f1)).setCell ⟨g8, 2, none⟩ (.int .i64 r.f2.f0)).setCell ⟨g8, 3, none⟩ (.int .i64 r.f2.f1)).setCell ⟨g8, 4, none⟩ (.string r.f2.f2))) ?hg ?ho ?hn ?hr ?_; (case ho => rfl); (case hg => rfl); (case hn => rfl); (case hr => first | (go_simp; done) | (go_simp; rfl)); intro w8 hw; have n1_ : Aside0 (Below wr.heap.size wr w8) := ⟨by rw [hw]; exact bel5 HV.out G8.out⟩; have n2_ := Aside0.mk (show w8.heap[g8]? = _ from hw ▸ mk5 r B8.out rfl); clear HV B8 hs0 hs1 hs2 hs3 hs4 hf0 hf1 hf2 hf3 hf4 hw; have HV := n1_; clear n1_; have k0 : w8.cell? ⟨g8, 0, none⟩ = some (.string r.f0) := (blk_cell n2_.out 0).trans rfl; have k1 : w8.cell? ⟨g8, 1, none⟩ = some (.bool r.f1) := (blk_cell n2_.out 1).trans rfl; have k2 : w8.cell? ⟨g8, 2, none⟩ = some (.int .i64 r.f2.f0) := (blk_cell n2_.out 2).trans rfl; have k3 : w8.cell? ⟨g8, 3, none⟩ = some (.int .i64 r.f2.f1) := (blk_cell n2_.out 3).trans rfl; have k4 : w8.cell? ⟨g8, 4, none⟩ = some (.string r.f2.f2) := (blk_cell n2_.out 4).trans rfl; clear n2_)
    | ((with_reducible refine gate_builtin (b := .append) (xs := #[.tmp 45, .tmp 51]) rfl ?_); at_builtin; refine Kd.R_append k30 (w0 := w) w.heap.size rfl (.tmp 45) (.tmp 51) 22 30 (.agg #[(.string ⟨#[]⟩), (.int .i64 0), (.int .i64 0), (.string ⟨#[]⟩)]) 48 rfl Try.underlying22 info30 rfl (by decide) (by omega) (.slice A3 i c3) acc (prR r) [.string r.f0, .int .i64 r.f2.f0, .int .i64 r.f2.f1, .string r.f2.f2] (fun _ => True) (fun _ => False) rfl rfl ?aP (fun _ hk => hk.elim) ?aF ?aO ?aB ?aS ?aL ?_; (case aP => exact k30_mkM _ _ _ (prR r)); (case aB => exact below_step HB.out HV.out); (case aF => exact (fun _ _ => trivial)); (case aO => exact Kd.R_below HO.out HV.out); (case aS => exact below_size (below_step HB.out HV.out)); (case aL => have := HCAP.out; omega); intro v9 w9 ho hb hg hat; have HB9 := Aside0.mk hb; have HO9 := Aside0.mk ho; clear ho hb hg hat k0 k1 k2 k3 k4))
    refine ⟨⟨i + 1, pq, acc ++ [prR r], by first | rfl | go_num, by first | rfl | go_num, by have := HLT.out; omega, HPQ.out, HI2.out, HDE, HSZ2, HO9, HB9⟩, ?_⟩
    have := HLT.out
    simp [intOf]
    omega
  · obtain rfl : i = m := by omega
    have hl1 : decide ((i : Int) < (i : Int)) = false := decide_eq_false (by omega)
    have hl2 : decide (i < i) = false := decide_eq_false (by omega)
    have HDE := Aside0.mk (show decP l = some acc by rw [HDEC.out, Nat.sub_self]; rfl)
    clear hlt hi hp HDEC
    have HACC := Aside0.mk (show i = acc.length from HAC.out.symm)
    go_wp2_with (first | fail | fail)
    (first | go_at_call 13 | skip)
    refine (st_New HACC.out HC3.out HN3.out (fun p hp => ⟨(HSZ.out p hp).1, (HSZ.out p hp).2.1⟩)).mono ?_
    rintro e w2 ⟨hb, ⟨hmay, g, rfl, hso⟩ | ⟨hbad, rfl⟩⟩
    · have HSO := Aside0.mk hso
      have HB2 := Aside0.mk (below_step HB.out hb)
      have HMAY := Aside0.mk hmay
      have HSMR := Aside0.mk (show ∀ p ∈ acc, SmR (recP p) from fun p hp => mayR_sm (hmay.ok hp) (HSZ.out p hp).2.2.2)
      have HEB := Aside0.mk (encP_byt acc)
      clear hb hmay hso
      by_cases heq : encP acc = l
      · have HEQ := Aside0.mk heq
        have hdq : decide (encP acc = l) = true := decide_eq_true heq
        clear heq
        go_wp2_with (first
         | (go_at_call 23; refine (st_Bytes HSO.out HSMR.out).mono ?_; rintro e w3 ⟨v3, rfl, hR, hb⟩; obtain ⟨A4, c4, rfl, hn4, hC4⟩ := Kd.R_reads hR; have HC4 := Aside0.mk hC4; have HN4 := Aside0.mk hn4; have HB3 := Aside0.mk (below_step HB2.out hb); have HSO3 := Aside0.mk (HSO.out.below hb); clear hR hb hn4 hC4)
         | (go_at_call 50; refine (equal_p rfl HN.out HC4.out HN4.out (Kd.C_below HC.out HB3.out) HCC.out HEB.out HBY.out).mono ?_; rintro e w4 ⟨rfl, hb⟩; have HB4 := Aside0.mk (below_step HB3.out hb); have HSO4 := Aside0.mk (HSO3.out.below hb); clear hb))
        go_ret2
        exact ⟨HB4.out, .inl ⟨acc, g, ⟨HDE.out, HMAY.out, HEQ.out⟩, rfl, HSO4.out⟩⟩
      · have HEQ := Aside0.mk heq
        have hdq : decide (encP acc = l) = false := decide_eq_false heq
        clear heq
        go_wp2_with (first
         | (go_at_call 23; refine (st_Bytes HSO.out HSMR.out).mono ?_; rintro e w3 ⟨v3, rfl, hR, hb⟩; obtain ⟨A4, c4, rfl, hn4, hC4⟩ := Kd.R_reads hR; have HC4 := Aside0.mk hC4; have HN4 := Aside0.mk hn4; have HB3 := Aside0.mk (below_step HB2.out hb); have HSO3 := Aside0.mk (HSO.out.below hb); clear hR hb hn4 hC4)
         | (go_at_call 50; refine (equal_p rfl HN.out HC4.out HN4.out (Kd.C_below HC.out HB3.out) HCC.out HEB.out HBY.out).mono ?_; rintro e w4 ⟨rfl, hb⟩; have HB4 := Aside0.mk (below_step HB3.out hb); have HSO4 := Aside0.mk (HSO3.out.below hb); clear hb))
        go_ret2
        exact ⟨HB4.out, .inr ⟨fun L hL => by
         have h := hL.1
         rw [HDE.out] at h
         obtain rfl := Option.some.inj h
         exact HEQ.out hL.2.2, rfl⟩⟩
    · have HB2 := Aside0.mk (below_step HB.out hb)
      have HBAD := Aside0.mk hbad
      clear hb hbad
      go_wp2
      go_ret2
      exact ⟨HB2.out, .inr ⟨fun L hL => by
       have h := hL.1
       rw [HDE.out] at h
       obtain rfl := Option.some.inj h
       exact HBAD.out hL.2.1, rfl⟩⟩
end Go.Proofs.Ytkhcmddeeodbkaa.GL
namespace Go.Proofs.Ytkhcmddeeodbkaa.XSor
open Go.RowKit Go.Proofs.Ytkhcmddeeodbkaa.G Go.Proofs.YtkhcmddeeodbkaaW.PrintWords Go.Proofs.YtkhcmddeeodbkaaW.PrintLast Go.Proofs.YtkhcmddeeodbkaaW.PrintMore
attribute [local go_sem] max2_int min2_int max_two min_two max_three min_three max_four min_four
def loesslaw10_Cut.f (a0_0 : ByteArray) (a0_1 : Bool) (a0_2 : Int) (a0_3 : Int) (a0_4 : ByteArray) : Option (ByteArray × Bool × Int × Int × ByteArray) := (loesslaw3_Cut.f a0_0 20).bind fun t140 => ((loesslaw4_Cut.f a0_2 a0_3 a0_4).bind fun bt141 => (some (t140, a0_1, bt141.1, bt141.2.1, bt141.2.2)))
def loesslaw10_Cut.T1 : Bool × List (List Nat × List Nat) := (true, [([], []), ([0], [0]), ([1], [1]), ([], []), ([3], [3]), ([4, 2], [4]), ([0, 1, 2, 3, 4], []), ([6, 2, 5, 0, 1, 2, 3, 4], [2, 6]), ([0, 1, 2, 3, 4, 5, 6, 7], []), ([8, 5, 7, 0, 1, 2, 3, 4, 5, 6, 7], [5, 8])])
def loesslaw10_Cut.B1 : List Nat := [0, 1, 3, 0, 8, 31, 31, 127, 255, 511]
theorem loesslaw10_Cut.tab1 : rtab .any (opsOf Try.f11 1) = loesslaw10_Cut.T1 := by kernel_rfl
theorem loesslaw10_Cut.bits1 : waitsOk loesslaw10_Cut.T1.2 loesslaw10_Cut.B1 = true := by kernel_rfl
set_option maxHeartbeats 8000000 in
set_option maxRecDepth 100000 in
theorem loesslaw10_Cut.calls (a0_0 : ByteArray) (a0_1 : Bool) (a0_2 : Int) (a0_3 : Int) (a0_4 : ByteArray) (r1 : ByteArray) (r2 : Bool) (r3 : Int) (r4 : Int) (r5 : ByteArray) (w : World) (h : loesslaw10_Cut.f a0_0 a0_1 a0_2 a0_3 a0_4 = some (r1, r2, r3, r4, r5)) :
    Calls Try.prog 11 #[.agg #[.string a0_0, .bool a0_1, .int .i64 a0_2, .int .i64 a0_3, .string a0_4]] w fun e w' => e = .returned (.agg #[.string r1, .bool r2, .int .i64 r3, .int .i64 r4, .string r5]) ∧ Below w.heap.size w w' := by
 have hu27 := Try.underlying27
 have hu25 := Try.underlying25
 have HB := Aside0.mk (Below.refl w.heap.size w)
 have H : ((loesslaw3_Cut.f a0_0 20).bind fun t140 => ((loesslaw4_Cut.f a0_2 a0_3 a0_4).bind fun bt141 => (some (t140, a0_1, bt141.1, bt141.2.1, bt141.2.2)))) = some (r1, r2, r3, r4, r5) := h
 clear h
 replace H := Option.bind_eq_some_iff.mp H
 obtain ⟨t140, A20, H⟩ := H
 replace H : ((loesslaw4_Cut.f a0_2 a0_3 a0_4).bind fun bt141 => (some (t140, a0_1, bt141.1, bt141.2.1, bt141.2.2))) = some (r1, r2, r3, r4, r5) := H
 have A2 := Aside0.mk A20
 clear A20
 replace H := Option.bind_eq_some_iff.mp H
 obtain ⟨⟨t141, t142, t143⟩, A30, H⟩ := H
 replace H : (some (t140, a0_1, t141, t142, t143)) = some (r1, r2, r3, r4, r5) := H
 have A3 := Aside0.mk A30
 clear A30
 simp only [Option.some.injEq, Prod.mk.injEq] at H
 obtain ⟨rfl, rfl, rfl, rfl, rfl⟩ := H
 go_enter Try.func11, Try.ntmps11
 try go_wp2_with (first | ((with_reducible refine gate_dst (N := 1) rfl ?_); refine box_event ?hg (N := 1) ?hd (cs := #[.string a0_0, .bool a0_1, .int .i64 a0_2, .int .i64 a0_3, .string a0_4]) (t := 27) ?hr ?_; (case hd => rfl); (case hg => rfl); (case hr => first | (go_simp; done) | (go_simp; rfl)); intro gb138 hg w4 hbox hb; have n0_ := Aside0.mk (below_step (by repeat (first | (with_reducible first | exact HB.out | apply below_alloc | apply pw_below_drewN | apply below_drew1) | exact HB.out)) hb); have n1_ := Aside0.mk (hbox); have n2_ := Aside0.mk ((by rw [hg]; exact (below_size (by repeat (first | (with_reducible first | exact HB.out | apply below_alloc | apply pw_below_drewN | apply below_drew1) | exact HB.out))) : w.heap.size ≤ gb138)); have n3_ := Aside0.mk ((by rw [hg]; exact (below_size (by repeat (first | (with_reducible first | exact HB.out | apply below_alloc | apply pw_below_drewN | apply below_drew1) | exact HB.out))) : w.heap.size ≤ gb138)); clear HB; have HB := n0_; have BK138 := n1_; have GW138 := n2_; have GE138 := n3_; clear n0_ n1_ n2_ n3_; clear hb hbox hg) | ((with_reducible refine gate_dst (N := 2) rfl ?_); refine box_event ?hg (N := 2) ?hd (cs := #[.string (⟨#[]⟩ : ByteArray), .bool false, .int .i64 0, .int .i64 0, .string (⟨#[]⟩ : ByteArray)]) (t := 27) ?hr ?_; (case hd => rfl); (case hg => rfl); (case hr => first | (go_simp; done) | (go_simp; rfl)); intro gb139 hg w5 hbox hb; have n0_ := Aside0.mk (blk_below (g := gb138) (o := .cells #[.string a0_0, .bool a0_1, .int .i64 a0_2, .int .i64 a0_3, .string a0_4] 27 (0, 0)) (by (with_reducible repeat (first | refine blk_drewN ?_ _ | refine blk_drew ?_ | refine blk_alloc ?_ _)); exact BK138.out) hb); have n1_ := Aside0.mk (below_step (by repeat (first | (with_reducible first | exact HB.out | apply below_alloc | apply pw_below_drewN | apply below_drew1 | refine below_set ?_ GE138.out) | exact HB.out)) hb); have n2_ := Aside0.mk (hbox); have n3_ := Aside0.mk ((by rw [hg]; exact (below_size (by repeat (first | (with_reducible first | exact HB.out | apply below_alloc | apply pw_below_drewN | apply below_drew1 | refine below_set ?_ GE138.out) | exact HB.out))) : w.heap.size ≤ gb139)); have n4_ := Aside0.mk ((by rw [hg]; exact (below_size (by repeat (first | (with_reducible first | exact HB.out | apply below_alloc | apply pw_below_drewN | apply below_drew1 | refine below_set ?_ GE138.out) | exact HB.out))) : w.heap.size ≤ gb139)); have n5_ := Aside0.mk ((by rw [hg]; exact Nat.ne_of_lt (blk_lt (g := gb138) (o := .cells #[.string a0_0, .bool a0_1, .int .i64 a0_2, .int .i64 a0_3, .string a0_4] 27 (0, 0)) (by (with_reducible repeat (first | refine blk_drewN ?_ _ | refine blk_drew ?_ | refine blk_alloc ?_ _)); exact BK138.out)) : gb138 ≠ gb139)); have n6_ := Aside0.mk ((by rw [hg]; exact Nat.ne_of_gt (blk_lt (g := gb138) (o := .cells #[.string a0_0, .bool a0_1, .int .i64 a0_2, .int .i64 a0_3, .string a0_4] 27 (0, 0)) (by (with_reducible repeat (first | refine blk_drewN ?_ _ | refine blk_drew ?_ | refine blk_alloc ?_ _)); exact BK138.out)) : gb139 ≠ gb138)); clear BK138; clear HB; have BK138 := n0_; have HB := n1_; have BK139 := n2_; have GW139 := n3_; have GE139 := n4_; have NB138_139 := n5_; have NB139_138 := n6_; clear n0_ n1_ n2_ n3_ n4_ n5_ n6_; clear hb hbox hg))
 have n0_ := Aside0.mk (blk_drew BK138.out)
 have n1_ := Aside0.mk (blk_drew BK139.out)
 have n2_ := Aside0.mk (below_drew1 HB.out)
 clear BK138
 clear BK139
 clear HB
 have BK138 := n0_
 have BK139 := n1_
 have HB := n2_
 clear n0_ n1_ n2_
 refine start_ (n := 10) (S := fun w' => w'.cell? ⟨gb138, 0, none⟩ = some (.string a0_0) ∧ w'.cell? ⟨gb138, 1, none⟩ = some (.bool a0_1) ∧ w'.cell? ⟨gb138, 2, none⟩ = some (.int .i64 a0_2) ∧ w'.cell? ⟨gb138, 3, none⟩ = some (.int .i64 a0_3) ∧ w'.cell? ⟨gb138, 4, none⟩ = some (.string a0_4)) (ds := [7, 9]) #[false, false, false, false, false, false, false, false, false, false] (by kernel_rfl) rfl rfl ⟨(blk_cell BK138.out 0).trans rfl, (blk_cell BK138.out 1).trans rfl, (blk_cell BK138.out 2).trans rfl, (blk_cell BK138.out 3).trans rfl, (blk_cell BK138.out 4).trans rfl⟩ (fun hHeld => ?_); refine with_tabW loesslaw10_Cut.tab1 loesslaw10_Cut.bits1 (fun HT_ HW_ => ?_)
 generalize w5.drew = w6 at BK138 BK139 HB hHeld ⊢
 refine pure_ (i := 0) (N := some 3) (v := ?_) (a' := ?_) #[true, false, false, false, false, false, false, false, false, false] rfl rfl (any_of HT_.out (by kernel_rfl)) (fun _ _ _ h => h) (Or.inl ⟨by rfl, ?_⟩) ?_ ?_
 rotate_left
 · intro w'
   go_simp
   with_reducible rfl
 rotate_left
 · simp only [Act.put, List.setIfInBounds_toArray, List.set_cons_zero, List.set_cons_succ, i64_w, i32_w]
   rfl
 refine pure_ (i := 3) (N := some 6) (v := ?_) (a' := ?_) #[true, false, false, true, false, false, false, false, false, false] rfl rfl (any_of HT_.out (by kernel_rfl)) (fun _ _ _ h => h) (Or.inl ⟨by rfl, ?_⟩) ?_ ?_
 rotate_left
 · intro w'
   go_simp
   with_reducible rfl
 rotate_left
 · simp only [Act.put, List.setIfInBounds_toArray, List.set_cons_zero, List.set_cons_succ, i64_w, i32_w]
   rfl
 refine take_ (i := 1) (N := some 4) (v := ?_) (a' := ?_) #[true, true, false, true, false, false, false, false, false, false] rfl rfl (take_ofW HT_.out HW_.out (by kernel_rfl)) (fun _ _ _ h => h) (Or.inl ⟨by rfl, ?_⟩) hHeld ?_ ?_
 rotate_left
 · rintro w' ⟨s0, s1, s2, s3, s4⟩
   go_simp
   with_reducible rfl
 rotate_left
 · simp only [Act.put, List.setIfInBounds_toArray, List.set_cons_zero, List.set_cons_succ, i64_w, i32_w]
   rfl
 refine take_ (i := 4) (N := some 7) (v := ?_) (a' := ?_) #[true, true, false, true, true, false, false, false, false, false] rfl rfl (take_ofW HT_.out HW_.out (by kernel_rfl)) (fun _ _ _ h => h) (Or.inl ⟨by rfl, ?_⟩) hHeld ?_ ?_
 rotate_left
 · rintro w' ⟨s0, s1, s2, s3, s4⟩
   go_simp
   with_reducible rfl
 rotate_left
 · simp only [Act.put, List.setIfInBounds_toArray, List.set_cons_zero, List.set_cons_succ, i64_w, i32_w]
   rfl
 refine one_ (i := 2) (N := some 5) #[true, true, true, true, true, false, false, false, false, false] rfl rfl (one_of HT_.out (by kernel_rfl)) (by decide) (fun K hK => ?_)
 refine goes_ Try.func12 (by kernel_rfl) rfl #[.string a0_0, .int .i64 20] (by rfl) rfl rfl (by (try simp only [List.map_toArray, List.map_cons, List.map_nil]); first | done | rfl | (simp only [List.length_drop, List.length_take]; rfl)) ?_
 with_reducible refine (loesslaw3_Cut.calls a0_0 20 t140 _ A2.out).mono ?_
 rintro e w' ⟨rfl, ⟨nd, rfl⟩⟩
 refine ⟨_, rfl, ?_⟩
 refine hK.out _ _ ⟨(blk_cell BK138.out 0).trans rfl, (blk_cell BK138.out 1).trans rfl, (blk_cell BK138.out 2).trans rfl, (blk_cell BK138.out 3).trans rfl, (blk_cell BK138.out 4).trans rfl⟩ (fun hHeld => ?_)
 clear hK K
 refine norm_ (a' := ?_) ?_ ?_
 rotate_left
 · show Act.put _ (some 5) _ = _
   simp only [Act.put, List.setIfInBounds_toArray, List.set_cons_zero, List.set_cons_succ, i64_w, i32_w]
   rfl
 refine pure_ (i := 6) (N := some 9) (v := ?_) (a' := ?_) #[true, true, true, true, true, false, true, false, false, false] rfl rfl (any_of HT_.out (by kernel_rfl)) (fun _ _ _ h => h) (Or.inl ⟨by rfl, ?_⟩) ?_ ?_
 rotate_left
 · intro w'
   go_simp
   with_reducible rfl
 rotate_left
 · simp only [Act.put, List.setIfInBounds_toArray, List.set_cons_zero, List.set_cons_succ, i64_w, i32_w]
   rfl
 refine one_ (i := 5) (N := some 8) #[true, true, true, true, true, true, true, false, false, false] rfl rfl (one_of HT_.out (by kernel_rfl)) (by decide) (fun K hK => ?_)
 refine goes_ Try.func28 (by kernel_rfl) rfl #[.agg #[.int .i64 a0_2, .int .i64 a0_3, .string a0_4]] (by rfl) rfl rfl (by (try simp only [List.map_toArray, List.map_cons, List.map_nil]); first | done | rfl | (simp only [List.length_drop, List.length_take]; rfl)) ?_
 with_reducible refine (loesslaw4_Cut.calls a0_2 a0_3 a0_4 t141 t142 t143 _ A3.out).mono ?_
 rintro e w7 ⟨rfl, hb⟩
 refine ⟨_, rfl, ?_⟩
 have n0_ := Aside0.mk (blk_below (g := gb138) (o := .cells #[.string a0_0, .bool a0_1, .int .i64 a0_2, .int .i64 a0_3, .string a0_4] 27 (0, 0)) (by (with_reducible repeat (first | refine blk_drewN ?_ _ | refine blk_drew ?_ | refine blk_alloc ?_ _)); exact BK138.out) hb)
 have n1_ := Aside0.mk (blk_below (g := gb139) (o := .cells #[.string (⟨#[]⟩ : ByteArray), .bool false, .int .i64 0, .int .i64 0, .string (⟨#[]⟩ : ByteArray)] 27 (0, 0)) (by (with_reducible repeat (first | refine blk_drewN ?_ _ | refine blk_drew ?_ | refine blk_alloc ?_ _)); exact BK139.out) hb)
 have n2_ := Aside0.mk (below_step (by repeat (first | (with_reducible first | exact HB.out | apply below_alloc | apply pw_below_drewN | apply below_drew1 | refine below_set ?_ GE138.out | refine below_set ?_ GE139.out) | exact HB.out)) hb)
 clear BK138
 clear BK139
 clear HB
 have BK138 := n0_
 have BK139 := n1_
 have HB := n2_
 clear n0_ n1_ n2_
 (try clear hb)
 (try clear hb2)
 (try clear hk)
 (try clear hi)
 refine hK.out _ _ ⟨(blk_cell BK138.out 0).trans rfl, (blk_cell BK138.out 1).trans rfl, (blk_cell BK138.out 2).trans rfl, (blk_cell BK138.out 3).trans rfl, (blk_cell BK138.out 4).trans rfl⟩ (fun hHeld => ?_)
 clear hK K
 refine norm_ (a' := ?_) ?_ ?_
 rotate_left
 · show Act.put _ (some 8) _ = _
   simp only [Act.put, List.setIfInBounds_toArray, List.set_cons_zero, List.set_cons_succ, i64_w, i32_w]
   rfl
 refine last_ (i := 7) (N := none) #[true, true, true, true, true, true, true, true, false, false] rfl rfl (one_of HT_.out (by kernel_rfl)) (by decide) (fun K hK => ?_)
 have hs8 : w7.cell? ⟨gb138, 0, none⟩ = some (.string a0_0) := (blk_cell BK138.out 0).trans rfl
 have hfs8 := blk_frozen BK138.out 0
 have hns8_1 := NB139_138.out
 have hms8_1 := NB138_139.out
 refine skip_ (w1 := ?_) (by rfl) rfl ?_ ?_
 rotate_left
 · go_simp
   rfl
 refine hK.out _ _ ?_
 clear hK K
 refine pure_ (i := 8) (N := some 10) (v := ?_) (a' := ?_) #[true, true, true, true, true, true, true, true, true, false] rfl rfl (any_of HT_.out (by kernel_rfl)) (fun _ _ _ h => h) (Or.inl ⟨by rfl, ?_⟩) ?_ ?_
 rotate_left
 · intro w'
   go_simp
   with_reducible rfl
 rotate_left
 · simp only [Act.put, List.setIfInBounds_toArray, List.set_cons_zero, List.set_cons_succ, i64_w, i32_w]
   rfl
 refine last_ (i := 9) (N := none) #[true, true, true, true, true, true, true, true, true, true] rfl rfl (one_of HT_.out (by kernel_rfl)) (by decide) (fun K hK => ?_)
 have hs9 : w7.cell? ⟨gb138, 2, none⟩ = some (.int .i64 a0_2) := (blk_cell BK138.out 2).trans rfl
 have hfs9 := blk_frozen BK138.out 2
 have hns9_1 := NB139_138.out
 have hms9_1 := NB138_139.out
 have hs10 : w7.cell? ⟨gb138, 3, none⟩ = some (.int .i64 a0_3) := (blk_cell BK138.out 3).trans rfl
 have hfs10 := blk_frozen BK138.out 3
 have hns10_1 := NB139_138.out
 have hms10_1 := NB138_139.out
 have hs11 : w7.cell? ⟨gb138, 4, none⟩ = some (.string a0_4) := (blk_cell BK138.out 4).trans rfl
 have hfs11 := blk_frozen BK138.out 4
 have hns11_1 := NB139_138.out
 have hms11_1 := NB138_139.out
 refine skip_ (w1 := ?_) (by rfl) rfl ?_ ?_
 rotate_left
 · go_simp
   rfl
 refine hK.out _ _ ?_
 clear hK K
 refine done_ (done_of HT_.out (by kernel_rfl)) ?_
 have hnb12 := NB138_139.out
 have hnc12 := NB139_138.out
 have hcz13_0 : w7.cell? ⟨gb138, 0, none⟩ = some (.string a0_0) := (blk_cell BK138.out 0).trans rfl
 have hcz13_1 : w7.cell? ⟨gb138, 1, none⟩ = some (.bool a0_1) := (blk_cell BK138.out 1).trans rfl
 have hcz13_2 : w7.cell? ⟨gb138, 2, none⟩ = some (.int .i64 a0_2) := (blk_cell BK138.out 2).trans rfl
 have hcz13_3 : w7.cell? ⟨gb138, 3, none⟩ = some (.int .i64 a0_3) := (blk_cell BK138.out 3).trans rfl
 have hcz13_4 : w7.cell? ⟨gb138, 4, none⟩ = some (.string a0_4) := (blk_cell BK138.out 4).trans rfl
 have hfz13_0 := blk_frozen BK138.out 0
 have hfz13_1 := blk_frozen BK138.out 1
 have hfz13_2 := blk_frozen BK138.out 2
 have hfz13_3 := blk_frozen BK138.out 3
 have hfz13_4 := blk_frozen BK138.out 4
 have hcz14_0 : w7.cell? ⟨gb139, 0, none⟩ = some (.string (⟨#[]⟩ : ByteArray)) := (blk_cell BK139.out 0).trans rfl
 have hcz14_1 : w7.cell? ⟨gb139, 1, none⟩ = some (.bool false) := (blk_cell BK139.out 1).trans rfl
 have hcz14_2 : w7.cell? ⟨gb139, 2, none⟩ = some (.int .i64 0) := (blk_cell BK139.out 2).trans rfl
 have hcz14_3 : w7.cell? ⟨gb139, 3, none⟩ = some (.int .i64 0) := (blk_cell BK139.out 3).trans rfl
 have hcz14_4 : w7.cell? ⟨gb139, 4, none⟩ = some (.string (⟨#[]⟩ : ByteArray)) := (blk_cell BK139.out 4).trans rfl
 have hfz14_0 := blk_frozen BK139.out 0
 have hfz14_1 := blk_frozen BK139.out 1
 have hfz14_2 := blk_frozen BK139.out 2
 have hfz14_3 := blk_frozen BK139.out 3
 have hfz14_4 := blk_frozen BK139.out 4
 try go_wp2
 refine bodyPost_ret (results_cell_row rfl _ _ gb139 27 #[.string t140, .bool a0_1, .int .i64 t141, .int .i64 t142, .string t143] (0, 0) _ rfl (by (with_reducible repeat (first | refine blk_drewN ?_ _ | refine blk_drew ?_ | refine blk_alloc ?_ _)); refine blk_put (cs := #[.string t140, .bool a0_1, .int .i64 t141, .int .i64 t142, .string (⟨#[]⟩ : ByteArray)]) ?_ 4 _ rfl; (with_reducible repeat (first | refine blk_drewN ?_ _ | refine blk_drew ?_ | refine blk_alloc ?_ _)); refine blk_put (cs := #[.string t140, .bool a0_1, .int .i64 t141, .int .i64 0, .string (⟨#[]⟩ : ByteArray)]) ?_ 3 _ rfl; (with_reducible repeat (first | refine blk_drewN ?_ _ | refine blk_drew ?_ | refine blk_alloc ?_ _)); refine blk_put (cs := #[.string t140, .bool a0_1, .int .i64 0, .int .i64 0, .string (⟨#[]⟩ : ByteArray)]) ?_ 2 _ rfl; (with_reducible repeat (first | refine blk_drewN ?_ _ | refine blk_drew ?_ | refine blk_alloc ?_ _)); refine blk_put (cs := #[.string t140, .bool false, .int .i64 0, .int .i64 0, .string (⟨#[]⟩ : ByteArray)]) ?_ 1 _ rfl; (with_reducible repeat (first | refine blk_drewN ?_ _ | refine blk_drew ?_ | refine blk_alloc ?_ _)); refine blk_put (cs := #[.string (⟨#[]⟩ : ByteArray), .bool false, .int .i64 0, .int .i64 0, .string (⟨#[]⟩ : ByteArray)]) ?_ 0 _ rfl; (with_reducible repeat (first | refine blk_drewN ?_ _ | refine blk_drew ?_ | refine blk_alloc ?_ _)); refine blk_far ?_ NB139_138.out _; (with_reducible repeat (first | refine blk_drewN ?_ _ | refine blk_drew ?_ | refine blk_alloc ?_ _)); refine blk_far ?_ NB139_138.out _; (with_reducible repeat (first | refine blk_drewN ?_ _ | refine blk_drew ?_ | refine blk_alloc ?_ _)); refine blk_far ?_ NB139_138.out _; (with_reducible repeat (first | refine blk_drewN ?_ _ | refine blk_drew ?_ | refine blk_alloc ?_ _)); refine blk_far ?_ NB139_138.out _; (with_reducible repeat (first | refine blk_drewN ?_ _ | refine blk_drew ?_ | refine blk_alloc ?_ _)); exact BK139.out) Try.underlying27 rfl (by kernel_rfl)) rfl ?_
 exact ⟨by first | rfl | (simp [errW_none, errW_some] <;> rfl) | (simp [*, errW_none, errW_some] <;> rfl), by repeat (first | (with_reducible first | exact HB.out | apply below_alloc | apply pw_below_drewN | apply below_drew1 | refine below_set ?_ GE138.out | refine below_set ?_ GE139.out) | exact HB.out)⟩
end Go.Proofs.Ytkhcmddeeodbkaa.XSor
namespace Go.Proofs.Ytkhcmddeeodbkaa.XSor
open Go.RowKit Go.Proofs.Ytkhcmddeeodbkaa.G Go.Proofs.YtkhcmddeeodbkaaW.PrintWords Go.Proofs.YtkhcmddeeodbkaaW.PrintLast Go.Proofs.YtkhcmddeeodbkaaW.PrintMore
attribute [local go_sem] max2_int min2_int max_two min_two max_three min_three max_four min_four
def loesslaw10_Recs.l0 : Nat → List (S27) → Int → List (S27) → Int → Option ((List (S27)))
 | 0, _, _, _, _ => none
 | k + 1, x0, x1, x5, x6 => if x6 < (x0.length : Int) then (if x6 < x1 then (if 0 ≤ x6 then ((loesslaw10_Cut.f ((rd_T27 x0 x6).f0) ((rd_T27 x0 x6).f1) ((rd_T27 x0 x6).f2.f0) ((rd_T27 x0 x6).f2.f1) ((rd_T27 x0 x6).f2.f2)).bind fun bt145 => (if x5.length < 2513169434916 then (loesslaw10_Recs.l0 k x0 x1 (x5 ++ [(⟨bt145.1, bt145.2.1, (⟨bt145.2.2.1, bt145.2.2.2.1, bt145.2.2.2.2⟩ : S25)⟩ : S27)]) (wrap64 (x6 + 1))) else (none))) else (none)) else (some x5)) else (some x5)
def loesslaw10_Recs.f (k : Nat) (l0 : List (S27)) (a1 : Int) : Option ((List (S27))) := loesslaw10_Recs.l0 k l0 a1 ([] : List (S27)) 0
theorem loesslaw10_Recs.mono_l : ∀ k, (∀ y0 y1 y2 y3, LeO (loesslaw10_Recs.l0 k y0 y1 y2 y3) (loesslaw10_Recs.l0 (k + 1) y0 y1 y2 y3))
 | 0 => fun _ _ _ _ r h => by simp [loesslaw10_Recs.l0] at h
 | k + 1 => by
   have ih0 := loesslaw10_Recs.mono_l k
   · intro y0 y1 y2 y3
     unfold loesslaw10_Recs.l0
     repeat' first
     | (with_reducible exact ih0 _ _ _ _)
     | (with_reducible exact LeO.refl _)
     | (with_reducible exact LeO.none _)
     | (with_reducible refine LeO.ite ?_ ?_)
     | (with_reducible refine LeO.bind ?_ (fun _ => ?_))
     | exact ih0 _ _ _ _
     | exact LeO.none _
     | refine LeO.ite ?_ ?_
     | refine LeO.bind ?_ (fun _ => ?_)
theorem loesslaw10_Recs.mono : ∀ a0 a1 k, LeO (loesslaw10_Recs.f k a0 a1) (loesslaw10_Recs.f (k + 1) a0 a1) := by
 intro a0 a1 k
 have ih0 := loesslaw10_Recs.mono_l k
 unfold loesslaw10_Recs.f
 repeat' first
     | (with_reducible exact ih0 _ _ _ _)
     | (with_reducible exact LeO.refl _)
     | (with_reducible exact LeO.none _)
     | (with_reducible refine LeO.ite ?_ ?_)
     | (with_reducible refine LeO.bind ?_ (fun _ => ?_))
     | exact ih0 _ _ _ _
     | exact LeO.none _
     | refine LeO.ite ?_ ?_
     | refine LeO.bind ?_ (fun _ => ?_)
set_option maxHeartbeats 8000000 in
set_option maxRecDepth 100000 in
theorem loesslaw10_Recs.calls (k : Nat) (A0 : Option Addr) (c0 : Nat) (l0 : List (S27)) (a1 : Int) (r : List (S27)) (w : World) (hr0 : Kd.C k27 w A0 l0.length l0) (hc0 : l0.length ≤ c0) (h : loesslaw10_Recs.f k l0 a1 = some r) :
    Calls Try.prog 40 #[.slice A0 l0.length c0, .int .i64 a1] w fun e w' => ∃ v0_ : Value, e = .returned (v0_) ∧ Kd.R k27 27 w' w.heap.size (fun _ => True) v0_ r ∧ Below w.heap.size w w' := by
 have hu27 := Try.underlying27
 have HR0 := Aside0.mk hr0
 have HC0 := Aside0.mk hc0
 clear hr0 hc0
 have HB := Aside0.mk (Below.refl w.heap.size w)
 have H : (loesslaw10_Recs.l0 k l0 a1 ([] : List (S27)) 0) = some r := h
 clear h
 have H' := Aside0.mk H
 clear H
 go_enter Try.func40, Try.ntmps40
 go_wp2
 go_loopg [5, 6] k (fun kq v5 v6 w' => ∃ (x5_1 : List (S27)) (x6_1 : Int), v6 = .int .i64 x6_1 ∧ Aside0 (loesslaw10_Recs.l0 kq l0 a1 x5_1 x6_1 = some r) ∧ Aside0 (kq ≤ k) ∧ Aside0 (Kd.R k27 27 w' w.heap.size (fun _ => True) v5 x5_1) ∧ Aside0 (Below w.heap.size w w'))
 case atStart => exact ⟨(([] : List (S27))), (0), (by first | rfl | (simp; done) | (simp [*]; done)), H', ⟨Nat.le_refl _⟩, ⟨by first | exact Kd.R_nil _ _ _ _ _ | exact Kd.N_nil _ _ _ _ _ | exact Kd.V_nil _ _ _ _ _ | exact Kd.Q_nil _ _ _ _ _ | exact Kd.S_nil _ _ _ _ _⟩, ⟨by repeat (first | (with_reducible first | exact HB.out | apply below_alloc | apply pw_below_drewN | apply below_drew1) | exact HB.out)⟩⟩
 case round =>
  clear H'
  try clear p2
  obtain ⟨x5_1, x6_1, rfl, HA, HK1, HO_5, HB⟩ := hrel
  cases gk with
  | zero => exact absurd HA.out (by simp [loesslaw10_Recs.l0])
  | succ k1 =>
    have H := HA.out
    clear HA
    simp only [loesslaw10_Recs.l0] at H
    by_cases c3 : x6_1 < (l0.length : Int)
    · rw [if_pos c3] at H
      have c3b0 : decide (x6_1 < (l0.length : Int)) = true := decide_eq_true c3
      clear c3
      by_cases c4 : x6_1 < a1
      · rw [if_pos c4] at H
        have c4b0 : decide (x6_1 < a1) = true := decide_eq_true c4
        clear c4
        by_cases c5 : 0 ≤ x6_1
        · rw [if_pos c5] at H
          have c5b0 : decide (0 ≤ x6_1) = true := decide_eq_true c5
          clear c5
          replace H := Option.bind_eq_some_iff.mp H
          obtain ⟨⟨t145, t146, t147, t148, t149⟩, A60, H⟩ := H
          replace H : (if x5_1.length < 2513169434916 then (loesslaw10_Recs.l0 k1 l0 a1 (x5_1 ++ [(⟨t145, t146, (⟨t147, t148, t149⟩ : S25)⟩ : S27)]) (wrap64 (x6_1 + 1))) else (none)) = some r := H
          have A6 := Aside0.mk A60
          clear A60
          by_cases c7 : x5_1.length < 2513169434916
          · rw [if_pos c7] at H
            have LMc7 := Aside0.mk c7
            clear c7
            obtain ⟨y150, hy150⟩ : ∃ y_ : List (S27), y_ = (x5_1 ++ [(⟨t145, t146, (⟨t147, t148, t149⟩ : S25)⟩ : S27)]) := ⟨_, rfl⟩
            replace H : (loesslaw10_Recs.l0 k1 l0 a1 y150 (wrap64 (x6_1 + 1))) = some r := by first | (rw [hy150]; with_reducible exact H) | (have H2_ := (Option.bind_some _ _).symm.trans H; rw [hy150]; with_reducible exact H2_) | (have H2_ := (Option.bind_some _ _).symm.trans H; with_reducible exact H2_) | with_reducible exact H | (rw [hy150]; exact H) | exact H
            have Ny150 := Aside0.mk hy150
            clear hy150
            have H' := Aside0.mk H
            clear H
            have p144 : 0 ≤ (x6_1 : Int) := of_decide_eq_true (by first | (with_reducible assumption) | assumption)
            have q144 : x6_1 < (l0.length : Int) := of_decide_eq_true (by first | (with_reducible assumption) | assumption)
            obtain ⟨ad144, e144, hx144_0, hx144_1, hx144_2, hx144_3, hx144_4⟩ := at_T27 HR0.out x6_1 p144 q144
            cases e144
            replace hx144_0 := (HB.out.cell (World.block_lt_of_cell? w _ hx144_0)).trans hx144_0
            replace hx144_1 := (HB.out.cell (World.block_lt_of_cell? w _ hx144_1)).trans hx144_1
            replace hx144_2 := (HB.out.cell (World.block_lt_of_cell? w _ hx144_2)).trans hx144_2
            replace hx144_3 := (HB.out.cell (World.block_lt_of_cell? w _ hx144_3)).trans hx144_3
            replace hx144_4 := (HB.out.cell (World.block_lt_of_cell? w _ hx144_4)).trans hx144_4
            replace p144 := eq_true p144
            replace q144 := eq_true q144
            go_wp2_with (first | ((with_reducible refine gate_callee (f := 11) rfl ?_); refine goesL_ (some 23) rfl rfl Try.func11 (by kernel_rfl) rfl #[.agg #[.string ((rd_T27 l0 x6_1).f0), .bool ((rd_T27 l0 x6_1).f1), .int .i64 ((rd_T27 l0 x6_1).f2.f0), .int .i64 ((rd_T27 l0 x6_1).f2.f1), .string ((rd_T27 l0 x6_1).f2.f2)]] rfl (by (try simp only [List.map_toArray, List.map_cons, List.map_nil]); first | done | rfl | (simp only [List.length_drop, List.length_take]; rfl)) ?_; (with_reducible refine (loesslaw10_Cut.calls ((rd_T27 l0 x6_1).f0) ((rd_T27 l0 x6_1).f1) ((rd_T27 l0 x6_1).f2.f0) ((rd_T27 l0 x6_1).f2.f1) ((rd_T27 l0 x6_1).f2.f2) t145 t146 t147 t148 t149 _ A6.out).mono ?_); rintro e w8 ⟨rfl, hb⟩; refine ⟨_, rfl, ?_⟩; have n0_ := Aside0.mk (Kd.R_below (by (with_reducible repeat (first | apply Kd.R_alloc | apply Kd.R_drewN | apply Kd.R_drew)); exact HO_5.out) hb); have n1_ := Aside0.mk (below_step (by repeat (first | (with_reducible first | exact HB.out | apply below_alloc | apply pw_below_drewN | apply below_drew1) | exact HB.out)) hb); clear HO_5; clear HB; have HO_5 := n0_; have HB := n1_; clear n0_ n1_; (try clear hb); (try clear hb2); (try clear hk); (try clear hi)) | ((with_reducible refine gate_builtin (b := .append) (xs := #[.tmp 18, .tmp 24]) rfl ?_); at_builtin; refine Kd.R_append k27 (w0 := w) w.heap.size rfl (.tmp 18) (.tmp 24) 39 27 (.agg #[(.string ⟨#[]⟩), (.bool false), (.int .i64 0), (.int .i64 0), (.string ⟨#[]⟩)]) 56 rfl Try.underlying39 info27 rfl (by decide) (by omega) u5 x5_1 (⟨t145, t146, (⟨t147, t148, t149⟩ : S25)⟩ : S27) [.string t145, .bool t146, .int .i64 t147, .int .i64 t148, .string t149] (fun _ => True) (fun _ => False) rfl rfl ?aP (fun _ hk => hk.elim) ?aF ?aO ?aB ?aS ?aL ?_; (case aP => exact k27_mkM _ _ _ (⟨t145, t146, (⟨t147, t148, t149⟩ : S25)⟩ : S27)); (case aB => exact (by repeat (first | (with_reducible first | exact HB.out | apply below_alloc | apply pw_below_drewN | apply below_drew1) | exact HB.out))); (case aF => exact (fun _ _ => trivial)); (case aO => exact (by (with_reducible repeat (first | apply Kd.R_alloc | apply Kd.R_drewN | apply Kd.R_drew)); exact HO_5.out)); (case aS => exact (below_size (by repeat (first | (with_reducible first | exact HB.out | apply below_alloc | apply pw_below_drewN | apply below_drew1) | exact HB.out)))); (case aL => have := LMc7.out; omega); intro v151 w9 ho hb hg hat; rw [← Ny150.out] at ho; have n0_ := Aside0.mk (hb); have n1_ := Aside0.mk (ho); clear HB; clear HO_5; have HB := n0_; have HO152 := n1_; clear n0_ n1_; clear ho hb hg hat))
            go_roundg k1
            case measure => have := HK1.out; omega
            case rel => exact ⟨(y150), (wrap64 (x6_1 + 1)), (by first | rfl | (simp; done) | (simp [*]; done)), H', ⟨by have := HK1.out; omega⟩, ⟨by (with_reducible repeat (first | apply Kd.R_alloc | apply Kd.R_drewN | apply Kd.R_drew)); exact HO152.out⟩, ⟨by repeat (first | (with_reducible first | exact HB.out | apply below_alloc | apply pw_below_drewN | apply below_drew1) | exact HB.out)⟩⟩
          · rw [if_neg c7] at H
            exact absurd H (by simp)
        · rw [if_neg c5] at H
          exact absurd H (by simp)
      · rw [if_neg c4] at H
        have c4b0 : decide (x6_1 < a1) = false := decide_eq_false c4
        clear c4
        obtain rfl := Option.some.inj H
        go_wp2
        go_ret
        exact ⟨_, by first | rfl | (simp [errW_none, errW_some] <;> rfl) | (simp [*, errW_none, errW_some] <;> rfl), by (with_reducible repeat (first | apply Kd.R_alloc | apply Kd.R_drewN | apply Kd.R_drew)); exact HO_5.out, by repeat (first | (with_reducible first | exact HB.out | apply below_alloc | apply pw_below_drewN | apply below_drew1) | exact HB.out)⟩
    · rw [if_neg c3] at H
      have c3b0 : decide (x6_1 < (l0.length : Int)) = false := decide_eq_false c3
      clear c3
      obtain rfl := Option.some.inj H
      go_wp2
      go_ret
      exact ⟨_, by first | rfl | (simp [errW_none, errW_some] <;> rfl) | (simp [*, errW_none, errW_some] <;> rfl), by (with_reducible repeat (first | apply Kd.R_alloc | apply Kd.R_drewN | apply Kd.R_drew)); exact HO_5.out, by repeat (first | (with_reducible first | exact HB.out | apply below_alloc | apply pw_below_drewN | apply below_drew1) | exact HB.out)⟩
end Go.Proofs.Ytkhcmddeeodbkaa.XSor
namespace Go.Proofs.Ytkhcmddeeodbkaa.Q
open Go.RowKit Go.Proofs.YtkhcmddeeodbkaaW.PrintWords Go.Proofs.YtkhcmddeeodbkaaW.PrintMore Go.Proofs.Ytkhcmddeeodbkaa.G Go.Proofs.Ytkhcmddeeodbkaa.XSor
def cutS (n : Nat) (s : ByteArray) : ByteArray := if (s.size : Int) > n then s.extract 0 n else s
def cutR (x : Rc) : Rc := ⟨cutS 20 x.f0, x.f1, ⟨x.f2.f0, x.f2.f1, cutS 30 x.f2.f2⟩⟩
theorem cutS_eq (n : Nat) (s : ByteArray) : loesslaw3_Cut.f s (n : Int) = some (cutS n s) := by
 unfold loesslaw3_Cut.f cutS
 split
 · rw [if_pos (by omega), if_pos (by omega), Int.toNat_natCast]
 · rfl
theorem cutS_size (n : Nat) (s : ByteArray) : (cutS n s).size ≤ n := by
 unfold cutS
 split
 · rw [ByteArray.size_extract]; omega
 · omega
theorem cutR_eq (x : Rc) : loesslaw10_Cut.f x.f0 x.f1 x.f2.f0 x.f2.f1 x.f2.f2 = some ((cutR x).f0, (cutR x).f1, (cutR x).f2.f0, (cutR x).f2.f1, (cutR x).f2.f2) := by
 unfold loesslaw10_Cut.f
 rw [show ((20 : Int)) = ((20 : Nat) : Int) from rfl, cutS_eq, Option.bind_some]
 unfold loesslaw4_Cut.f
 rw [show ((30 : Int)) = ((30 : Nat) : Int) from rfl, cutS_eq]
 rfl
def recsL (l : List Rc) (n : Nat) : List Rc := (l.take n).map cutR
theorem recs_l (l : List Rc) (n : Nat) (hn : n ≤ 100) : ∀ (d i : Nat), i + d = n → i ≤ l.length → Ev (fun k => loesslaw10_Recs.l0 k l (n : Int) ((l.take i).map cutR) (i : Int)) (recsL l n) := by
 intro d
 induction d with
 | zero =>
   intro i h hi
   obtain rfl : i = n := by omega
   refine Ev.step (fun k => by unfold loesslaw10_Recs.l0; rfl) ?_
   by_cases c : (i : Int) < (l.length : Int)
   · exact Ev.congr (fun k => if_pos c) (Ev.congr (fun k => if_neg (by omega)) (Ev.now _))
   · exact Ev.congr (fun k => if_neg c) (Ev.now _)
 | succ d ih =>
   intro i h hi
   refine Ev.step (fun k => by unfold loesslaw10_Recs.l0; rfl) ?_
   by_cases c : i < l.length
   · have hrec := ih (i + 1) (by omega) (by omega)
     rw [List.take_succ_eq_append_getElem c, List.map_append, ← rr_get c] at hrec
     have hlen : ((l.take i).map cutR).length = i := by rw [List.length_map, List.length_take]; omega
     refine Ev.congr (fun k => if_pos (by omega)) (Ev.congr (fun k => if_pos (by omega)) (Ev.congr (fun k => if_pos (by omega)) ?_))
     refine Ev.bind (evC (cutR_eq (rr l i))) (Ev.congr (fun k => if_pos (by omega)) ?_)
     rw [w64 (x := (i : Int) + 1) (by omega) (by omega)]
     exact hrec
   · refine Ev.congr (fun k => if_neg (by omega)) (evEq (Ev.now _) ?_)
     unfold recsL
     rw [List.take_of_length_le (by omega), List.take_of_length_le (by omega)]
theorem recs_ev (l : List Rc) (n : Nat) (hn : n ≤ 100) : Ev (fun k => loesslaw10_Recs.f k l (n : Int)) (recsL l n) := by
 have := recs_l l n hn n 0 (by omega) (Nat.zero_le _)
 exact this
theorem recsL_len (l : List Rc) (n : Nat) : (recsL l n).length ≤ n := by unfold recsL; rw [List.length_map, List.length_take]; omega
theorem recsL_sm {l : List Rc} (h : ∀ x ∈ l, I64 x.f2.f0 ∧ I64 x.f2.f1) (n : Nat) : ∀ x ∈ recsL l n, SmR x := by
 intro x hx
 obtain ⟨y, hy, rfl⟩ := List.mem_map.1 hx
 have := h y (List.mem_of_mem_take hy)
 exact ⟨cutS_size 20 _, cutS_size 30 _, this.1, this.2⟩
def toP (r : Rc) : Pr := ⟨r.f0, ⟨r.f2.f0, r.f2.f1, r.f2.f2⟩⟩
def goodR (x : Rc) : Bool := !x.f1 && (keyB x.f0 && mayV x.f2.f0 x.f2.f1 x.f2.f2)
theorem pairs_l (L : List Rc) (hL : L.length ≤ 1000000) : ∀ (d i : Nat) (acc : List Pr), i + d = L.length → acc.length ≤ i → Ev (fun k => loessref22_Pairs.l0 k L acc (i : Int)) (acc ++ ((L.drop i).filter (fun r => !r.f1)).map toP) := by
 intro d
 induction d with
 | zero =>
   intro i acc h ha
   refine Ev.step (fun k => by unfold loessref22_Pairs.l0; rfl) (Ev.congr (fun k => if_neg (by omega)) (evEq (Ev.now _) ?_))
   rw [List.drop_of_length_le (by omega)]
   simp
 | succ d ih =>
   intro i acc h ha
   have hlt : i < L.length := by omega
   refine Ev.step (fun k => by unfold loessref22_Pairs.l0; rfl) (Ev.congr (fun k => if_pos (by omega)) (Ev.congr (fun k => if_pos (by omega)) ?_))
   rw [rr_drop hlt]
   by_cases c : (rr L i).f1 = true
   · refine Ev.congr (fun k => if_pos c) ?_
     rw [w64 (x := (i : Int) + 1) (by omega) (by omega)]
     refine evEq (ih (i + 1) acc (by omega) (by omega)) ?_
     rw [List.filter_cons_of_neg (by rw [c]; simp)]
   · refine Ev.congr (fun k => if_neg c) (Ev.congr (fun k => if_pos (by omega)) ?_)
     rw [w64 (x := (i : Int) + 1) (by omega) (by omega)]
     refine evEq (ih (i + 1) (acc ++ [toP (rr L i)]) (by omega) (by rw [List.length_append, List.length_singleton]; omega)) ?_
     rw [List.filter_cons_of_pos (by simp [c]), List.map_cons, List.append_assoc, List.singleton_append]
theorem pairs_ev (L : List Rc) (hL : L.length ≤ 1000000) (hg : ∀ r ∈ L, r.f1 = false) : Ev (fun k => loessref22_Pairs.f k L) (L.map toP) := by
 have h := pairs_l L hL L.length 0 [] (by omega) (Nat.le_refl _)
 rw [List.drop_zero, List.nil_append, List.filter_eq_self.2 (fun r hr => by rw [hg r hr]; rfl)] at h
 exact h
def inL (l : List Rc) : List Rc := (recsL l 30).filter goodR
def pairsL (l : List Rc) : List Pr := (ordK (inL l)).map toP
theorem inL_len (l : List Rc) : (inL l).length ≤ 30 := Nat.le_trans (List.length_filter_le _ _) (recsL_len l 30)
theorem inL_good {l : List Rc} : ∀ x ∈ inL l, goodR x = true := fun x hx => (List.mem_filter.1 hx).2
theorem ord_good {l : List Rc} : ∀ x ∈ ordK (inL l), goodR x = true := fun x hx => inL_good x (dedK_mem _ x ((ordK_mem _ x).1 hx))
theorem pairsL_len (l : List Rc) : (pairsL l).length ≤ 30 := by
 unfold pairsL
 rw [List.length_map, ordK_len]
 exact Nat.le_trans (dedK_len _) (inL_len l)
theorem goodR_iff {x : Rc} (h : goodR x = true) : x.f1 = false ∧ keyB x.f0 = true ∧ mayV x.f2.f0 x.f2.f1 x.f2.f2 = true := by
 unfold goodR at h
 rw [Bool.and_eq_true, Bool.and_eq_true, Bool.not_eq_true'] at h
 exact ⟨h.1, h.2.1, h.2.2⟩
theorem mayP_map {M : List Rc} (hl : M.length ≤ 1000) (hg : ∀ x ∈ M, goodR x = true) (hr : RiseK M) : MayP (M.map toP) := by
 refine ⟨by rw [List.length_map]; exact hl, fun j hj => ?_⟩
 have hj2 : j < M.length := by rw [List.length_map] at hj; exact hj
 refine ⟨hj, ?_, fun h0 => ?_⟩
 · rw [List.getElem_map]
   obtain ⟨h1, h2, h3⟩ := goodR_iff (hg _ (List.getElem_mem hj2))
   unfold okP recP toP mayR
   simp [h2, h3]
 · rw [List.getElem_map, List.getElem_map]
   exact List.pairwise_iff_getElem.1 hr (j - 1) j (by omega) hj2 (by omega)
theorem pairsL_may (l : List Rc) : MayP (pairsL l) := by
 have h := pairsL_len l
 unfold pairsL at h
 rw [List.length_map] at h
 exact mayP_map (by omega) (fun x hx => ord_good (l := l) x hx) (ordK_rise _)
theorem pairsL_sm {l : List Rc} : ∀ p ∈ pairsL l, p.f0.size ≤ 20 ∧ p.f1.f2.size ≤ 24 := by
 intro p hp
 obtain ⟨x, hx, rfl⟩ := List.mem_map.1 hp
 obtain ⟨h1, h2, h3⟩ := goodR_iff (ord_good (l := l) x hx)
 unfold keyB at h2
 have := of_decide_eq_true h2
 exact ⟨show x.f0.size ≤ 20 by omega, mayV_size h3⟩
end Go.Proofs.Ytkhcmddeeodbkaa.Q
