import Derived.Test.YtkhcmddeeodbkaaZSortedAll20
-- Own texts and, of the words that the kit's print program wrote for this claim, those that are needed here: put together by wip/prune.py.
set_option linter.unusedSimpArgs false
set_option linter.unusedVariables false
namespace Go.Proofs.Ytkhcmddeeodbkaa.GL
open Go.RowKit Go.Proofs.YtkhcmddeeodbkaaW.PrintWords Go.Proofs.YtkhcmddeeodbkaaW.PrintLast Go.Proofs.YtkhcmddeeodbkaaW.PrintMore Go.Proofs.Ytkhcmddeeodbkaa.Q Go.Proofs.Ytkhcmddeeodbkaa.XSor Go.Proofs.Ytkhcmddeeodbkaa.G
theorem numGet_p {w : World} {A : Option Addr} {n c : Nat} {l : List Int} (hn : n = l.length) (hC : Kd.C (Kd.int .u8) w A n l) (hc : n ≤ c) (hb : Byt l) (hl : n < 4611686018427387904) :
    Calls Try.prog 48 #[.slice A n c] w fun e w' => e = .returned (.tuple #[.int .i64 (getN l).1, .int .i64 (getN l).2.1, .int .i64 (getN l).2.2]) ∧ Below w.heap.size w w' := by
 subst hn
 obtain ⟨k, hk⟩ := (num_Get_ev hb (by omega)).rounds
 exact (num_Get.calls k A c l _ _ _ w hC hc hk).mono (fun e w' h => ⟨h.1, h.2.below⟩)
theorem cutU (A : Option Addr) (n c p : Nat) (hp : p ≤ n) (hc : n ≤ c) : ∃ A1 n1 c1, n1 = n - p ∧ n1 ≤ c1 ∧
    (∀ W : World, (Instr.slice 40 (.slice A n c) (some (.int .i64 p)) none none).run Try.prog W = .ok (.slice A1 n1 c1) W) ∧
    (∀ (W : World) (l : List Int), n = l.length → Kd.C (Kd.int .u8) W A n l → Kd.C (Kd.int .u8) W A1 n1 (l.drop p)) := by
 obtain ⟨i0, hi0, _, hsz, _⟩ := info_parts info5
 have hcut := cut_from (P := Try.prog) 40 5 .i64 Try.underlying40 hi0 1 hsz A n c p (by omega) (by omega)
 refine ⟨_, n - p, c - p, rfl, by omega, fun W => by have := hcut W; rwa [Int.toNat_natCast] at this, fun W l hn hC => ?_⟩
 subst hn
 have := Kd.C_drop (c := c) (m := p) hC hp hc
 rw [List.length_drop] at this
 exact this
theorem getText_p {w : World} {A : Option Addr} {n c : Nat} {l : List Int} (hn : n = l.length) (hC : Kd.C (Kd.int .u8) w A n l) (hc : n ≤ c) (hb : Byt l) (hl : n < 4611686018427387904) :
    Calls Try.prog 68 #[.slice A n c] w fun e w' => e = .returned (.tuple #[.string (getT l).1, .int .i64 (getT l).2.1, .int .i64 (getT l).2.2]) ∧ Below w.heap.size w w' := by
 subst hn
 obtain ⟨k, hk⟩ := (num_GetText_ev hb (by omega)).rounds
 exact (num_GetText.calls k A c l _ _ _ w hC hc hk).mono (fun e w' h => ⟨h.1, by first | exact h.2.below | exact h.2⟩)
theorem valOf_p (a b : Int) {s : ByteArray} (w : World) (hs : s.size < 35184372088832) : Calls Try.prog 56 #[.agg #[.int .i64 a, .int .i64 b, .string s]] w fun e w' => e = .returned (.tuple #[.agg #[(ofV a b s).1.val], .int .i64 (ofV a b s).2]) ∧ Below w.heap.size w w' := by
 obtain ⟨k, hk⟩ := (value_Of_ev a b hs).rounds
 refine (value_Of.calls k a b s (ofV a b s).1 (ofV a b s).2 w hk).mono ?_
 rintro e w' ⟨h1, h2⟩
 exact ⟨h1, by first | exact h2 | exact h2.below | (obtain ⟨n, rfl⟩ := h2; exact pw_below_drewN (Below.refl _ _) n)⟩
theorem valOf_q {a b : Int} {s : ByteArray} {x : VX} {e0 : Int} (w : World) (hs : s.size < 35184372088832) (h : ofV a b s = (x, e0)) : Calls Try.prog 56 #[.agg #[.int .i64 a, .int .i64 b, .string s]] w fun e w' => e = .returned (.tuple #[.agg #[x.val], .int .i64 e0]) ∧ Below w.heap.size w w' := by
 have h1 := valOf_p a b w hs
 rw [h] at h1
 exact h1
set_option maxRecDepth 1000000 in
set_option maxHeartbeats 8000000 in
theorem valGet_p {w : World} {A : Option Addr} {n c : Nat} {l : List Int} (hn : n = l.length) (hC : Kd.C (Kd.int .u8) w A n l) (hc : n ≤ c) (hb : Byt l) (hl : n < 4611686018427387904) :
    Calls Try.prog 69 #[.slice A n c] w fun e w' => e = .returned (.tuple #[.agg #[.int .i64 (getV l).1, .int .i64 (getV l).2.1, .string (getV l).2.2.1], .int .i64 (getV l).2.2.2.1, .int .i64 (getV l).2.2.2.2]) ∧ Below w.heap.size w w' := by
 have hu2 := Try.underlying25
 have HB := Aside0.mk (Below.refl w.heap.size w)
 have HC := Aside0.mk hC
 have HCC := Aside0.mk hc
 have HN := Aside0.mk hn
 have HBY := Aside0.mk hb
 have HL := Aside0.mk hl
 have HBD := Aside0.mk (getN_bound l)
 obtain ⟨R, hR⟩ : ∃ R, R = getV l := ⟨_, rfl⟩
 rw [← hR]
 have HTX := Aside0.mk (fun (W : World) (h : Below w.heap.size w W) => numGet_p hn (Kd.C_below hC h) hc hb hl)
 unfold getV at hR
 obtain ⟨x1, hx1⟩ : ∃ x, x = (getN l).1 := ⟨_, rfl⟩
 obtain ⟨pz, hpz⟩ : ∃ x, x = (getN l).2.1 := ⟨_, rfl⟩
 obtain ⟨e1, he1⟩ : ∃ x, x = (getN l).2.2 := ⟨_, rfl⟩
 rw [← hx1, ← hpz, ← he1] at hR HTX
 rw [← hpz] at HBD
 obtain ⟨p, rfl⟩ := Int.eq_ofNat_of_zero_le HBD.out.1
 have HPL := Aside0.mk (show p ≤ n by have := HBD.out.2.1; omega)
 have HRR := Aside0.mk hR
 clear hn hC hc hb hl hR hx1 hpz he1 HBD
 go_enter Try.func69, Try.ntmps69
 go_upto_region 2 with (first
  | ((with_reducible refine gate_dst (N := 2) rfl ?_); refine box_event ?hg (N := 2) ?hd (cs := #[.int .i64 0, .int .i64 0, .string ⟨#[]⟩]) (t := 25) ?hr ?_; (case hd => rfl); (case hg => rfl); (case hr => first | (go_simp; done) | (go_simp; rfl)); intro g2 hg w1 hbox hb; have G2 := Aside0.mk (show w.heap.size ≤ g2 by omega); have B2 := Aside0.mk hbox; have n1_ := Aside0.mk (show Below w.heap.size w w1 from hb); clear HB hbox hg hb; have HB := n1_; clear n1_)
  | (go_at_call 48; (with_reducible refine (HTX.out _ HB.out).mono ?_); rintro e w2 ⟨rfl, hb⟩; have n1_ := Aside0.mk (below_step HB.out hb); clear HB; have HB := n1_; clear n1_; have n2_ := Aside0.mk (blk_below B2.out hb); clear B2; have B2 := n2_; clear n2_; clear hb HTX))
 by_cases he : e1 = 0
 · subst he
   obtain ⟨A1, n1, c1, hn1, hnc1, hrun, hCc⟩ := cutU A n c p HPL.out HCC.out
   obtain ⟨r, hr⟩ : ∃ r, r = l.drop p := ⟨_, rfl⟩
   have HRL := Aside0.mk (show n1 = r.length by rw [hn1, hr, List.length_drop, HN.out])
   have HC1 := Aside0.mk (fun (W : World) (h : Below w.heap.size w W) => (show Kd.C (Kd.int .u8) W A1 n1 r by rw [hr]; exact hCc W l HN.out (Kd.C_below HC.out h)))
   have HNC := Aside0.mk hnc1
   have HBR := Aside0.mk (show Byt r by rw [hr]; exact HBY.out.drop p)
   have HL1 := Aside0.mk (show n1 < 4611686018427387904 by rw [hn1]; have := HL.out; omega)
   have HT := Aside0.mk HRR.out
   rw [if_pos rfl, Int.toNat_natCast, ← hr] at HT
   have HNB := Aside0.mk (getN_bound r)
   have HTB := Aside0.mk (getT_bound r)
   have HN1 := Aside0.mk hn1
   have HNG := Aside0.mk (fun (W : World) (h : Below w.heap.size w W) => numGet_p HRL.out (HC1.out W h) HNC.out HBR.out HL1.out)
   have HTG := Aside0.mk (fun (W : World) (h : Below w.heap.size w W) => getText_p HRL.out (HC1.out W h) HNC.out HBR.out HL1.out)
   have hpz : (p : Int) ≤ (n : Int) := by have := HPL.out; omega
   have hp0 : (0 : Int) ≤ (p : Int) := by omega
   clear hn1 hnc1 hCc hr HRR
   go_upto_region 8 with (first
    | ((with_reducible refine gate_dst (N := 8) rfl ?_); refine box_event ?hg (N := 8) ?hd (cs := #[.int .i64 0, .int .i64 0, .string ⟨#[]⟩]) (t := 25) ?hr ?_; (case hd => rfl); (case hg => rfl); (case hr => first | (go_simp; done) | (go_simp; rfl)); intro g8 hg w4 hbox hb; have G8 := Aside0.mk (show w.heap.size ≤ g8 by rw [hg]; exact HB.out.size); have NE := Aside0.mk (show g2 ≠ g8 by have := blk_lt B2.out; omega); have n1_ := Aside0.mk (below_step HB.out hb); clear HB; have HB := n1_; clear n1_; have n2_ := Aside0.mk (blk_below B2.out hb); clear B2; have B2 := n2_; clear n2_; have B8 := Aside0.mk hbox; clear hbox hg hb; have hs0 : w4.cell? ⟨g8, 0, none⟩ = some (.int .i64 0) := (blk_cell B8.out 0).trans rfl; have hs1 : w4.cell? ⟨g8, 1, none⟩ = some (.int .i64 0) := (blk_cell B8.out 1).trans rfl; have hs2 : w4.cell? ⟨g8, 2, none⟩ = some (.string ⟨#[]⟩) := (blk_cell B8.out 2).trans rfl; have hf0 := blk_frozen B8.out 0; have hf1 := blk_frozen B8.out 1; have hf2 := blk_frozen B8.out 2)
    | ((with_reducible refine gate_store (t := 25) (p := 8) rfl ?_); refine store_event (t := 25) (p := 8) (v := ?vo8) (w1 := (((w4.setCell ⟨g8, 0, none⟩ (.int .i64 x1)).setCell ⟨g8, 1, none⟩ (.int .i64 0)).setCell ⟨g8, 2, none⟩ (.string ⟨#[]⟩))) ?hg ?ho ?hn ?hr ?_; (case ho => rfl); (case hg => rfl); (case hn => rfl); (case hr => first | (go_simp; done) | (go_simp; rfl)); intro w5 hw; have n1_ := Aside0.mk (show Below w.heap.size w w5 by rw [hw]; exact below_set (below_set (below_set HB.out G8.out) G8.out) G8.out); have n2_ := Aside0.mk (show w5.heap[g2]? = some (.cells #[.int .i64 0, .int .i64 0, .string ⟨#[]⟩] 25 (0, 0)) by rw [hw]; exact blk_far (blk_far (blk_far B2.out NE.out _) NE.out _) NE.out _); have n3_ := Aside0.mk (show w5.heap[g8]? = some (.cells #[.int .i64 x1, .int .i64 0, .string ⟨#[]⟩] 25 (0, 0)) by rw [hw]; exact blk_put (blk_put (blk_put B8.out 0 _ rfl) 1 _ rfl) 2 _ rfl); clear HB B2 B8 hs0 hs1 hs2 hf0 hf1 hf2 hw; have HB := n1_; have B2 := n2_; have B8 := n3_; clear n1_ n2_ n3_))
   by_cases h1 : x1 = 1
   · subst h1
     obtain ⟨y1, hy1⟩ : ∃ x, x = (getN r).1 := ⟨_, rfl⟩
     obtain ⟨y2, hy2⟩ : ∃ x, x = (getN r).2.1 := ⟨_, rfl⟩
     obtain ⟨y3, hy3⟩ : ∃ x, x = (getN r).2.2 := ⟨_, rfl⟩
     rw [if_pos rfl, ← hy1, ← hy2, ← hy3] at HT
     rw [← hy1, ← hy2, ← hy3] at HNG
     rw [← hy2] at HNB
     clear hy1 hy2 hy3
     have hcs1 : w5.cell? ⟨g8, 1, none⟩ = some (.int .i64 0) := (blk_cell B8.out 1).trans rfl
     go_upto_region 12 with (first
      | (go_at_call 48; (with_reducible refine (HNG.out _ HB.out).mono ?_); rintro e w6 ⟨rfl, hb⟩; have n1_ := Aside0.mk (below_step HB.out hb); clear HB; have HB := n1_; clear n1_; have n2_ := Aside0.mk (blk_below B2.out hb); clear B2; have B2 := n2_; clear n2_; have n3_ := Aside0.mk (blk_below B8.out hb); clear B8; have B8 := n3_; clear n3_; clear hb HNG hcs1; have hcs1 : w6.cell? ⟨g8, 1, none⟩ = some (.int .i64 0) := (blk_cell B8.out 1).trans rfl; have hf1 := blk_frozen B8.out 1)
      | ((with_reducible refine gate_store (t := 2) (p := 33) rfl ?_); refine store_event (t := 2) (p := 33) (v := ?vo33) (w1 := (w6.setCell ⟨g8, 1, none⟩ (.int .i64 y1))) ?hg ?ho ?hn ?hr ?_; (case ho => rfl); (case hg => rfl); (case hn => rfl); (case hr => first | (go_simp; done) | (go_simp; rfl)); intro w7 hw; have n1_ := Aside0.mk (show Below w.heap.size w w7 by rw [hw]; exact below_set HB.out G8.out); have n2_ := Aside0.mk (show w7.heap[g2]? = some (.cells #[.int .i64 0, .int .i64 0, .string ⟨#[]⟩] 25 (0, 0)) by rw [hw]; exact blk_far B2.out NE.out _); have n3_ := Aside0.mk (show w7.heap[g8]? = some (.cells #[.int .i64 1, .int .i64 y1, .string ⟨#[]⟩] 25 (0, 0)) by rw [hw]; exact blk_put B8.out 1 _ rfl); clear HB B2 B8 hcs1 hf1 hw; have HB := n1_; have B2 := n2_; have B8 := n3_; clear n1_ n2_ n3_))
     have hs0 : w7.cell? ⟨g8, 0, none⟩ = some (.int .i64 1) := (blk_cell B8.out 0).trans rfl
     have hs1 : w7.cell? ⟨g8, 1, none⟩ = some (.int .i64 y1) := (blk_cell B8.out 1).trans rfl
     have hs2 : w7.cell? ⟨g8, 2, none⟩ = some (.string ⟨#[]⟩) := (blk_cell B8.out 2).trans rfl
     by_cases h3 : y3 = 0
     · subst h3
       have HR := Aside0.mk (show R = (1, y1, ⟨#[]⟩, (p : Int) + y2, 0) by rw [HT.out, if_pos rfl])
       have HOF := Aside0.mk (show ofV 1 y1 ⟨#[]⟩ = (VX.num y1, 0) from if_pos ⟨rfl, rfl⟩)
       have hsum : IntKind.i64.wrap ((p : Int) + y2) = (p : Int) + y2 := by
        have h1 := HNB.out.1
        have h2 := HNB.out.2.1
        have h3 := HRL.out
        have h4 := HN1.out
        have h5 := HL.out
        rw [i64_w, w64 (by omega) (by omega)]
       clear HT
       go_wp2_with (first
        | (go_at_call 56; (with_reducible refine (valOf_q _ (by decide) HOF.out).mono ?_); rintro e w8 ⟨rfl, hb⟩; have n1_ := Aside0.mk (below_step HB.out hb); clear HB; have HB := n1_; clear n1_; have n2_ := Aside0.mk (blk_below B2.out hb); clear B2; have B2 := n2_; clear n2_; have n3_ := Aside0.mk (blk_below B8.out hb); clear B8; have B8 := n3_; clear n3_; clear hb hs0 hs1 hs2; have hs0 : w8.cell? ⟨g8, 0, none⟩ = some (.int .i64 1) := (blk_cell B8.out 0).trans rfl; have hs1 : w8.cell? ⟨g8, 1, none⟩ = some (.int .i64 y1) := (blk_cell B8.out 1).trans rfl; have hs2 : w8.cell? ⟨g8, 2, none⟩ = some (.string ⟨#[]⟩) := (blk_cell B8.out 2).trans rfl; have hz0 : w8.cell? ⟨g2, 0, none⟩ = some (.int .i64 0) := (blk_cell B2.out 0).trans rfl; have hz1 : w8.cell? ⟨g2, 1, none⟩ = some (.int .i64 0) := (blk_cell B2.out 1).trans rfl; have hz2 : w8.cell? ⟨g2, 2, none⟩ = some (.string ⟨#[]⟩) := (blk_cell B2.out 2).trans rfl; have hf0 := blk_frozen B2.out 0; have hf1 := blk_frozen B2.out 1; have hf2 := blk_frozen B2.out 2)
        | fail)
       refine bodyPost_ret (results_ctt rfl _ _ g2 25 #[.int .i64 1, .int .i64 y1, .string ⟨#[]⟩] (0, 0) _ rfl (blk_put (blk_put (blk_put B2.out 0 _ rfl) 1 _ rfl) 2 _ rfl) Try.underlying25 rfl (by kernel_rfl)) rfl ?_
       exact ⟨by rw [HR.out]; rfl, below_set (below_set (below_set HB.out G2.out) G2.out) G2.out⟩
     · have HR := Aside0.mk (show R = (0, 0, ⟨#[]⟩, 0, y3) by rw [HT.out, if_neg h3])
       have hq1 : (y3 == 0) = false := beq_eq_false_iff_ne.mpr h3
       have hq2 : (y3 != 0) = true := by simp [h3]
       clear h3
       have hz0 : w7.cell? ⟨g2, 0, none⟩ = some (.int .i64 0) := (blk_cell B2.out 0).trans rfl; have hz1 : w7.cell? ⟨g2, 1, none⟩ = some (.int .i64 0) := (blk_cell B2.out 1).trans rfl; have hz2 : w7.cell? ⟨g2, 2, none⟩ = some (.string ⟨#[]⟩) := (blk_cell B2.out 2).trans rfl; have hf0 := blk_frozen B2.out 0; have hf1 := blk_frozen B2.out 1; have hf2 := blk_frozen B2.out 2
       go_wp2
       refine bodyPost_ret (results_ctt rfl _ _ g2 25 #[.int .i64 0, .int .i64 0, .string ⟨#[]⟩] (0, 0) _ rfl (blk_put (blk_put (blk_put B2.out 0 _ rfl) 1 _ rfl) 2 _ rfl) Try.underlying25 rfl (by kernel_rfl)) rfl ?_
       exact ⟨by rw [HR.out]; rfl, below_set (below_set (below_set HB.out G2.out) G2.out) G2.out⟩
   by_cases h2 : x1 = 2
   · subst h2
     obtain ⟨s, hs⟩ : ∃ x, x = (getT r).1 := ⟨_, rfl⟩
     obtain ⟨y2, hy2⟩ : ∃ x, x = (getT r).2.1 := ⟨_, rfl⟩
     obtain ⟨y3, hy3⟩ : ∃ x, x = (getT r).2.2 := ⟨_, rfl⟩
     have HSZ := Aside0.mk (show s.size < 35184372088832 by rw [hs]; have := getT_size r HBR.out; omega)
     rw [if_neg (by decide), if_pos rfl, ← hs, ← hy2, ← hy3] at HT
     rw [← hs, ← hy2, ← hy3] at HTG
     rw [← hy2] at HTB
     clear hs hy2 hy3 h1
     have hcs2 : w5.cell? ⟨g8, 2, none⟩ = some (.string ⟨#[]⟩) := (blk_cell B8.out 2).trans rfl
     go_upto_region 12 with (first
      | (go_at_call 68; (with_reducible refine (HTG.out _ HB.out).mono ?_); rintro e w6 ⟨rfl, hb⟩; have n1_ := Aside0.mk (below_step HB.out hb); clear HB; have HB := n1_; clear n1_; have n2_ := Aside0.mk (blk_below B2.out hb); clear B2; have B2 := n2_; clear n2_; have n3_ := Aside0.mk (blk_below B8.out hb); clear B8; have B8 := n3_; clear n3_; clear hb HTG hcs2; have hcs2 : w6.cell? ⟨g8, 2, none⟩ = some (.string ⟨#[]⟩) := (blk_cell B8.out 2).trans rfl; have hf2 := blk_frozen B8.out 2)
      | ((with_reducible refine gate_store (t := 9) (p := 44) rfl ?_); refine store_event (t := 9) (p := 44) (v := ?vo44) (w1 := (w6.setCell ⟨g8, 2, none⟩ (.string s))) ?hg ?ho ?hn ?hr ?_; (case ho => rfl); (case hg => rfl); (case hn => rfl); (case hr => first | (go_simp; done) | (go_simp; rfl)); intro w7 hw; have n1_ := Aside0.mk (show Below w.heap.size w w7 by rw [hw]; exact below_set HB.out G8.out); have n2_ := Aside0.mk (show w7.heap[g2]? = some (.cells #[.int .i64 0, .int .i64 0, .string ⟨#[]⟩] 25 (0, 0)) by rw [hw]; exact blk_far B2.out NE.out _); have n3_ := Aside0.mk (show w7.heap[g8]? = some (.cells #[.int .i64 2, .int .i64 0, .string s] 25 (0, 0)) by rw [hw]; exact blk_put B8.out 2 _ rfl); clear HB B2 B8 hcs2 hf2 hw; have HB := n1_; have B2 := n2_; have B8 := n3_; clear n1_ n2_ n3_))
     have hs0 : w7.cell? ⟨g8, 0, none⟩ = some (.int .i64 2) := (blk_cell B8.out 0).trans rfl
     have hs1 : w7.cell? ⟨g8, 1, none⟩ = some (.int .i64 0) := (blk_cell B8.out 1).trans rfl
     have hs2 : w7.cell? ⟨g8, 2, none⟩ = some (.string s) := (blk_cell B8.out 2).trans rfl
     by_cases h3 : y3 = 0
     · subst h3
       rw [if_pos rfl] at HT
       have hof : (ofV 2 0 s).2 = (if mayV 2 0 s = true then 0 else 1) := by
        unfold ofV mayV
        by_cases h : s.size ≤ 24 ∧ vld s = true <;> simp [h]
       have hsum : IntKind.i64.wrap ((p : Int) + y2) = (p : Int) + y2 := by
        have h1 := HTB.out.1
        have h2 := HTB.out.2.1
        have h3 := HRL.out
        have h4 := HN1.out
        have h5 := HL.out
        rw [i64_w, w64 (by omega) (by omega)]
       obtain ⟨x, hxx⟩ : ∃ x, x = (ofV 2 0 s).1 := ⟨_, rfl⟩
       by_cases hm : mayV 2 0 s = true
       · rw [if_pos hm] at HT hof
         have HR := HT
         have HOF := Aside0.mk (show ofV 2 0 s = (x, 0) from Prod.ext hxx.symm hof)
         clear HT hof hm hxx
         go_wp2_with (first | (go_at_call 56; (with_reducible refine (valOf_q _ HSZ.out HOF.out).mono ?_); rintro e w8 ⟨rfl, hb⟩; have n1_ := Aside0.mk (below_step HB.out hb); clear HB; have HB := n1_; clear n1_; have n2_ := Aside0.mk (blk_below B2.out hb); clear B2; have B2 := n2_; clear n2_; have n3_ := Aside0.mk (blk_below B8.out hb); clear B8; have B8 := n3_; clear n3_; clear hb hs0 hs1 hs2; have hs0 : w8.cell? ⟨g8, 0, none⟩ = some (.int .i64 2) := (blk_cell B8.out 0).trans rfl; have hs1 : w8.cell? ⟨g8, 1, none⟩ = some (.int .i64 0) := (blk_cell B8.out 1).trans rfl; have hs2 : w8.cell? ⟨g8, 2, none⟩ = some (.string s) := (blk_cell B8.out 2).trans rfl; have hz0 : w8.cell? ⟨g2, 0, none⟩ = some (.int .i64 0) := (blk_cell B2.out 0).trans rfl; have hz1 : w8.cell? ⟨g2, 1, none⟩ = some (.int .i64 0) := (blk_cell B2.out 1).trans rfl; have hz2 : w8.cell? ⟨g2, 2, none⟩ = some (.string ⟨#[]⟩) := (blk_cell B2.out 2).trans rfl; have hf0 := blk_frozen B2.out 0; have hf1 := blk_frozen B2.out 1; have hf2 := blk_frozen B2.out 2) | fail)
         refine bodyPost_ret (results_ctt rfl _ _ g2 25 #[.int .i64 2, .int .i64 0, .string s] (0, 0) _ rfl (blk_put (blk_put (blk_put B2.out 0 _ rfl) 1 _ rfl) 2 _ rfl) Try.underlying25 rfl (by kernel_rfl)) rfl ?_
         exact ⟨by rw [HR.out]; rfl, below_set (below_set (below_set HB.out G2.out) G2.out) G2.out⟩
       · rw [if_neg hm] at HT hof
         have HR := HT
         have HOF := Aside0.mk (show ofV 2 0 s = (x, 1) from Prod.ext hxx.symm hof)
         clear HT hof hm hxx
         go_wp2_with (first | (go_at_call 56; (with_reducible refine (valOf_q _ HSZ.out HOF.out).mono ?_); rintro e w8 ⟨rfl, hb⟩; have n1_ := Aside0.mk (below_step HB.out hb); clear HB; have HB := n1_; clear n1_; have n2_ := Aside0.mk (blk_below B2.out hb); clear B2; have B2 := n2_; clear n2_; have n3_ := Aside0.mk (blk_below B8.out hb); clear B8; have B8 := n3_; clear n3_; clear hb hs0 hs1 hs2; have hs0 : w8.cell? ⟨g8, 0, none⟩ = some (.int .i64 2) := (blk_cell B8.out 0).trans rfl; have hs1 : w8.cell? ⟨g8, 1, none⟩ = some (.int .i64 0) := (blk_cell B8.out 1).trans rfl; have hs2 : w8.cell? ⟨g8, 2, none⟩ = some (.string s) := (blk_cell B8.out 2).trans rfl; have hz0 : w8.cell? ⟨g2, 0, none⟩ = some (.int .i64 0) := (blk_cell B2.out 0).trans rfl; have hz1 : w8.cell? ⟨g2, 1, none⟩ = some (.int .i64 0) := (blk_cell B2.out 1).trans rfl; have hz2 : w8.cell? ⟨g2, 2, none⟩ = some (.string ⟨#[]⟩) := (blk_cell B2.out 2).trans rfl; have hf0 := blk_frozen B2.out 0; have hf1 := blk_frozen B2.out 1; have hf2 := blk_frozen B2.out 2) | fail)
         refine bodyPost_ret (results_ctt rfl _ _ g2 25 #[.int .i64 0, .int .i64 0, .string ⟨#[]⟩] (0, 0) _ rfl (blk_put (blk_put (blk_put B2.out 0 _ rfl) 1 _ rfl) 2 _ rfl) Try.underlying25 rfl (by kernel_rfl)) rfl ?_
         exact ⟨by rw [HR.out]; rfl, below_set (below_set (below_set HB.out G2.out) G2.out) G2.out⟩
     · have HR := Aside0.mk (show R = (0, 0, ⟨#[]⟩, 0, y3) by rw [HT.out, if_neg h3])
       have hq1 : (y3 == 0) = false := beq_eq_false_iff_ne.mpr h3
       have hq2 : (y3 != 0) = true := by simp [h3]
       clear h3
       have hz0 : w7.cell? ⟨g2, 0, none⟩ = some (.int .i64 0) := (blk_cell B2.out 0).trans rfl; have hz1 : w7.cell? ⟨g2, 1, none⟩ = some (.int .i64 0) := (blk_cell B2.out 1).trans rfl; have hz2 : w7.cell? ⟨g2, 2, none⟩ = some (.string ⟨#[]⟩) := (blk_cell B2.out 2).trans rfl; have hf0 := blk_frozen B2.out 0; have hf1 := blk_frozen B2.out 1; have hf2 := blk_frozen B2.out 2
       go_wp2
       refine bodyPost_ret (results_ctt rfl _ _ g2 25 #[.int .i64 0, .int .i64 0, .string ⟨#[]⟩] (0, 0) _ rfl (blk_put (blk_put (blk_put B2.out 0 _ rfl) 1 _ rfl) 2 _ rfl) Try.underlying25 rfl (by kernel_rfl)) rfl ?_
       exact ⟨by rw [HR.out]; rfl, below_set (below_set (below_set HB.out G2.out) G2.out) G2.out⟩
   · have HR := Aside0.mk (show R = (0, 0, ⟨#[]⟩, 0, 1) by rw [HT.out, if_neg h1, if_neg h2])
     have hq1 : (x1 == 1) = false := beq_eq_false_iff_ne.mpr h1
     have hq2 : (x1 == 2) = false := beq_eq_false_iff_ne.mpr h2
     clear h1 h2
     have hz0 : w5.cell? ⟨g2, 0, none⟩ = some (.int .i64 0) := (blk_cell B2.out 0).trans rfl; have hz1 : w5.cell? ⟨g2, 1, none⟩ = some (.int .i64 0) := (blk_cell B2.out 1).trans rfl; have hz2 : w5.cell? ⟨g2, 2, none⟩ = some (.string ⟨#[]⟩) := (blk_cell B2.out 2).trans rfl; have hf0 := blk_frozen B2.out 0; have hf1 := blk_frozen B2.out 1; have hf2 := blk_frozen B2.out 2
     go_wp2
     refine bodyPost_ret (results_ctt rfl _ _ g2 25 #[.int .i64 0, .int .i64 0, .string ⟨#[]⟩] (0, 0) _ rfl (blk_put (blk_put (blk_put B2.out 0 _ rfl) 1 _ rfl) 2 _ rfl) Try.underlying25 rfl (by kernel_rfl)) rfl ?_
     exact ⟨by rw [HR.out]; rfl, below_set (below_set (below_set HB.out G2.out) G2.out) G2.out⟩
 · have HR := Aside0.mk (show R = (0, 0, ⟨#[]⟩, 0, e1) by rw [HRR.out, if_neg he])
   have h1 : (e1 == 0) = false := beq_eq_false_iff_ne.mpr he
   have h2 : (e1 != 0) = true := by simp [he]
   clear he
   have hz0 : w2.cell? ⟨g2, 0, none⟩ = some (.int .i64 0) := (blk_cell B2.out 0).trans rfl; have hz1 : w2.cell? ⟨g2, 1, none⟩ = some (.int .i64 0) := (blk_cell B2.out 1).trans rfl; have hz2 : w2.cell? ⟨g2, 2, none⟩ = some (.string ⟨#[]⟩) := (blk_cell B2.out 2).trans rfl; have hf0 := blk_frozen B2.out 0; have hf1 := blk_frozen B2.out 1; have hf2 := blk_frozen B2.out 2
   go_wp2
   refine bodyPost_ret (results_ctt rfl _ _ g2 25 #[.int .i64 0, .int .i64 0, .string ⟨#[]⟩] (0, 0) _ rfl (blk_put (blk_put (blk_put B2.out 0 _ rfl) 1 _ rfl) 2 _ rfl) Try.underlying25 rfl (by kernel_rfl)) rfl ?_
   exact ⟨by rw [HR.out]; rfl, below_set (below_set (below_set HB.out G2.out) G2.out) G2.out⟩
end Go.Proofs.Ytkhcmddeeodbkaa.GL
namespace Go.Proofs.Ytkhcmddeeodbkaa.GL
open Go.RowKit Go.Proofs.YtkhcmddeeodbkaaW.PrintWords Go.Proofs.YtkhcmddeeodbkaaW.PrintLast Go.Proofs.YtkhcmddeeodbkaaW.PrintMore Go.Proofs.Ytkhcmddeeodbkaa.Q Go.Proofs.Ytkhcmddeeodbkaa.XSor Go.Proofs.Ytkhcmddeeodbkaa.G
theorem keyMay_p {s : ByteArray} {v : Bool} (w : World) (h : keyB s = v) : Calls Try.prog 55 #[.string s] w fun e w' => e = .returned (.bool v) ∧ Below w.heap.size w w' := by
 have h1 := key_May_eq s
 rw [h] at h1
 exact (key_May.calls s v w h1).mono (fun e w' ⟨h1, ⟨n, h2⟩⟩ => ⟨h1, by rw [h2]; exact pw_below_drewN (Below.refl _ _) n⟩)
set_option maxRecDepth 1000000 in
set_option maxHeartbeats 8000000 in
theorem recGet_p {w : World} {A : Option Addr} {n c : Nat} {l : List Int} (hn : n = l.length) (hC : Kd.C (Kd.int .u8) w A n l) (hc : n ≤ c) (hb : Byt l) (hl : n < 4611686018427387904) :
    Calls Try.prog 49 #[.slice A n c] w fun e w' => e = .returned (.tuple #[.agg #[.string (Q.getR l).1.f0, .bool (Q.getR l).1.f1, .int .i64 (Q.getR l).1.f2.f0, .int .i64 (Q.getR l).1.f2.f1, .string (Q.getR l).1.f2.f2], .int .i64 (Q.getR l).2.1, .int .i64 (Q.getR l).2.2]) ∧ Below w.heap.size w w' := by
 have hu := Try.underlying27
 have hu2 := Try.underlying25
 have HB := Aside0.mk (Below.refl w.heap.size w)
 have HC := Aside0.mk hC
 have HCC := Aside0.mk hc
 have HN := Aside0.mk hn
 have HBY := Aside0.mk hb
 have HL := Aside0.mk hl
 have HBD := Aside0.mk (getT_bound l)
 obtain ⟨R, hR⟩ : ∃ R, R = Q.getR l := ⟨_, rfl⟩
 rw [← hR]
 have HTX := Aside0.mk (fun (W : World) (h : Below w.heap.size w W) => getText_p hn (Kd.C_below hC h) hc hb hl)
 unfold Q.getR at hR
 obtain ⟨s, hs⟩ : ∃ x, x = (getT l).1 := ⟨_, rfl⟩
 obtain ⟨pz, hpz⟩ : ∃ x, x = (getT l).2.1 := ⟨_, rfl⟩
 obtain ⟨e1, he1⟩ : ∃ x, x = (getT l).2.2 := ⟨_, rfl⟩
 rw [← hs, ← hpz, ← he1] at hR HTX
 rw [← hpz] at HBD
 obtain ⟨p, rfl⟩ := Int.eq_ofNat_of_zero_le HBD.out.1
 have HPL := Aside0.mk (show p ≤ n by have := HBD.out.2.1; omega)
 have HRR := Aside0.mk hR
 clear hn hC hc hb hl hR hs hpz he1 HBD
 go_enter Try.func49, Try.ntmps49
 go_upto_region 2 with (first
  | ((with_reducible refine gate_dst (N := 2) rfl ?_); refine box_event ?hg (N := 2) ?hd (cs := #[.string ⟨#[]⟩, .bool false, .int .i64 0, .int .i64 0, .string ⟨#[]⟩]) (t := 27) ?hr ?_; (case hd => rfl); (case hg => rfl); (case hr => first | (go_simp; done) | (go_simp; rfl)); intro g2 hg w1 hbox hb; have G2 := Aside0.mk (show w.heap.size ≤ g2 by omega); have B2 := Aside0.mk hbox; have n1_ := Aside0.mk (show Below w.heap.size w w1 from hb); clear HB hbox hg hb; have HB := n1_; clear n1_)
  | (go_at_call 68; (with_reducible refine (HTX.out _ HB.out).mono ?_); rintro e w2 ⟨rfl, hb⟩; have n1_ := Aside0.mk (below_step HB.out hb); clear HB; have HB := n1_; clear n1_; have n2_ := Aside0.mk (blk_below B2.out hb); clear B2; have B2 := n2_; clear n2_; clear hb HTX))
 by_cases he : e1 = 0
 · subst he
   cases hk : keyB s with
   | false =>
     have HKB := Aside0.mk hk
     have HR := Aside0.mk (show R = (zR, 0, 1) by rw [HRR.out, if_pos rfl, hk, if_neg Bool.false_ne_true])
     clear hk
     go_wp2_with (first | (go_at_call 55; (with_reducible refine (keyMay_p _ HKB.out).mono ?_); rintro e w3 ⟨rfl, hb⟩; have n1_ := Aside0.mk (below_step HB.out hb); clear HB; have HB := n1_; clear n1_; have n2_ := Aside0.mk (blk_below B2.out hb); clear B2; have B2 := n2_; clear n2_; clear hb; have hz0 : w3.cell? ⟨g2, 0, none⟩ = some (.string ⟨#[]⟩) := (blk_cell B2.out 0).trans rfl; have hz1 : w3.cell? ⟨g2, 1, none⟩ = some (.bool false) := (blk_cell B2.out 1).trans rfl; have hz2 : w3.cell? ⟨g2, 2, none⟩ = some (.int .i64 0) := (blk_cell B2.out 2).trans rfl; have hz3 : w3.cell? ⟨g2, 3, none⟩ = some (.int .i64 0) := (blk_cell B2.out 3).trans rfl; have hz4 : w3.cell? ⟨g2, 4, none⟩ = some (.string ⟨#[]⟩) := (blk_cell B2.out 4).trans rfl; have hf0 := blk_frozen B2.out 0; have hf1 := blk_frozen B2.out 1; have hf2 := blk_frozen B2.out 2; have hf3 := blk_frozen B2.out 3; have hf4 := blk_frozen B2.out 4) | fail)
     refine bodyPost_ret (results_ctt rfl _ _ g2 27 #[.string ⟨#[]⟩, .bool false, .int .i64 0, .int .i64 0, .string ⟨#[]⟩] (0, 0) _ rfl (blk_put (blk_put (blk_put (blk_put (blk_put B2.out 0 _ rfl) 1 _ rfl) 2 _ rfl) 3 _ rfl) 4 _ rfl) Try.underlying27 rfl (by kernel_rfl)) rfl ?_
     exact ⟨by rw [HR.out]; rfl, below_set (below_set (below_set (below_set (below_set HB.out G2.out) G2.out) G2.out) G2.out) G2.out⟩
   | true =>
     have HKB := Aside0.mk hk
     obtain ⟨A1, n1, c1, hn1, hnc1, hrun, hCc⟩ := cutU A n c p HPL.out HCC.out
     obtain ⟨r, hr⟩ : ∃ r, r = l.drop p := ⟨_, rfl⟩
     have HRL := Aside0.mk (show n1 = r.length by rw [hn1, hr, List.length_drop, HN.out])
     have HC1 := Aside0.mk (fun (W : World) (h : Below w.heap.size w W) => (show Kd.C (Kd.int .u8) W A1 n1 r by rw [hr]; exact hCc W l HN.out (Kd.C_below HC.out h)))
     have HNC := Aside0.mk hnc1
     have HBR := Aside0.mk (show Byt r by rw [hr]; exact HBY.out.drop p)
     have HL1 := Aside0.mk (show n1 < 4611686018427387904 by rw [hn1]; have := HL.out; omega)
     have HT := Aside0.mk (show R = tailR s (p : Int) r by rw [HRR.out, if_pos rfl, hk, if_pos rfl, Int.toNat_natCast, ← hr])
     have HNB := Aside0.mk (getN_bound r)
     have HVB := Aside0.mk (getV_bound r)
     have HN1 := Aside0.mk hn1
     obtain ⟨x1, hx1⟩ : ∃ x, x = (getN r).1 := ⟨_, rfl⟩
     obtain ⟨x2, hx2⟩ : ∃ x, x = (getN r).2.1 := ⟨_, rfl⟩
     obtain ⟨x3, hx3⟩ : ∃ x, x = (getN r).2.2 := ⟨_, rfl⟩
     have HNG := Aside0.mk (fun (W : World) (h : Below w.heap.size w W) => numGet_p HRL.out (HC1.out W h) HNC.out HBR.out HL1.out)
     have HVG := Aside0.mk (fun (W : World) (h : Below w.heap.size w W) => valGet_p HRL.out (HC1.out W h) HNC.out HBR.out HL1.out)
     have HT2 := Aside0.mk (show R = tailR s (p : Int) r from HT.out)
     unfold tailR at HT2
     rw [← hx1, ← hx2, ← hx3] at HT2
     rw [← hx1, ← hx2, ← hx3] at HNG
     rw [← hx2] at HNB
     have hpz : (p : Int) ≤ (n : Int) := by have := HPL.out; omega
     have hp0 : (0 : Int) ≤ (p : Int) := by omega
     clear hk hn1 hnc1 hCc hr hx1 hx2 hx3
     go_upto_region 9 with (first
      | (go_at_call 55; (with_reducible refine (keyMay_p _ HKB.out).mono ?_); rintro e w3 ⟨rfl, hb⟩; have n1_ := Aside0.mk (below_step HB.out hb); clear HB; have HB := n1_; clear n1_; have n2_ := Aside0.mk (blk_below B2.out hb); clear B2; have B2 := n2_; clear n2_; clear hb)
      | ((with_reducible refine gate_dst (N := 8) rfl ?_); refine box_event ?hg (N := 8) ?hd (cs := #[.string ⟨#[]⟩, .bool false, .int .i64 0, .int .i64 0, .string ⟨#[]⟩]) (t := 27) ?hr ?_; (case hd => rfl); (case hg => rfl); (case hr => first | (go_simp; done) | (go_simp; rfl)); intro g8 hg w4 hbox hb; have G8 := Aside0.mk (show w.heap.size ≤ g8 by rw [hg]; exact HB.out.size); have NE := Aside0.mk (show g2 ≠ g8 by have := blk_lt B2.out; omega); have n1_ := Aside0.mk (below_step HB.out hb); clear HB; have HB := n1_; clear n1_; have n2_ := Aside0.mk (blk_below B2.out hb); clear B2; have B2 := n2_; clear n2_; have B8 := Aside0.mk hbox; clear hbox hg hb; have hs0 : w4.cell? ⟨g8, 0, none⟩ = some (.string ⟨#[]⟩) := (blk_cell B8.out 0).trans rfl; have hs1 : w4.cell? ⟨g8, 1, none⟩ = some (.bool false) := (blk_cell B8.out 1).trans rfl; have hs2 : w4.cell? ⟨g8, 2, none⟩ = some (.int .i64 0) := (blk_cell B8.out 2).trans rfl; have hs3 : w4.cell? ⟨g8, 3, none⟩ = some (.int .i64 0) := (blk_cell B8.out 3).trans rfl; have hs4 : w4.cell? ⟨g8, 4, none⟩ = some (.string ⟨#[]⟩) := (blk_cell B8.out 4).trans rfl; have hf0 := blk_frozen B8.out 0; have hf1 := blk_frozen B8.out 1; have hf2 := blk_frozen B8.out 2; have hf3 := blk_frozen B8.out 3; have hf4 := blk_frozen B8.out 4)
      | ((with_reducible refine gate_store (t := 27) (p := 8) rfl ?_); refine store_event (t := 27) (p := 8) (v := ?vo8) (w1 := (((((w4.setCell ⟨g8, 0, none⟩ (.string s)).setCell ⟨g8, 1, none⟩ (.bool false)).setCell ⟨g8, 2, none⟩ (.int .i64 0)).setCell ⟨g8, 3, none⟩ (.int .i64 0)).setCell ⟨g8, 4, none⟩ (.string ⟨#[]⟩))) ?hg ?ho ?hn ?hr ?_; (case ho => rfl); (case hg => rfl); (case hn => rfl); (case hr => first | (go_simp; done) | (go_simp; rfl)); intro w5 hw; have n1_ := Aside0.mk (show Below w.heap.size w w5 by rw [hw]; exact below_set (below_set (below_set (below_set (below_set HB.out G8.out) G8.out) G8.out) G8.out) G8.out); have n2_ := Aside0.mk (show w5.heap[g2]? = some (.cells #[.string ⟨#[]⟩, .bool false, .int .i64 0, .int .i64 0, .string ⟨#[]⟩] 27 (0, 0)) by rw [hw]; exact blk_far (blk_far (blk_far (blk_far (blk_far B2.out NE.out _) NE.out _) NE.out _) NE.out _) NE.out _); have n3_ := Aside0.mk (show w5.heap[g8]? = some (.cells #[.string s, .bool false, .int .i64 0, .int .i64 0, .string ⟨#[]⟩] 27 (0, 0)) by rw [hw]; exact blk_put (blk_put (blk_put (blk_put (blk_put B8.out 0 _ rfl) 1 _ rfl) 2 _ rfl) 3 _ rfl) 4 _ rfl); clear HB B2 B8 hs0 hs1 hs2 hs3 hs4 hf0 hf1 hf2 hf3 hf4 hw; have HB := n1_; have B2 := n2_; have B8 := n3_; clear n1_ n2_ n3_)
      | (go_at_call 48; (with_reducible refine (HNG.out _ HB.out).mono ?_); rintro e w6 ⟨rfl, hb⟩; have n1_ := Aside0.mk (below_step HB.out hb); clear HB; have HB := n1_; clear n1_; have n2_ := Aside0.mk (blk_below B2.out hb); clear B2; have B2 := n2_; clear n2_; have n3_ := Aside0.mk (blk_below B8.out hb); clear B8; have B8 := n3_; clear n3_; clear hb HNG))
     by_cases h3 : x3 = 0
     · subst h3
       have hcs0 : w6.cell? ⟨g8, 0, none⟩ = some (.string s) := (blk_cell B8.out 0).trans rfl
       have hcs1 : w6.cell? ⟨g8, 1, none⟩ = some (.bool false) := (blk_cell B8.out 1).trans rfl
       have hcs2 : w6.cell? ⟨g8, 2, none⟩ = some (.int .i64 0) := (blk_cell B8.out 2).trans rfl
       have hcs3 : w6.cell? ⟨g8, 3, none⟩ = some (.int .i64 0) := (blk_cell B8.out 3).trans rfl
       have hcs4 : w6.cell? ⟨g8, 4, none⟩ = some (.string ⟨#[]⟩) := (blk_cell B8.out 4).trans rfl
       have hcf1 := blk_frozen B8.out 1
       by_cases h4 : x1 = 0
       · subst h4
         have HR := Aside0.mk (show R = (⟨s, true, ⟨0, 0, ⟨#[]⟩⟩⟩, (p : Int) + x2, 0) by rw [HT2.out, if_pos rfl, if_pos rfl])
         have hsum : IntKind.i64.wrap ((p : Int) + x2) = (p : Int) + x2 := by
          have h1 := HNB.out.1
          have h2 := HNB.out.2.1
          have h3 := HRL.out
          have h4 := HN1.out
          have h5 := HL.out
          rw [i64_w, w64 (by omega) (by omega)]
         clear HT2
         go_upto_region 12 with (first | ((with_reducible refine gate_store (t := 4) (p := 53) rfl ?_); refine store_event (t := 4) (p := 53) (v := ?vo53) (w1 := (w6.setCell ⟨g8, 1, none⟩ (.bool true))) ?hg ?ho ?hn ?hr ?_; (case ho => rfl); (case hg => rfl); (case hn => rfl); (case hr => first | (go_simp; done) | (go_simp; rfl)); intro w7 hw; have n1_ := Aside0.mk (show Below w.heap.size w w7 by rw [hw]; exact below_set HB.out G8.out); have n2_ := Aside0.mk (show w7.heap[g2]? = some (.cells #[.string ⟨#[]⟩, .bool false, .int .i64 0, .int .i64 0, .string ⟨#[]⟩] 27 (0, 0)) by rw [hw]; exact blk_far B2.out NE.out _); have n3_ := Aside0.mk (show w7.heap[g8]? = some (.cells #[.string s, .bool true, .int .i64 0, .int .i64 0, .string ⟨#[]⟩] 27 (0, 0)) by rw [hw]; exact blk_put B8.out 1 _ rfl); clear HB B2 B8 hcs0 hcs1 hcs2 hcs3 hcs4 hcf1 hw; have HB := n1_; have B2 := n2_; have B8 := n3_; clear n1_ n2_ n3_) | fail)
         have hs0 : w7.cell? ⟨g8, 0, none⟩ = some (.string s) := (blk_cell B8.out 0).trans rfl
         have hs1 : w7.cell? ⟨g8, 1, none⟩ = some (.bool true) := (blk_cell B8.out 1).trans rfl
         have hs2 : w7.cell? ⟨g8, 2, none⟩ = some (.int .i64 0) := (blk_cell B8.out 2).trans rfl
         have hs3 : w7.cell? ⟨g8, 3, none⟩ = some (.int .i64 0) := (blk_cell B8.out 3).trans rfl
         have hs4 : w7.cell? ⟨g8, 4, none⟩ = some (.string ⟨#[]⟩) := (blk_cell B8.out 4).trans rfl
         have hz0 : w7.cell? ⟨g2, 0, none⟩ = some (.string ⟨#[]⟩) := (blk_cell B2.out 0).trans rfl; have hz1 : w7.cell? ⟨g2, 1, none⟩ = some (.bool false) := (blk_cell B2.out 1).trans rfl; have hz2 : w7.cell? ⟨g2, 2, none⟩ = some (.int .i64 0) := (blk_cell B2.out 2).trans rfl; have hz3 : w7.cell? ⟨g2, 3, none⟩ = some (.int .i64 0) := (blk_cell B2.out 3).trans rfl; have hz4 : w7.cell? ⟨g2, 4, none⟩ = some (.string ⟨#[]⟩) := (blk_cell B2.out 4).trans rfl; have hf0 := blk_frozen B2.out 0; have hf1 := blk_frozen B2.out 1; have hf2 := blk_frozen B2.out 2; have hf3 := blk_frozen B2.out 3; have hf4 := blk_frozen B2.out 4
         go_wp2
         refine bodyPost_ret (results_ctt rfl _ _ g2 27 #[.string s, .bool true, .int .i64 0, .int .i64 0, .string ⟨#[]⟩] (0, 0) _ rfl (blk_put (blk_put (blk_put (blk_put (blk_put B2.out 0 _ rfl) 1 _ rfl) 2 _ rfl) 3 _ rfl) 4 _ rfl) Try.underlying27 rfl (by kernel_rfl)) rfl ?_
         exact ⟨by rw [HR.out]; rfl, below_set (below_set (below_set (below_set (below_set HB.out G2.out) G2.out) G2.out) G2.out) G2.out⟩
       · have hx1 : (x1 == 0) = false := beq_eq_false_iff_ne.mpr h4
         have hx1n : ((0 : Int) != x1) = true := by simp; omega
         obtain ⟨v1, hv1⟩ : ∃ x, x = (getV r).1 := ⟨_, rfl⟩
         obtain ⟨v2, hv2⟩ : ∃ x, x = (getV r).2.1 := ⟨_, rfl⟩
         obtain ⟨v3, hv3⟩ : ∃ x, x = (getV r).2.2.1 := ⟨_, rfl⟩
         obtain ⟨v4, hv4⟩ : ∃ x, x = (getV r).2.2.2.1 := ⟨_, rfl⟩
         obtain ⟨v5, hv5⟩ : ∃ x, x = (getV r).2.2.2.2 := ⟨_, rfl⟩
         have HT3 := Aside0.mk (show R = if v5 = 0 then (⟨s, false, ⟨v1, v2, v3⟩⟩, (p : Int) + v4, 0) else (zR, 0, v5) by rw [HT2.out, if_pos rfl, if_neg h4, hv1, hv2, hv3, hv4, hv5])
         rw [← hv1, ← hv2, ← hv3, ← hv4, ← hv5] at HVG
         rw [← hv4] at HVB
         clear h4 hv1 hv2 hv3 hv4 hv5 HT2
         have hcf2 := blk_frozen B8.out 2
         go_upto_region 12 with (first
          | (go_at_call 69; (with_reducible refine (HVG.out _ HB.out).mono ?_); rintro e w7 ⟨rfl, hb⟩; have n1_ := Aside0.mk (below_step HB.out hb); clear HB; have HB := n1_; clear n1_; have n2_ := Aside0.mk (blk_below B2.out hb); clear B2; have B2 := n2_; clear n2_; have n3_ := Aside0.mk (blk_below B8.out hb); clear B8; have B8 := n3_; clear n3_; clear hb HVG hcs0 hcs1 hcs2 hcs3 hcs4 hcf1 hcf2; have hcs2 : w7.cell? ⟨g8, 2, none⟩ = some (.int .i64 0) := (blk_cell B8.out 2).trans rfl; have hcs3 : w7.cell? ⟨g8, 3, none⟩ = some (.int .i64 0) := (blk_cell B8.out 3).trans rfl; have hcs4 : w7.cell? ⟨g8, 4, none⟩ = some (.string ⟨#[]⟩) := (blk_cell B8.out 4).trans rfl; have hf2 := blk_frozen B8.out 2; have hf3 := blk_frozen B8.out 3; have hf4 := blk_frozen B8.out 4)
          | ((with_reducible refine gate_store (t := 25) (p := 46) rfl ?_); refine store_event (t := 25) (p := 46) (v := ?vo46) (w1 := (((w7.setCell ⟨g8, 2, none⟩ (.int .i64 v1)).setCell ⟨g8, 3, none⟩ (.int .i64 v2)).setCell ⟨g8, 4, none⟩ (.string v3))) ?hg ?ho ?hn ?hr ?_; (case ho => rfl); (case hg => rfl); (case hn => rfl); (case hr => first | (go_simp; done) | (go_simp; rfl)); intro w8 hw; have n1_ := Aside0.mk (show Below w.heap.size w w8 by rw [hw]; exact below_set (below_set (below_set HB.out G8.out) G8.out) G8.out); have n2_ := Aside0.mk (show w8.heap[g2]? = some (.cells #[.string ⟨#[]⟩, .bool false, .int .i64 0, .int .i64 0, .string ⟨#[]⟩] 27 (0, 0)) by rw [hw]; exact blk_far (blk_far (blk_far B2.out NE.out _) NE.out _) NE.out _); have n3_ := Aside0.mk (show w8.heap[g8]? = some (.cells #[.string s, .bool false, .int .i64 v1, .int .i64 v2, .string v3] 27 (0, 0)) by rw [hw]; exact blk_put (blk_put (blk_put B8.out 2 _ rfl) 3 _ rfl) 4 _ rfl); clear HB B2 B8 hcs2 hcs3 hcs4 hf2 hf3 hf4 hw; have HB := n1_; have B2 := n2_; have B8 := n3_; clear n1_ n2_ n3_))
         by_cases h5 : v5 = 0
         · subst h5
           have HR := Aside0.mk (show R = (⟨s, false, ⟨v1, v2, v3⟩⟩, (p : Int) + v4, 0) by rw [HT3.out, if_pos rfl])
           have hsum : IntKind.i64.wrap ((p : Int) + v4) = (p : Int) + v4 := by
            have h1 := HVB.out.1
            have h2 := HVB.out.2
            have h3 := HRL.out
            have h4 := HN1.out
            have h5 := HL.out
            rw [i64_w, w64 (by omega) (by omega)]
           have hs0 : w8.cell? ⟨g8, 0, none⟩ = some (.string s) := (blk_cell B8.out 0).trans rfl
           have hs1 : w8.cell? ⟨g8, 1, none⟩ = some (.bool false) := (blk_cell B8.out 1).trans rfl
           have hs2 : w8.cell? ⟨g8, 2, none⟩ = some (.int .i64 v1) := (blk_cell B8.out 2).trans rfl
           have hs3 : w8.cell? ⟨g8, 3, none⟩ = some (.int .i64 v2) := (blk_cell B8.out 3).trans rfl
           have hs4 : w8.cell? ⟨g8, 4, none⟩ = some (.string v3) := (blk_cell B8.out 4).trans rfl
           have hz0 : w8.cell? ⟨g2, 0, none⟩ = some (.string ⟨#[]⟩) := (blk_cell B2.out 0).trans rfl; have hz1 : w8.cell? ⟨g2, 1, none⟩ = some (.bool false) := (blk_cell B2.out 1).trans rfl; have hz2 : w8.cell? ⟨g2, 2, none⟩ = some (.int .i64 0) := (blk_cell B2.out 2).trans rfl; have hz3 : w8.cell? ⟨g2, 3, none⟩ = some (.int .i64 0) := (blk_cell B2.out 3).trans rfl; have hz4 : w8.cell? ⟨g2, 4, none⟩ = some (.string ⟨#[]⟩) := (blk_cell B2.out 4).trans rfl; have hf0 := blk_frozen B2.out 0; have hf1 := blk_frozen B2.out 1; have hf2 := blk_frozen B2.out 2; have hf3 := blk_frozen B2.out 3; have hf4 := blk_frozen B2.out 4
           go_wp2
           refine bodyPost_ret (results_ctt rfl _ _ g2 27 #[.string s, .bool false, .int .i64 v1, .int .i64 v2, .string v3] (0, 0) _ rfl (blk_put (blk_put (blk_put (blk_put (blk_put B2.out 0 _ rfl) 1 _ rfl) 2 _ rfl) 3 _ rfl) 4 _ rfl) Try.underlying27 rfl (by kernel_rfl)) rfl ?_
           exact ⟨by rw [HR.out]; rfl, below_set (below_set (below_set (below_set (below_set HB.out G2.out) G2.out) G2.out) G2.out) G2.out⟩
         · have HR := Aside0.mk (show R = (zR, 0, v5) by rw [HT3.out, if_neg h5])
           have hq1 : (v5 == 0) = false := beq_eq_false_iff_ne.mpr h5
           have hq2 : (v5 != 0) = true := by simp [h5]
           clear h5
           have hz0 : w8.cell? ⟨g2, 0, none⟩ = some (.string ⟨#[]⟩) := (blk_cell B2.out 0).trans rfl; have hz1 : w8.cell? ⟨g2, 1, none⟩ = some (.bool false) := (blk_cell B2.out 1).trans rfl; have hz2 : w8.cell? ⟨g2, 2, none⟩ = some (.int .i64 0) := (blk_cell B2.out 2).trans rfl; have hz3 : w8.cell? ⟨g2, 3, none⟩ = some (.int .i64 0) := (blk_cell B2.out 3).trans rfl; have hz4 : w8.cell? ⟨g2, 4, none⟩ = some (.string ⟨#[]⟩) := (blk_cell B2.out 4).trans rfl; have hf0 := blk_frozen B2.out 0; have hf1 := blk_frozen B2.out 1; have hf2 := blk_frozen B2.out 2; have hf3 := blk_frozen B2.out 3; have hf4 := blk_frozen B2.out 4
           go_wp2
           refine bodyPost_ret (results_ctt rfl _ _ g2 27 #[.string ⟨#[]⟩, .bool false, .int .i64 0, .int .i64 0, .string ⟨#[]⟩] (0, 0) _ rfl (blk_put (blk_put (blk_put (blk_put (blk_put B2.out 0 _ rfl) 1 _ rfl) 2 _ rfl) 3 _ rfl) 4 _ rfl) Try.underlying27 rfl (by kernel_rfl)) rfl ?_
           exact ⟨by rw [HR.out]; rfl, below_set (below_set (below_set (below_set (below_set HB.out G2.out) G2.out) G2.out) G2.out) G2.out⟩
     · have HR := Aside0.mk (show R = (zR, 0, x3) by rw [HT2.out, if_neg h3])
       have h1 : (x3 == 0) = false := beq_eq_false_iff_ne.mpr h3
       have h2 : (x3 != 0) = true := by simp [h3]
       clear h3
       have hz0 : w6.cell? ⟨g2, 0, none⟩ = some (.string ⟨#[]⟩) := (blk_cell B2.out 0).trans rfl; have hz1 : w6.cell? ⟨g2, 1, none⟩ = some (.bool false) := (blk_cell B2.out 1).trans rfl; have hz2 : w6.cell? ⟨g2, 2, none⟩ = some (.int .i64 0) := (blk_cell B2.out 2).trans rfl; have hz3 : w6.cell? ⟨g2, 3, none⟩ = some (.int .i64 0) := (blk_cell B2.out 3).trans rfl; have hz4 : w6.cell? ⟨g2, 4, none⟩ = some (.string ⟨#[]⟩) := (blk_cell B2.out 4).trans rfl; have hf0 := blk_frozen B2.out 0; have hf1 := blk_frozen B2.out 1; have hf2 := blk_frozen B2.out 2; have hf3 := blk_frozen B2.out 3; have hf4 := blk_frozen B2.out 4
       go_wp2
       refine bodyPost_ret (results_ctt rfl _ _ g2 27 #[.string ⟨#[]⟩, .bool false, .int .i64 0, .int .i64 0, .string ⟨#[]⟩] (0, 0) _ rfl (blk_put (blk_put (blk_put (blk_put (blk_put B2.out 0 _ rfl) 1 _ rfl) 2 _ rfl) 3 _ rfl) 4 _ rfl) Try.underlying27 rfl (by kernel_rfl)) rfl ?_
       exact ⟨by rw [HR.out]; rfl, below_set (below_set (below_set (below_set (below_set HB.out G2.out) G2.out) G2.out) G2.out) G2.out⟩
 · have HR := Aside0.mk (show R = (zR, 0, e1) by rw [HRR.out, if_neg he])
   have h1 : (e1 == 0) = false := beq_eq_false_iff_ne.mpr he
   have h2 : (e1 != 0) = true := by simp [he]
   clear he
   have hz0 : w2.cell? ⟨g2, 0, none⟩ = some (.string ⟨#[]⟩) := (blk_cell B2.out 0).trans rfl; have hz1 : w2.cell? ⟨g2, 1, none⟩ = some (.bool false) := (blk_cell B2.out 1).trans rfl; have hz2 : w2.cell? ⟨g2, 2, none⟩ = some (.int .i64 0) := (blk_cell B2.out 2).trans rfl; have hz3 : w2.cell? ⟨g2, 3, none⟩ = some (.int .i64 0) := (blk_cell B2.out 3).trans rfl; have hz4 : w2.cell? ⟨g2, 4, none⟩ = some (.string ⟨#[]⟩) := (blk_cell B2.out 4).trans rfl; have hf0 := blk_frozen B2.out 0; have hf1 := blk_frozen B2.out 1; have hf2 := blk_frozen B2.out 2; have hf3 := blk_frozen B2.out 3; have hf4 := blk_frozen B2.out 4
   go_wp2
   refine bodyPost_ret (results_ctt rfl _ _ g2 27 #[.string ⟨#[]⟩, .bool false, .int .i64 0, .int .i64 0, .string ⟨#[]⟩] (0, 0) _ rfl (blk_put (blk_put (blk_put (blk_put (blk_put B2.out 0 _ rfl) 1 _ rfl) 2 _ rfl) 3 _ rfl) 4 _ rfl) Try.underlying27 rfl (by kernel_rfl)) rfl ?_
   exact ⟨by rw [HR.out]; rfl, below_set (below_set (below_set (below_set (below_set HB.out G2.out) G2.out) G2.out) G2.out) G2.out⟩
end Go.Proofs.Ytkhcmddeeodbkaa.GL
