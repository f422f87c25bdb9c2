/- rank.New, Ones, Place, Len by hand. -/
import Derived.Test.YtbaopegmdllbeaaGBitsOf
import Derived.Deep.QuietTactic
import Derived.BigQuiet
import Derived.Test.YtbaopegmdllbeaaXBitx22
namespace Go.Proofs.Ytbaopegmdllbeaa.GL
open Go.RowKit Go.Proofs.YtbaopegmdllbeaaW.PrintWords Go.Proofs.YtbaopegmdllbeaaW.PrintLast Go.Proofs.YtbaopegmdllbeaaW.PrintMore Go.Proofs.Ytbaopegmdllbeaa.Q Go.Proofs.Ytbaopegmdllbeaa.XBit
set_option linter.unusedVariables false
set_option linter.unusedSimpArgs false
/-- How many of the first ones are set. -/
def cnt (L : List Bool) (i : Nat) : Nat := (L.take i).countP id
def counts (L : List Bool) (n : Nat) : List Int := (List.range (n + 1)).map fun i => (cnt L i : Int)
theorem counts_len (L : List Bool) (n : Nat) : (counts L n).length = n + 1 := by simp [counts]
theorem counts_get (L : List Bool) (n i : Nat) (h : i ≤ n) : (counts L n).getD i 0 = (cnt L i : Int) := by
  unfold counts
  rw [List.getD_eq_getElem?_getD, List.getElem?_map, List.getElem?_range (by omega)]
  rfl
theorem counts_succ (L : List Bool) (n : Nat) : counts L (n + 1) = counts L n ++ [(cnt L (n + 1) : Int)] := by
  unfold counts
  rw [List.range_succ, List.map_append]
  rfl
theorem cnt_succ (L : List Bool) (i : Nat) : cnt L (i + 1) = cnt L i + if L.getD i false = true then 1 else 0 := by
  unfold cnt
  by_cases h : i < L.length
  · rw [List.take_succ_eq_append_getElem h, List.countP_append, List.getD_eq_getElem?_getD, List.getElem?_eq_getElem h]
    simp [List.countP_cons]
  · rw [List.take_of_length_le (by omega), List.take_of_length_le (by omega), List.getD_eq_getElem?_getD, List.getElem?_eq_none (by omega)]
    simp
theorem cnt_le (L : List Bool) (i : Nat) : cnt L i ≤ i := by
  unfold cnt
  exact Nat.le_trans List.countP_le_length (List.length_take_le _ _)
theorem cnt_all (L : List Bool) (i : Nat) (h : L.length ≤ i) : cnt L i = cnt L L.length := by unfold cnt; rw [List.take_of_length_le h, List.take_length]
theorem cnt_mono (L : List Bool) {i j : Nat} (h : i ≤ j) : cnt L i ≤ cnt L j := by
  induction j with
  | zero => obtain rfl : i = 0 := by omega
            exact Nat.le_refl _
  | succ j ih =>
    by_cases e : i = j + 1
    · rw [e]; exact Nat.le_refl _
    · have := ih (by omega)
      have := cnt_succ L j
      omega
def RankAt (base : Nat) (w : World) (p : Nat) (R : List Int) : Prop := ∃ v, w.heap[p]? = some (.cells #[v] 66 (0, 0)) ∧ base ≤ p ∧ Kd.R (Kd.int .i64) 3 w base (fun k => k ≠ p) v R
def RankR (w : World) (p : Nat) (R : List Int) : Prop := ∃ A c, w.heap[p]? = some (.cells #[.slice A R.length c] 66 (0, 0)) ∧ R.length ≤ c ∧ Kd.C (Kd.int .i64) w A R.length R
theorem RankAt.reads {base p : Nat} {w : World} {R : List Int} (h : RankAt base w p R) : RankR w p R := by
  obtain ⟨v, hb, _, hR⟩ := h
  obtain ⟨A, c, rfl, hl, hC⟩ := Kd.R_reads hR
  exact ⟨A, c, hb, hl, hC⟩
theorem RankR.below {p : Nat} {w w' : World} {R : List Int} (h : RankR w p R) (hb : Below w.heap.size w w') : RankR w' p R := by
  obtain ⟨A, c, hk, hl, hC⟩ := h
  exact ⟨A, c, blk_below hk hb, hl, Kd.C_below hC hb⟩
def RNewPost (w : World) (R : List Int) (e : Ending) (w' : World) : Prop := ∃ p, e = .returned (.pointer (some ⟨p, 0, none⟩)) ∧ RankAt w.heap.size w' p R ∧ Below w.heap.size w w'
set_option maxRecDepth 1000000 in
set_option maxHeartbeats 8000000 in
theorem rank_New {w : World} {P : Option Addr} {L : List Bool} (h : BitsP w P L) (hl : L.length < 1000000000) :
    Calls Try.prog 23 #[.pointer P] w (RNewPost w (counts L L.length)) := by
  have hu := Try.underlying66
  have HL := Aside0.mk h
  have HLL := Aside0.mk hl
  have HL3 := Aside0.mk (show L.length < 1000000000000 by omega)
  have HB := Aside0.mk (Below.refl w.heap.size w)
  have hll : (L.length : Int) < 1000000000 := by omega
  clear h hl
  go_enter Try.func23, Try.ntmps23
  go_wp2_with (first
    | ((with_reducible refine gate_dst (N := 6) rfl ?_); refine Kd.R_lit (Kd.int .i64) (w0 := w) w.heap.size 3 rfl (N := 6) rfl (xs := [(0 : Int)]) (inner := [.int .i64 0]) (ok := fun _ => True) (okp := fun _ => True) ?aR (Kd.reps_scalar (enc := Value.int .i64) [(0 : Int)]) (fun _ h => h) trivial HB.out (below_size HB.out) (by decide) ?_; (case aR => first | (go_simp; done) | (go_simp; rfl)); intro v6 w6 ho hb hg hat; obtain ⟨g6, c6, rfl, _⟩ := Kd.R_form ho (by decide); have n0_ := Aside0.mk ho; have n1_ := Aside0.mk hb; clear HB ho hb hg hat; have HO := n0_; have HB := n1_; clear n0_ n1_)
    | ((with_reducible refine gate_dst (N := 8) rfl ?_); refine box_event ?hg (N := 8) ?hd (cs := #[.slice (some ⟨g6, 0, none⟩) 1 c6]) (t := 66) ?hr ?_; (case hd => rfl); (case hg => rfl); (case hr => first | (go_simp; done) | (go_simp; rfl)); intro g8 hg w8 hbox hb; have n0_ := Aside0.mk (Kd.R_mono (Kd.R_below (Kd.R_elderB HO.out g8 (Nat.le_of_eq hg.symm)) hb) (ok' := fun k => k ≠ g8) (fun _ h => h.2)); have n1_ := Aside0.mk (below_step HB.out hb); have n2_ := Aside0.mk hbox; have n3_ := Aside0.mk (show w.heap.size ≤ g8 by rw [hg]; exact HB.out.size); clear HO HB; have HO := n0_; have HB := n1_; have BK := n2_; have GE := n3_; clear n0_ n1_ n2_ n3_; clear hb hbox hg)
    | (go_at_call 16; refine (bits_Len (HL.out.below HB.out)).mono ?_; rintro e w' ⟨rfl, rfl⟩))
  go_loopw [11] (fun v11 wr => ∃ (k : Nat), v11 = .int .i64 k ∧ k ≤ L.length ∧ Aside0 (RankAt w.heap.size wr g8 (counts L k)) ∧ Aside0 (Below w.heap.size w wr)) (fun v _ => L.length - (intOf v).toNat)
  case atStart => exact ⟨0, by first | rfl | go_num, Nat.zero_le _, ⟨_, BK.out, GE.out, HO.out⟩, HB⟩
  case round =>
    clear HO HB BK
    obtain ⟨k, rfl, hk, HRA, HB⟩ := hrel
    obtain ⟨v, hbk, _, hro⟩ := HRA.out
    have BK := Aside0.mk hbk
    have HO := Aside0.mk hro
    clear HRA hbk hro
    by_cases hlt : k < L.length
    · obtain ⟨g, cap, rfl, hgb, hgl, cells, HG⟩ := Kd.R_form HO.out (by rw [counts_len]; omega)
      obtain ⟨hx, _⟩ := Kd.R_celln 0 HO.out (k : Int) (Int.natCast_nonneg _) (by rw [counts_len]; omega)
      obtain ⟨c, hc⟩ : ∃ c, c = cnt L k := ⟨_, rfl⟩
      have e : rdOf 0 (counts L k) (k : Int) = (c : Int) := by rw [hc]; exact counts_get L k k (Nat.le_refl _)
      rw [e] at hx
      replace hx : wr.cell? ⟨g, k, none⟩ = some (.int .i64 c) := hx
      have hc0 : wr.cell? ⟨g8, 0, none⟩ = some (.slice (some ⟨g, 0, none⟩) (counts L k).length cap) := (blk_cell BK.out 0).trans rfl
      have hf0 := blk_frozen BK.out 0
      have HCL := Aside0.mk (counts_len L k)
      have HLT := Aside0.mk hlt
      have hlz : (k : Int) < (L.length : Int) := by omega
      have hkl : (k : Int) < ((counts L k).length : Int) := by rw [counts_len]; omega
      have HCAP := Aside0.mk (show ((counts L k).length + 1) * 8 ≤ 140737488355328 by rw [counts_len]; have := HLL.out; omega)
      have hcb : (c : Int) < 1000000000 := by have := cnt_le L k; omega
      have hat : atB L (k : Int) = L.getD k false := by unfold atB; rw [decide_eq_true (by omega), Bool.true_and]; rfl
      have hcs := cnt_succ L k
      have hcc := counts_succ L k
      rw [← hc] at hcs
      clear e HG hgb hgl hc hk hlt
      cases hb : L.getD k false
      · rw [hb] at hat hcs
        rw [hcs] at hcc
        have HS := Aside0.mk hcc
        simp only [Bool.false_eq_true, if_false, if_true, Nat.add_zero] at HS
        clear hcs hcc hb
        go_wp2_with (first
          | (go_at_call 21; refine (bits_At _ (HL.out.below HB.out) HL3.out).mono ?_; rw [hat]; rintro e w' ⟨rfl, rfl⟩)
          | ((with_reducible refine gate_builtin (b := .append) (xs := #[.tmp 30, .tmp 32]) rfl ?_); at_builtin; refine Kd.R_append (Kd.int .i64) (w0 := w) w.heap.size rfl (.tmp 30) (.tmp 32) 33 3 (.int .i64 0) 8 rfl Try.underlying33 (by kernel_rfl) rfl (by decide) (by omega) _ (counts L k) (c : Int) [.int .i64 (c : Int)] (fun k_ => k_ ≠ g8) (fun _ => False) rfl rfl ?aP (fun _ hk => hk.elim) ?aF ?aO ?aB ?aS ?aL ?_; (case aP => exact rfl); (case aF => exact (fun k_ hk => by have := blk_lt BK.out; omega)); (case aO => exact HO.out); (case aB => exact HB.out); (case aS => exact below_size HB.out); (case aL => exact HCAP.out); intro v1 w1 ho hb hg hat1; obtain ⟨g1, cap1, rfl, _⟩ := Kd.R_form ho (by simp); have n0_ := Aside0.mk (blk_grown BK.out hg (fun e => HO.out.1 g8 e.symm rfl)); have n1_ := Aside0.mk ho; have n2_ := Aside0.mk hb; clear BK HO HB hc0 hf0 hx; have BK := n0_; have HO := n1_; have HB := n2_; clear n0_ n1_ n2_ ho hb hg hat1; have hf0 := blk_frozen BK.out 0; have hc0 : w1.cell? ⟨g8, 0, none⟩ = some (.slice (some ⟨g, 0, none⟩) (counts L k).length cap) := (blk_cell BK.out 0).trans rfl))
        refine ⟨⟨k + 1, by first | rfl | go_num, HLT.out, ⟨.slice (some ⟨g1, 0, none⟩) (counts L (k + 1)).length cap1, ?_, GE.out, ?_⟩, ⟨below_set HB.out GE.out⟩⟩, ?_⟩
        · rw [HS.out, List.length_append, List.length_singleton]
          exact blk_put BK.out 0 _ rfl
        · rw [HS.out]
          exact Kd.R_far (p := ⟨g8, 0, none⟩) HO.out (fun _ h => h) _
        · have := HLT.out
          simp [intOf]
          omega
      · rw [hb] at hat hcs
        rw [hcs] at hcc
        have HS := Aside0.mk hcc
        simp only [Bool.false_eq_true, if_false, if_true, Nat.add_zero] at HS
        clear hcs hcc hb
        go_wp2_with (first
          | (go_at_call 21; refine (bits_At _ (HL.out.below HB.out) HL3.out).mono ?_; rw [hat]; rintro e w' ⟨rfl, rfl⟩)
          | ((with_reducible refine gate_builtin (b := .append) (xs := #[.tmp 30, .tmp 32]) rfl ?_); at_builtin; refine Kd.R_append (Kd.int .i64) (w0 := w) w.heap.size rfl (.tmp 30) (.tmp 32) 33 3 (.int .i64 0) 8 rfl Try.underlying33 (by kernel_rfl) rfl (by decide) (by omega) _ (counts L k) ((c : Int) + 1) [.int .i64 ((c : Int) + 1)] (fun k_ => k_ ≠ g8) (fun _ => False) rfl rfl ?aP (fun _ hk => hk.elim) ?aF ?aO ?aB ?aS ?aL ?_; (case aP => exact rfl); (case aF => exact (fun k_ hk => by have := blk_lt BK.out; omega)); (case aO => exact HO.out); (case aB => exact HB.out); (case aS => exact below_size HB.out); (case aL => exact HCAP.out); intro v1 w1 ho hb hg hat1; obtain ⟨g1, cap1, rfl, _⟩ := Kd.R_form ho (by simp); have n0_ := Aside0.mk (blk_grown BK.out hg (fun e => HO.out.1 g8 e.symm rfl)); have n1_ := Aside0.mk ho; have n2_ := Aside0.mk hb; clear BK HO HB hc0 hf0 hx; have BK := n0_; have HO := n1_; have HB := n2_; clear n0_ n1_ n2_ ho hb hg hat1; have hf0 := blk_frozen BK.out 0; have hc0 : w1.cell? ⟨g8, 0, none⟩ = some (.slice (some ⟨g, 0, none⟩) (counts L k).length cap) := (blk_cell BK.out 0).trans rfl))
        refine ⟨⟨k + 1, by first | rfl | go_num, HLT.out, ⟨.slice (some ⟨g1, 0, none⟩) (counts L (k + 1)).length cap1, ?_, GE.out, ?_⟩, ⟨below_set HB.out GE.out⟩⟩, ?_⟩
        · rw [HS.out, List.length_append, List.length_singleton]
          exact blk_put BK.out 0 _ rfl
        · rw [HS.out]
          exact Kd.R_far (p := ⟨g8, 0, none⟩) HO.out (fun _ h => h) _
        · have := HLT.out
          simp [intOf]
          omega
    · obtain rfl : k = L.length := by omega
      go_wp2
      go_ret
      exact ⟨g8, rfl, ⟨v, BK.out, GE.out, HO.out⟩, HB.out⟩
end Go.Proofs.Ytbaopegmdllbeaa.GL
