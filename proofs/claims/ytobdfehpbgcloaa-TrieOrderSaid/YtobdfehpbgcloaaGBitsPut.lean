/- bits.Put by hand: a bit that is set; all four ways together. -/
import Derived.Test.YtobdfehpbgcloaaGBits
namespace Go.Proofs.Ytobdfehpbgcloaa.GL
open Go.RowKit Go.Proofs.YtobdfehpbgcloaaW.PrintWords Go.Proofs.YtobdfehpbgcloaaW.PrintLast Go.Proofs.YtobdfehpbgcloaaW.PrintMore Go.Proofs.Ytobdfehpbgcloaa.Q Go.Proofs.Ytobdfehpbgcloaa.XTri
set_option linter.unusedVariables false
set_option linter.unusedSimpArgs false
set_option maxRecDepth 1000000 in
set_option maxHeartbeats 8000000 in
theorem put_old1_core (w : World) (p g m cap n i r : Nat) (c : Int) (hi0 : (n : Int) / 8 = (i : Int)) (hmr : (n : Int) % 8 = (r : Int)) (hmod : ((r : Int) == 0) = false) (hpg : p ≠ g) (hgp : g ≠ p)
    (hc0 : w.cell? ⟨p, 0, none⟩ = some (.slice (some ⟨g, 0, none⟩) m cap)) (hc1 : w.cell? ⟨p, 1, none⟩ = some (.int .i64 n)) (hf1 : w.frozen? ⟨p, 1, none⟩ = false)
    (hx : w.cell? ⟨g, i, none⟩ = some (.int .u8 c)) (hf : w.frozen? ⟨g, i, none⟩ = false) (hq : (i : Int) < (m : Int)) (hq2 : i < m)
    (hwi : wrap64 (i : Int) = (i : Int)) (hwj : IntKind.i64.wrap (i : Int) = (i : Int)) (hsub : wrap64 (7 - (r : Int)) = ((7 - r : Nat) : Int)) (hsub2 : IntKind.i64.wrap (7 - (r : Int)) = ((7 - r : Nat) : Int)) :
    Calls Try.prog 19 #[.pointer (some ⟨p, 0, none⟩), .bool true] w fun e w' => e = .returned (.tuple #[]) ∧ w' = ((w.setCell ⟨g, i, none⟩ (.int .u8 (Go.bits .or .u8 c (2 ^ (7 - r) % 256)))).setCell ⟨p, 1, none⟩ (.int .i64 (wrap64 ((n : Int) + 1)))).drew := by
  have hu := Try.underlying47
  go_enter Try.func19, Try.ntmps19
  go_wp2
  go_region
  all_goals (go_wp2; go_end0; exact ⟨rfl, rfl⟩)
set_option maxRecDepth 1000000 in
set_option maxHeartbeats 8000000 in
theorem bits_Put_old1 (base : Nat) (w : World) (p : Nat) (v : Value) (L : List Bool) (h : BitsAt base w p v L) (hl : L.length < 1000000000000) (hm : L.length % 8 ≠ 0) :
    Calls Try.prog 19 #[.pointer (some ⟨p, 0, none⟩), .bool true] w (PutPost base w p (L ++ [true])) := by
  obtain ⟨hBK, hp, hR⟩ := h
  have hlt := pack_idx L hm
  obtain ⟨g, cap, rfl, hgb, hgl, cells, HG⟩ := Kd.R_form hR (Nat.lt_of_le_of_lt (Nat.zero_le _) hlt)
  obtain ⟨hx, hf⟩ := Kd.R_celln 0 hR ((L.length / 8 : Nat) : Int) (Int.natCast_nonneg _) (Int.ofNat_lt.2 hlt)
  have hgp : g ≠ p := hR.1 g rfl
  have hRS := (Kd.R_putg hR ((L.length / 8 : Nat) : Int) (Go.bits .or .u8 ((pack L).getD (L.length / 8) 0) (2 ^ (7 - L.length % 8) % 256))).1
  have hi8 : L.length / 8 < 1000000000000 := Nat.lt_of_le_of_lt (Nat.div_le_self _ _) hl
  have hr8 : L.length % 8 < 8 := Nat.mod_lt _ (by decide)
  have hW : wrap64 ((L.length : Int) + 1) = ((L ++ [true]).length : Int) := by rw [w64 (by omega) (by omega), List.length_append, List.length_singleton]; rfl
  refine (put_old1_core w p g (pack L).length cap L.length (L.length / 8) (L.length % 8) ((pack L).getD (L.length / 8) 0) rfl rfl (beq_eq_false_iff_ne.mpr (by omega)) (fun e => hgp e.symm) hgp
    ((blk_cell hBK 0).trans rfl) ((blk_cell hBK 1).trans rfl) (blk_frozen hBK 1) hx hf (Int.ofNat_lt.2 hlt) hlt (w64_nat hi8) ((i64_w _).trans (w64_nat hi8)) (w64_seven hr8) ((i64_w _).trans (w64_seven hr8))).mono ?_
  rintro e w' ⟨rfl, rfl⟩
  refine ⟨rfl, ⟨.slice (some ⟨g, 0, none⟩) (pack L).length cap, ⟨?_, hp, ?_⟩⟩, ((((Below.refl base w).setCell (p := ⟨g, L.length / 8, none⟩) hgb _).setCell (p := ⟨p, 1, none⟩) hp _)).drew, ?_⟩
  · rw [hW]
    exact blk_drew (blk_put (blk_far hBK (fun e => hgp e.symm) _) 1 _ rfl)
  · rw [pack_old1 L hm]
    exact Kd.R_drew (Kd.R_far (p := ⟨p, 1, none⟩) hRS (fun _ h => h) _)
  · exact keep_set (keep_set (KeepT.refl w) HG (.inl rfl) _) hBK (.inr rfl) _
theorem keep_row {w W : World} {base g n c i : Nat} {ok : Nat → Prop} {v u : Value} {xs : List Int} (h : Kd.R (Kd.int .u8) 5 w base ok v xs) (hat : (Value.slice (some ⟨g, 0, none⟩) n c).ownBlock = v.ownBlock ∨ ∃ b, (Value.slice (some ⟨g, 0, none⟩) n c).ownBlock = some b ∧ w.heap.size ≤ b) (hk : KeepT w W) : KeepT w (W.setCell ⟨g, i, none⟩ u) := by
  rcases hat with hat | ⟨b, hb, hle⟩
  · obtain ⟨inner, ho⟩ := Kd.R_own h
    obtain ⟨cells, hc⟩ := own_typed ho g (by rw [← hat]; rfl)
    exact keep_set hk hc (.inl rfl) u
  · have e : g = b := by injection hb
    exact keep_setn hk (by omega) u
theorem last_cell {w1 : World} {base g i cap : Nat} {ok : Nat → Prop} {P : List Int} (ho : Kd.R (Kd.int .u8) 5 w1 base ok (.slice (some ⟨g, 0, none⟩) (P.length + 1) cap) (P ++ [0])) (hi : i = P.length) : w1.cell? ⟨g, i, none⟩ = some (.int .u8 0) ∧ w1.frozen? ⟨g, i, none⟩ = false := by
  obtain ⟨hx, hf⟩ := Kd.R_celln 0 ho (i : Int) (Int.natCast_nonneg _) (by omega)
  refine ⟨?_, hf⟩
  have e : rdOf 0 (P ++ [0]) (i : Int) = 0 := by rw [hi]; simp [rdOf]
  rw [e] at hx
  exact hx
set_option maxRecDepth 1000000 in
set_option maxHeartbeats 8000000 in
theorem bits_Put_new1 (base : Nat) (w : World) (p : Nat) (v : Value) (L : List Bool) (h : BitsAt base w p v L) (hb : base ≤ w.heap.size) (hl : L.length < 1000000000000) (hm : L.length % 8 = 0) :
    Calls Try.prog 19 #[.pointer (some ⟨p, 0, none⟩), .bool true] w (PutPost base w p (L ++ [true])) := by
  have hu := Try.underlying47
  obtain ⟨hBK, hp, hR⟩ := h
  obtain ⟨n, hn⟩ : ∃ n, n = L.length := ⟨_, rfl⟩
  obtain ⟨i, hi⟩ : ∃ i, i = (pack L).length := ⟨_, rfl⟩
  have hni : n = 8 * i := by rw [hi, hn, pack_len]; omega
  have hmod : ((n : Int) % 8 == 0) = true := beq_iff_eq.mpr (by omega)
  have hmr : (n : Int) % 8 = 0 := by omega
  have hi0 : (n : Int) / 8 = (i : Int) := by omega
  have hi8 : i < 1000000000000 := by omega
  have hwi := w64_nat hi8
  have hwj := (i64_w _).trans hwi
  have hq : (i : Int) < ((pack L).length : Int) + 1 := by omega
  have hq2 : i < (pack L).length + 1 := by omega
  have BK := Aside0.mk hBK
  have HK0 := Aside0.mk hBK
  have HO := Aside0.mk hR
  have HP := Aside0.mk hp
  have HBASE := Aside0.mk hb
  have HB := Aside0.mk (Below.refl base w)
  have hc0 : w.cell? ⟨p, 0, none⟩ = some v := (blk_cell hBK 0).trans rfl
  have hc1 : w.cell? ⟨p, 1, none⟩ = some (.int .i64 n) := by rw [hn]; exact (blk_cell hBK 1).trans rfl
  have hf0 := blk_frozen hBK 0
  have HL := Aside0.mk (show ((pack L).length + 1) * 1 ≤ 140737488355328 by rw [← hi]; omega)
  have HW := Aside0.mk (show wrap64 ((n : Int) + 1) = ((L ++ [true]).length : Int) by rw [hn, w64 (by omega) (by omega), List.length_append, List.length_singleton]; rfl)
  have HPK := Aside0.mk (pack_new L hm).2
  have HI := Aside0.mk hi
  have HN := Aside0.mk hn
  have hlen : (pack L ++ [0]).length = (pack L).length + 1 := by rw [List.length_append, List.length_singleton]
  have HLEN := Aside0.mk hlen
  clear hBK hp hR hb hl hm hi hn hni hi8 hlen
  go_enter Try.func19, Try.ntmps19
  go_wp2_with (first
    | ((with_reducible refine gate_builtin (b := .append) (xs := #[.tmp 16, .tmp 17]) rfl ?_); at_builtin; refine Kd.R_append (Kd.int .u8) (w0 := w) base rfl (.tmp 16) (.tmp 17) 45 5 (.int .u8 0) 1 rfl Try.underlying45 (by kernel_rfl) rfl (by decide) (by omega) v (pack L) 0 [.int .u8 0] (fun k_ => k_ ≠ p) (fun _ => False) rfl rfl ?aP (fun _ hk => hk.elim) ?aF ?aO ?aB ?aS ?aL ?_; (case aP => exact rfl); (case aF => exact (fun k_ hk => by have := blk_lt BK.out; omega)); (case aO => exact HO.out); (case aB => exact HB.out); (case aS => exact HBASE.out); (case aL => exact HL.out); intro v1 w1 ho hb hg hat; obtain ⟨g1, cap1, rfl, hgb1, _, cells1, hg1⟩ := Kd.R_form ho (by simp); rw [HLEN.out] at ho; have hgp : g1 ≠ p := ho.1 g1 rfl; have hpg : p ≠ g1 := fun e => hgp e.symm; obtain ⟨hx, hf⟩ := last_cell ho HI.out; have HRS := Aside0.mk (Kd.R_putg ho (i : Int) 128).1; have n0_ := Aside0.mk (blk_grown BK.out hg (fun e => HO.out.1 p e.symm rfl)); have n1_ := Aside0.mk ho; have n2_ := Aside0.mk hb; have HKT := Aside0.mk (keep_grown HO.out hg); have HGB := Aside0.mk hgb1; have HKS := Aside0.mk (fun {W : World} (h_ : KeepT w W) => keep_row HO.out hat h_ (i := i) (u := .int .u8 128)); clear BK HO HB hc0 hc1 hf0; have BK := n0_; have HO := n1_; have HB := n2_; clear n0_ n1_ n2_ ho hb hg hat hgb1 hg1; have hc0 : w1.cell? ⟨p, 0, none⟩ = some v := (blk_cell BK.out 0).trans rfl; have hc1 : w1.cell? ⟨p, 1, none⟩ = some (.int .i64 n) := (by rw [HN.out]; exact (blk_cell BK.out 1).trans rfl); have hf0 := blk_frozen BK.out 0; have hf1 := blk_frozen BK.out 1))
  go_region
  all_goals
    go_wp2
    go_end0
    have hR1 := (Kd.R_putg (Kd.R_far (p := ⟨p, 0, none⟩) HO.out (fun _ h => h) (.slice (some ⟨g1, 0, none⟩) ((pack L).length + 1) cap1)) (i : Int) 128).1
    have hset : (pack L ++ [0]).set (i : Int).toNat 128 = pack L ++ [128] := by
      rw [Int.toNat_natCast, HI.out, List.set_append_right _ _ (Nat.le_refl _), Nat.sub_self]
      rfl
    rw [hset, ← HPK.out] at hR1
    rw [show Go.bits .or .u8 0 128 = 128 from rfl, HW.out]
    refine ⟨rfl, ⟨.slice (some ⟨g1, 0, none⟩) ((pack L).length + 1) cap1, ⟨?_, HP.out, ?_⟩⟩, (((HB.out.setCell (p := ⟨p, 0, none⟩) HP.out _).setCell (p := ⟨g1, i, none⟩) HGB.out _).setCell (p := ⟨p, 1, none⟩) HP.out _).drew, ?_⟩
    · exact blk_drew (blk_put (blk_far (blk_put BK.out 0 _ rfl) hpg _) 1 _ rfl)
    · exact Kd.R_drew (Kd.R_far (p := ⟨p, 1, none⟩) hR1 (fun _ h => h) _)
    · refine keep_set (w1 := (w1.setCell ⟨p, 0, none⟩ _).setCell ⟨g1, i, none⟩ _) ?_ HK0.out (.inr rfl) _
      have hq : KeepT w (w1.setCell ⟨p, 0, none⟩ (.slice (some ⟨g1, 0, none⟩) ((pack L).length + 1) cap1)) := keep_set HKT.out HK0.out (.inr rfl) _
      exact HKS.out hq
/-- One bit more. -/
theorem bits_Put {base : Nat} {w : World} {p : Nat} {L : List Bool} (x : Bool) (h : BO base w p L) (hb : base ≤ w.heap.size) (hl : L.length < 1000000000000) :
    Calls Try.prog 19 #[.pointer (some ⟨p, 0, none⟩), .bool x] w (PutPost base w p (L ++ [x])) := by
  obtain ⟨v, h⟩ := h
  by_cases hm : L.length % 8 = 0
  · cases x
    · exact bits_Put_new0 base w p v L h hb hl hm
    · exact bits_Put_new1 base w p v L h hb hl hm
  · cases x
    · exact bits_Put_old0 base w p v L h hl hm
    · exact bits_Put_old1 base w p v L h hl hm
end Go.Proofs.Ytobdfehpbgcloaa.GL
