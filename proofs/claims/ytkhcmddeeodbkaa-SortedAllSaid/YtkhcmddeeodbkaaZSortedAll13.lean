import Derived.Test.YtkhcmddeeodbkaaZSortedAll5
-- Own texts and, of the words that the kit's print program wrote for this claim, those that are needed here: put together by wip/prune.py.
set_option linter.unusedSimpArgs false
set_option linter.unusedVariables false
namespace Go.Proofs.Ytkhcmddeeodbkaa.GL
open Go.RowKit Go.Proofs.YtkhcmddeeodbkaaW.PrintWords Go.Proofs.YtkhcmddeeodbkaaW.PrintLast Go.Proofs.YtkhcmddeeodbkaaW.PrintMore Go.Proofs.Ytkhcmddeeodbkaa.Q Go.Proofs.Ytkhcmddeeodbkaa.XSor
theorem w64_nat {i : Nat} (h : i < 1000000000000) : wrap64 (i : Int) = (i : Int) := w64 (by omega) (by omega)
theorem w64_seven {r : Nat} (h : r < 8) : wrap64 (7 - (r : Int)) = ((7 - r : Nat) : Int) := by
 have e : (7 - (r : Int)) = ((7 - r : Nat) : Int) := by omega
 rw [e]
 exact w64_nat (by omega)
def byteOf : List Bool → Nat → Int
 | [], _ => 0
 | b :: r, k => (if b = true then 2 ^ (7 - k) else 0) + byteOf r (k + 1)
def pack (L : List Bool) : List Int := (List.range ((L.length + 7) / 8)).map fun j => byteOf ((L.drop (8 * j)).take 8) 0
theorem pack_len (L : List Bool) : (pack L).length = (L.length + 7) / 8 := by unfold pack; simp
theorem pack_get (M : List Bool) (i : Nat) : (pack M)[i]? = if i < (M.length + 7) / 8 then some (byteOf ((M.drop (8 * i)).take 8) 0) else none := by
 unfold pack
 rw [List.getElem?_map]
 by_cases hi : i < (M.length + 7) / 8
 · rw [List.getElem?_range hi, if_pos hi]; rfl
 · rw [List.getElem?_eq_none (by simpa using hi), if_neg hi]; rfl
theorem pack_idx (L : List Bool) (h : L.length % 8 ≠ 0) : L.length / 8 < (pack L).length := by rw [pack_len]; omega
theorem pack_new (L : List Bool) (h : L.length % 8 = 0) : pack (L ++ [false]) = pack L ++ [0] ∧ pack (L ++ [true]) = pack L ++ [128] := by
 have hl : ∀ x, ((L ++ [x]).length + 7) / 8 = (L.length + 7) / 8 + 1 := fun x => by rw [List.length_append, List.length_singleton]; omega
 have hm : (L.length + 7) / 8 = L.length / 8 := by omega
 have key : ∀ x, pack (L ++ [x]) = pack L ++ [byteOf [x] 0] := by
  intro x
  unfold pack
  rw [hl x, List.range_succ, List.map_append]
  congr 1
  · refine List.map_congr_left fun j hj => ?_
    have hj := List.mem_range.1 hj
    congr 1
    rw [List.drop_append_of_le_length (by omega), List.take_append_of_le_length (by rw [List.length_drop]; omega)]
  · have e : 8 * ((L.length + 7) / 8) = L.length := by omega
    rw [List.map_singleton, e, List.drop_left]
    rfl
 exact ⟨key false, key true⟩
theorem byteOf_snoc : ∀ (l : List Bool) (b : Bool) (k : Nat), byteOf (l ++ [b]) k = byteOf l k + (if b = true then 2 ^ (7 - (k + l.length)) else 0) := by
 intro l
 induction l with
 | nil => intro b k; simp [byteOf]
 | cons x r ih =>
   intro b k
   simp only [List.cons_append, byteOf, ih]
   rw [show k + 1 + r.length = k + (x :: r).length by simp only [List.length_cons]; omega]
   omega
theorem pack_old (L : List Bool) (x : Bool) (h : L.length % 8 ≠ 0) : pack (L ++ [x]) = (pack L).set (L.length / 8) ((pack L).getD (L.length / 8) 0 + (if x = true then 2 ^ (7 - L.length % 8) else 0)) := by
 have hl : ((L ++ [x]).length + 7) / 8 = (L.length + 7) / 8 := by rw [List.length_append, List.length_singleton]; omega
 have hlt : L.length / 8 < (L.length + 7) / 8 := by omega
 apply List.ext_getElem?
 intro j
 rw [pack_get, hl, List.getElem?_set, pack_len]
 by_cases hj : j < (L.length + 7) / 8
 · rw [if_pos hj]
   by_cases e : L.length / 8 = j
   · subst e
     rw [if_pos rfl, if_pos hlt, List.getD_eq_getElem?_getD, pack_get, if_pos hlt]
     have hd : (L ++ [x]).drop (8 * (L.length / 8)) = L.drop (8 * (L.length / 8)) ++ [x] := List.drop_append_of_le_length (by omega)
     have h1 : (L.drop (8 * (L.length / 8))).length = L.length % 8 := by rw [List.length_drop]; omega
     rw [hd, List.take_of_length_le (by rw [List.length_append, h1, List.length_singleton]; omega), byteOf_snoc, h1, List.take_of_length_le (by rw [h1]; omega)]
     simp
   · rw [if_neg e, pack_get, if_pos hj]
     congr 2
     rw [List.drop_append_of_le_length (by omega), List.take_append_of_le_length (by rw [List.length_drop]; omega)]
 · rw [if_neg hj, if_neg (by omega), pack_get, if_neg hj]
theorem pack_old0 (L : List Bool) (h : L.length % 8 ≠ 0) : pack (L ++ [false]) = pack L := by
 rw [pack_old L false h]
 apply List.ext_getElem?
 intro j
 rw [List.getElem?_set]
 split
 · rename_i e
   subst e
   split
   · rename_i h2
     simp [List.getD_eq_getElem?_getD, h2]
   · rename_i h2
     rw [List.getElem?_eq_none (by omega)]
 · rfl
theorem byteOf_mod : ∀ (l : List Bool) (k : Nat), k + l.length ≤ 8 → 0 ≤ byteOf l k ∧ byteOf l k + 2 ^ (8 - k - l.length) ≤ 2 ^ (8 - k) ∧ byteOf l k % 2 ^ (8 - k - l.length) = 0 := by
 intro l
 induction l with
 | nil => intro k hk; simp [byteOf]
 | cons b r ih =>
   intro k hk
   simp only [List.length_cons] at hk ⊢
   obtain ⟨h0, h1, h2⟩ := ih (k + 1) (by omega)
   have e : 8 - (k + 1) - r.length = 8 - k - (r.length + 1) := by omega
   rw [e] at h1 h2
   have p : (2 : Int) ^ (8 - k) = 2 ^ (7 - k) + 2 ^ (7 - k) := by rw [show 8 - k = (7 - k) + 1 by omega, Int.pow_succ]; omega
   have e7 : 8 - (k + 1) = 7 - k := by omega
   rw [e7] at h1
   have d : (2 : Int) ^ (7 - k) % 2 ^ (8 - k - (r.length + 1)) = 0 := by
    rw [show 7 - k = (8 - k - (r.length + 1)) + r.length by omega, Int.pow_add]
    exact Int.mul_emod_right _ _
   have q : (0 : Int) < 2 ^ (7 - k) := Int.pow_pos (by decide)
   simp only [byteOf]
   cases b
   · simp only [Bool.false_eq_true, if_false, Int.zero_add]
     exact ⟨h0, by omega, h2⟩
   · simp only [if_true]
     refine ⟨by omega, by omega, ?_⟩
     rw [Int.add_emod, d, h2]
     simp
theorem or8 (r : Nat) (hr : r < 8) {c : Int} (h0 : 0 ≤ c) (h1 : c < 256) (h2 : c % 2 ^ (8 - r) = 0) : Go.bits .or .u8 c (2 ^ (7 - r) % 256) = c + 2 ^ (7 - r) := by
 have e : (2 : Int) ^ (7 - r) % 256 = 2 ^ (7 - r) := by
  have : r = 0 ∨ r = 1 ∨ r = 2 ∨ r = 3 ∨ r = 4 ∨ r = 5 ∨ r = 6 ∨ r = 7 := by omega
  rcases this with rfl | rfl | rfl | rfl | rfl | rfl | rfl | rfl <;> rfl
 rw [e]
 exact bits_join .u8 8 (by decide) wraps_u8 (8 - r) c (2 ^ (7 - r)) h0 h2 h1 (Int.le_of_lt (Int.pow_pos (by decide))) (by rw [show 8 - r = (7 - r) + 1 by omega, Int.pow_succ]; have : (0 : Int) < 2 ^ (7 - r) := Int.pow_pos (by decide); omega) (by omega)
theorem pack_last (L : List Bool) (h : L.length % 8 ≠ 0) : 0 ≤ (pack L).getD (L.length / 8) 0 ∧ (pack L).getD (L.length / 8) 0 < 256 ∧ (pack L).getD (L.length / 8) 0 % 2 ^ (8 - L.length % 8) = 0 := by
 have hlt : L.length / 8 < (L.length + 7) / 8 := by omega
 have h1 : (L.drop (8 * (L.length / 8))).length = L.length % 8 := by rw [List.length_drop]; omega
 rw [List.getD_eq_getElem?_getD, pack_get, if_pos hlt, List.take_of_length_le (by rw [h1]; omega)]
 have := byteOf_mod (L.drop (8 * (L.length / 8))) 0 (by rw [h1]; omega)
 rw [h1] at this
 simp only [Nat.sub_zero, Option.getD_some] at this ⊢
 have q : (0 : Int) < 2 ^ (8 - L.length % 8) := Int.pow_pos (by decide)
 refine ⟨this.1, ?_, this.2.2⟩
 have := this.2.1
 have e : (2 : Int) ^ 8 = 256 := rfl
 omega
theorem pack_old1 (L : List Bool) (h : L.length % 8 ≠ 0) : pack (L ++ [true]) = (pack L).set (L.length / 8) (Go.bits .or .u8 ((pack L).getD (L.length / 8) 0) (2 ^ (7 - L.length % 8) % 256)) := by
 obtain ⟨h0, h1, h2⟩ := pack_last L h
 rw [pack_old L true h, or8 (L.length % 8) (by omega) h0 h1 h2]
 simp
def BitsAt (base : Nat) (w : World) (p : Nat) (v : Value) (L : List Bool) : Prop :=
 w.heap[p]? = some (.cells #[v, .int .i64 L.length] 101 (0, 0)) ∧ base ≤ p ∧ Kd.R (Kd.int .u8) 5 w base (fun k => k ≠ p) v (pack L)
def BO (base : Nat) (w : World) (p : Nat) (L : List Bool) : Prop := ∃ v, BitsAt base w p v L
def KeepT (w w' : World) : Prop := w.heap.size ≤ w'.heap.size ∧ ∀ (k : Nat) (cells : Array Value) (t : Nat) r, w.heap[k]? = some (Obj.cells cells t r) → t ≠ 5 → t ≠ 101 → w'.heap[k]? = some (Obj.cells cells t r)
theorem KeepT.refl (w : World) : KeepT w w := ⟨Nat.le_refl _, fun _ _ _ _ h _ _ => h⟩
theorem KeepT.trans {a b c : World} (h : KeepT a b) (k : KeepT b c) : KeepT a c := ⟨Nat.le_trans h.1 k.1, fun i cs t r hi h5 h35 => k.2 i cs t r (h.2 i cs t r hi h5 h35) h5 h35⟩
theorem KeepT.below {w w' : World} (h : Below w.heap.size w w') : KeepT w w' := ⟨h.size, fun k cs t r hk _ _ => (h.block k (blk_lt hk)).trans hk⟩
theorem KeepT.R {α : Type} {d : Kd α} {e base : Nat} {ok : Nat → Prop} {w w' : World} {v : Value} {xs : List α} (hk : KeepT w w') (h : d.R e w base ok v xs) (hE : ∀ q, q ∈ e :: d.E → q ≠ 5 ∧ q ≠ 101) : d.R e w' base ok v xs :=
 Kd.R_mono (Kd.R_move (Kd.R_bound h) (fun k hb => by
  obtain ⟨_, _, _, q, hq, cells, hc⟩ := hb
  rw [hc]
  exact hk.2 k cells q (0, 0) hc (hE q hq).1 (hE q hq).2)) (fun _ hk => hk.1)
theorem BitsAt.below {base p : Nat} {w w' : World} {v : Value} {L : List Bool} (h : BitsAt base w p v L) (hb : Below w.heap.size w w') : BitsAt base w' p v L := ⟨blk_below h.1 hb, h.2.1, Kd.R_below h.2.2 hb⟩
theorem BO.below {base p : Nat} {w w' : World} {L : List Bool} (h : BO base w p L) (hb : Below w.heap.size w w') : BO base w' p L := h.elim fun v h => ⟨v, h.below hb⟩
def BitsR (w : World) (p : Nat) (L : List Bool) : Prop := ∃ A c, w.heap[p]? = some (.cells #[.slice A (pack L).length c, .int .i64 L.length] 101 (0, 0)) ∧ (pack L).length ≤ c ∧ Kd.C (Kd.int .u8) w A (pack L).length (pack L)
theorem BO.reads {base p : Nat} {w : World} {L : List Bool} (h : BO base w p L) : BitsR w p L := by
 obtain ⟨v, hb, _, hR⟩ := h
 obtain ⟨A, c, rfl, hl, hC⟩ := Kd.R_reads hR
 exact ⟨A, c, hb, hl, hC⟩
theorem BitsR.below {p : Nat} {w w' : World} {L : List Bool} (h : BitsR w p L) (hb : Below w.heap.size w w') : BitsR w' p L := by
 obtain ⟨A, c, hk, hl, hC⟩ := h
 exact ⟨A, c, blk_below hk hb, hl, Kd.C_below hC hb⟩
def BitsP (w : World) (P : Option Addr) (L : List Bool) : Prop := (P = none ∧ L = []) ∨ ∃ p, P = some ⟨p, 0, none⟩ ∧ BitsR w p L
theorem BitsP.below {w w' : World} {P : Option Addr} {L : List Bool} (h : BitsP w P L) (hb : Below w.heap.size w w') : BitsP w' P L := by
 rcases h with h | ⟨p, hp, h⟩
 · exact .inl h
 · exact .inr ⟨p, hp, h.below hb⟩
theorem BO.toP {base p : Nat} {w : World} {L : List Bool} (h : BO base w p L) : BitsP w (some ⟨p, 0, none⟩) L := .inr ⟨p, rfl, h.reads⟩
theorem BitsP.nil (w : World) : BitsP w none [] := .inl ⟨rfl, rfl⟩
theorem BitsP.drewN {w : World} {P : Option Addr} {L : List Bool} (h : BitsP w P L) (n : Nat) : BitsP (w.drewN n) P L := h.below (pw_below_drewN (Below.refl _ _) n)
set_option maxRecDepth 1000000 in
set_option maxHeartbeats 4000000 in
theorem bits_Len {w : World} {P : Option Addr} {L : List Bool} (h : BitsP w P L) :
    Calls Try.prog 90 #[.pointer P] w fun e w' => e = .returned (.int .i64 L.length) ∧ w = w' := by
 rcases h with ⟨rfl, rfl⟩ | ⟨p, rfl, A, c, hBK, _⟩
 · go_enter Try.func90, Try.ntmps90
   go_wp2
   go_ret
   exact ⟨rfl, rfl⟩
 · have hu := Try.underlying101
   have hc1 : w.cell? ⟨p, 1, none⟩ = some (.int .i64 L.length) := (blk_cell hBK 1).trans rfl
   clear hBK
   go_enter Try.func90, Try.ntmps90
   go_wp2
   go_ret
   exact ⟨rfl, rfl⟩
def PutPost (base : Nat) (w : World) (p : Nat) (M : List Bool) (e : Ending) (w' : World) : Prop := e = .returned (.tuple #[]) ∧ BO base w' p M ∧ Below base w w' ∧ KeepT w w'
theorem keep_grown {w w1 : World} {base : Nat} {ok : Nat → Prop} {v : Value} {xs : List Int} (h : Kd.R (Kd.int .u8) 5 w base ok v xs) (hg : w.grownBy w1 v.ownBlock) : KeepT w w1 := by
 refine ⟨hg.size, fun k cs t r hk h5 _ => (hg.block k (blk_lt hk) fun e => ?_).trans hk⟩
 obtain ⟨inner, ho⟩ := Kd.R_own h
 obtain ⟨cells, hc⟩ := own_typed ho k e.symm
 rw [hc] at hk
 injection hk with hk
 injection hk with _ hk
 exact h5 hk.symm
theorem keep_set {w w1 : World} (h : KeepT w w1) {p i : Nat} {cs : Array Value} {t : Nat} (hb : w.heap[p]? = some (.cells cs t (0, 0))) (ht : t = 5 ∨ t = 101) (u : Value) : KeepT w (w1.setCell ⟨p, i, none⟩ u) := by
 refine ⟨Nat.le_trans h.1 (by simp [World.setCell]), fun k cs' t' r hk h5 h35 => ?_⟩
 rw [Below.heap_setCell w1 ⟨p, i, none⟩ u k (fun e => ?_)]
 · exact h.2 k cs' t' r hk h5 h35
 · rw [show k = p from e, hb] at hk
   injection hk with hk
   injection hk with _ hk
   rcases ht with rfl | rfl
   · exact h5 hk.symm
   · exact h35 hk.symm
theorem keep_setn {w w1 : World} (h : KeepT w w1) {p i : Nat} (hp : w.heap.size ≤ p) (u : Value) : KeepT w (w1.setCell ⟨p, i, none⟩ u) := by
 refine ⟨Nat.le_trans h.1 (by simp [World.setCell]), fun k cs' t' r hk h5 h35 => ?_⟩
 rw [Below.heap_setCell w1 ⟨p, i, none⟩ u k (fun e => ?_)]
 · exact h.2 k cs' t' r hk h5 h35
 · have := blk_lt hk
   rw [show k = p from e] at this
   omega
set_option maxRecDepth 1000000 in
set_option maxHeartbeats 8000000 in
theorem bits_Put_new0 (base : Nat) (w : World) (p : Nat) (v : Value) (L : List Bool) (h : BitsAt base w p v L) (hb : base ≤ w.heap.size) (hl : L.length < 1000000000000) (hm : L.length % 8 = 0) :
    Calls Try.prog 89 #[.pointer (some ⟨p, 0, none⟩), .bool false] w (PutPost base w p (L ++ [false])) := by
 have hu := Try.underlying101
 obtain ⟨hBK, hp, hR⟩ := h
 have BK := Aside0.mk hBK
 have HK0 := Aside0.mk hBK
 have HO := Aside0.mk hR
 have HP := Aside0.mk hp
 have HBASE := Aside0.mk hb
 have HB := Aside0.mk (Below.refl base w)
 have hc0 : w.cell? ⟨p, 0, none⟩ = some v := (blk_cell hBK 0).trans rfl
 have hc1 : w.cell? ⟨p, 1, none⟩ = some (.int .i64 L.length) := (blk_cell hBK 1).trans rfl
 have hf0 := blk_frozen hBK 0
 have hmod : ((L.length : Int) % 8 == 0) = true := beq_iff_eq.mpr (by omega)
 have HL := Aside0.mk (show ((pack L).length + 1) * 1 ≤ 140737488355328 by rw [pack_len]; omega)
 have HW := Aside0.mk (show wrap64 ((L.length : Int) + 1) = ((L ++ [false]).length : Int) by rw [w64 (by omega) (by omega), List.length_append, List.length_singleton]; omega)
 have HPK := Aside0.mk (pack_new L hm).1
 clear hBK hp hR hb hl hm
 go_enter Try.func89, Try.ntmps89
 go_wp2_with (first
  | ((with_reducible refine gate_builtin (b := .append) (xs := #[.tmp 16, .tmp 17]) rfl ?_); at_builtin; refine Kd.R_append (Kd.int .u8) (w0 := w) base rfl (.tmp 16) (.tmp 17) 40 5 (.int .u8 0) 1 rfl Try.underlying40 (by kernel_rfl) rfl (by decide) (by omega) v (pack L) 0 [.int .u8 0] (fun k_ => k_ ≠ p) (fun _ => False) rfl rfl ?aP (fun _ hk => hk.elim) ?aF ?aO ?aB ?aS ?aL ?_; (case aP => exact rfl); (case aF => exact (fun k_ hk => by have := blk_lt BK.out; omega)); (case aO => exact HO.out); (case aB => exact HB.out); (case aS => exact HBASE.out); (case aL => exact HL.out); intro v1 w1 ho hb hg hat; obtain ⟨g1, cap1, rfl, _⟩ := Kd.R_form ho (by simp); have n0_ := Aside0.mk (blk_grown BK.out hg (fun e => HO.out.1 p e.symm rfl)); have n1_ := Aside0.mk ho; have n2_ := Aside0.mk hb; have HKT := Aside0.mk (keep_grown HO.out hg); clear BK HO HB hc0 hc1 hf0; have BK := n0_; have HO := n1_; have HB := n2_; clear n0_ n1_ n2_ ho hb hg hat; have hc0 : w1.cell? ⟨p, 0, none⟩ = some v := (blk_cell BK.out 0).trans rfl; have hc1 : w1.cell? ⟨p, 1, none⟩ = some (.int .i64 L.length) := (blk_cell BK.out 1).trans rfl; have hf0 := blk_frozen BK.out 0; have hf1 := blk_frozen BK.out 1))
 go_end0
 have hle : (pack L ++ [0]).length = (pack L).length + 1 := by simp
 rw [hle] at HO
 refine ⟨rfl, ⟨.slice (some ⟨g1, 0, none⟩) ((pack L).length + 1) cap1, ⟨?_, HP.out, ?_⟩⟩, (HB.out.setCell (p := ⟨p, 0, none⟩) HP.out _).setCell (p := ⟨p, 1, none⟩) HP.out _, keep_set (keep_set HKT.out HK0.out (.inr rfl) _) HK0.out (.inr rfl) _⟩
 · rw [HW.out]
   refine blk_put (cs := #[.slice (some ⟨g1, 0, none⟩) ((pack L).length + 1) cap1, .int .i64 L.length]) ?_ 1 _ rfl
   exact blk_put BK.out 0 _ rfl
 · rw [HPK.out]
   exact Kd.R_far (p := ⟨p, 1, none⟩) (Kd.R_far (p := ⟨p, 0, none⟩) HO.out (fun _ h => h) _) (fun _ h => h) _
set_option maxRecDepth 1000000 in
set_option maxHeartbeats 8000000 in
theorem bits_Put_old0 (base : Nat) (w : World) (p : Nat) (v : Value) (L : List Bool) (h : BitsAt base w p v L) (hl : L.length < 1000000000000) (hm : L.length % 8 ≠ 0) :
    Calls Try.prog 89 #[.pointer (some ⟨p, 0, none⟩), .bool false] w (PutPost base w p (L ++ [false])) := by
 have hu := Try.underlying101
 obtain ⟨hBK, hp, hR⟩ := h
 have BK := Aside0.mk hBK
 have HO := Aside0.mk hR
 have HP := Aside0.mk hp
 have HB := Aside0.mk (Below.refl base w)
 have hc1 : w.cell? ⟨p, 1, none⟩ = some (.int .i64 L.length) := (blk_cell hBK 1).trans rfl
 have hf1 := blk_frozen hBK 1
 have hmod : ((L.length : Int) % 8 == 0) = false := beq_eq_false_iff_ne.mpr (by omega)
 have HW := Aside0.mk (show wrap64 ((L.length : Int) + 1) = ((L ++ [false]).length : Int) by rw [w64 (by omega) (by omega), List.length_append, List.length_singleton]; omega)
 have HPK := Aside0.mk (pack_old0 L hm)
 clear hBK hp hR hl hm
 go_enter Try.func89, Try.ntmps89
 go_wp2
 go_end0
 refine ⟨rfl, ⟨v, ⟨?_, HP.out, ?_⟩⟩, HB.out.setCell (p := ⟨p, 1, none⟩) HP.out _, keep_set (KeepT.refl w) BK.out (.inr rfl) _⟩
 · rw [HW.out]
   exact blk_put BK.out 1 _ rfl
 · rw [HPK.out]
   exact Kd.R_far (p := ⟨p, 1, none⟩) HO.out (fun _ h => h) _
end Go.Proofs.Ytkhcmddeeodbkaa.GL
namespace Go.Proofs.Ytkhcmddeeodbkaa.GL
open Go.RowKit Go.Proofs.YtkhcmddeeodbkaaW.PrintWords Go.Proofs.YtkhcmddeeodbkaaW.PrintLast Go.Proofs.YtkhcmddeeodbkaaW.PrintMore Go.Proofs.Ytkhcmddeeodbkaa.Q Go.Proofs.Ytkhcmddeeodbkaa.XSor
set_option maxRecDepth 1000000 in
set_option maxHeartbeats 8000000 in
theorem put_old1_core (w : World) (p g m cap n i r : Nat) (c : Int) (hi0 : (n : Int) / 8 = (i : Int)) (hmr : (n : Int) % 8 = (r : Int)) (hmod : ((r : Int) == 0) = false) (hpg : p ≠ g) (hgp : g ≠ p)
    (hc0 : w.cell? ⟨p, 0, none⟩ = some (.slice (some ⟨g, 0, none⟩) m cap)) (hc1 : w.cell? ⟨p, 1, none⟩ = some (.int .i64 n)) (hf1 : w.frozen? ⟨p, 1, none⟩ = false)
    (hx : w.cell? ⟨g, i, none⟩ = some (.int .u8 c)) (hf : w.frozen? ⟨g, i, none⟩ = false) (hq : (i : Int) < (m : Int)) (hq2 : i < m)
    (hwi : wrap64 (i : Int) = (i : Int)) (hwj : IntKind.i64.wrap (i : Int) = (i : Int)) (hsub : wrap64 (7 - (r : Int)) = ((7 - r : Nat) : Int)) (hsub2 : IntKind.i64.wrap (7 - (r : Int)) = ((7 - r : Nat) : Int)) :
    Calls Try.prog 89 #[.pointer (some ⟨p, 0, none⟩), .bool true] w fun e w' => e = .returned (.tuple #[]) ∧ w' = ((w.setCell ⟨g, i, none⟩ (.int .u8 (Go.bits .or .u8 c (2 ^ (7 - r) % 256)))).setCell ⟨p, 1, none⟩ (.int .i64 (wrap64 ((n : Int) + 1)))).drew := by
 have hu := Try.underlying101
 go_enter Try.func89, Try.ntmps89
 go_wp2
 go_region
 all_goals (go_wp2; go_end0; exact ⟨rfl, rfl⟩)
set_option maxRecDepth 1000000 in
set_option maxHeartbeats 8000000 in
theorem bits_Put_old1 (base : Nat) (w : World) (p : Nat) (v : Value) (L : List Bool) (h : BitsAt base w p v L) (hl : L.length < 1000000000000) (hm : L.length % 8 ≠ 0) :
    Calls Try.prog 89 #[.pointer (some ⟨p, 0, none⟩), .bool true] w (PutPost base w p (L ++ [true])) := by
 obtain ⟨hBK, hp, hR⟩ := h
 have hlt := pack_idx L hm
 obtain ⟨g, cap, rfl, hgb, hgl, cells, HG⟩ := Kd.R_form hR (Nat.lt_of_le_of_lt (Nat.zero_le _) hlt)
 obtain ⟨hx, hf⟩ := Kd.R_celln 0 hR ((L.length / 8 : Nat) : Int) (Int.natCast_nonneg _) (Int.ofNat_lt.2 hlt)
 have hgp : g ≠ p := hR.1 g rfl
 have hRS := (Kd.R_putg hR ((L.length / 8 : Nat) : Int) (Go.bits .or .u8 ((pack L).getD (L.length / 8) 0) (2 ^ (7 - L.length % 8) % 256))).1
 have hi8 : L.length / 8 < 1000000000000 := Nat.lt_of_le_of_lt (Nat.div_le_self _ _) hl
 have hr8 : L.length % 8 < 8 := Nat.mod_lt _ (by decide)
 have hW : wrap64 ((L.length : Int) + 1) = ((L ++ [true]).length : Int) := by rw [w64 (by omega) (by omega), List.length_append, List.length_singleton]; rfl
 refine (put_old1_core w p g (pack L).length cap L.length (L.length / 8) (L.length % 8) ((pack L).getD (L.length / 8) 0) rfl rfl (beq_eq_false_iff_ne.mpr (by omega)) (fun e => hgp e.symm) hgp
  ((blk_cell hBK 0).trans rfl) ((blk_cell hBK 1).trans rfl) (blk_frozen hBK 1) hx hf (Int.ofNat_lt.2 hlt) hlt (w64_nat hi8) ((i64_w _).trans (w64_nat hi8)) (w64_seven hr8) ((i64_w _).trans (w64_seven hr8))).mono ?_
 rintro e w' ⟨rfl, rfl⟩
 refine ⟨rfl, ⟨.slice (some ⟨g, 0, none⟩) (pack L).length cap, ⟨?_, hp, ?_⟩⟩, ((((Below.refl base w).setCell (p := ⟨g, L.length / 8, none⟩) hgb _).setCell (p := ⟨p, 1, none⟩) hp _)).drew, ?_⟩
 · rw [hW]
   exact blk_drew (blk_put (blk_far hBK (fun e => hgp e.symm) _) 1 _ rfl)
 · rw [pack_old1 L hm]
   exact Kd.R_drew (Kd.R_far (p := ⟨p, 1, none⟩) hRS (fun _ h => h) _)
 · exact keep_set (keep_set (KeepT.refl w) HG (.inl rfl) _) hBK (.inr rfl) _
theorem keep_row {w W : World} {base g n c i : Nat} {ok : Nat → Prop} {v u : Value} {xs : List Int} (h : Kd.R (Kd.int .u8) 5 w base ok v xs) (hat : (Value.slice (some ⟨g, 0, none⟩) n c).ownBlock = v.ownBlock ∨ ∃ b, (Value.slice (some ⟨g, 0, none⟩) n c).ownBlock = some b ∧ w.heap.size ≤ b) (hk : KeepT w W) : KeepT w (W.setCell ⟨g, i, none⟩ u) := by
 rcases hat with hat | ⟨b, hb, hle⟩
 · obtain ⟨inner, ho⟩ := Kd.R_own h
   obtain ⟨cells, hc⟩ := own_typed ho g (by rw [← hat]; rfl)
   exact keep_set hk hc (.inl rfl) u
 · have e : g = b := by injection hb
   exact keep_setn hk (by omega) u
theorem last_cell {w1 : World} {base g i cap : Nat} {ok : Nat → Prop} {P : List Int} (ho : Kd.R (Kd.int .u8) 5 w1 base ok (.slice (some ⟨g, 0, none⟩) (P.length + 1) cap) (P ++ [0])) (hi : i = P.length) : w1.cell? ⟨g, i, none⟩ = some (.int .u8 0) ∧ w1.frozen? ⟨g, i, none⟩ = false := by
 obtain ⟨hx, hf⟩ := Kd.R_celln 0 ho (i : Int) (Int.natCast_nonneg _) (by omega)
 refine ⟨?_, hf⟩
 have e : rdOf 0 (P ++ [0]) (i : Int) = 0 := by rw [hi]; simp [rdOf]
 rw [e] at hx
 exact hx
set_option maxRecDepth 1000000 in
set_option maxHeartbeats 8000000 in
theorem bits_Put_new1 (base : Nat) (w : World) (p : Nat) (v : Value) (L : List Bool) (h : BitsAt base w p v L) (hb : base ≤ w.heap.size) (hl : L.length < 1000000000000) (hm : L.length % 8 = 0) :
    Calls Try.prog 89 #[.pointer (some ⟨p, 0, none⟩), .bool true] w (PutPost base w p (L ++ [true])) := by
 have hu := Try.underlying101
 obtain ⟨hBK, hp, hR⟩ := h
 obtain ⟨n, hn⟩ : ∃ n, n = L.length := ⟨_, rfl⟩
 obtain ⟨i, hi⟩ : ∃ i, i = (pack L).length := ⟨_, rfl⟩
 have hni : n = 8 * i := by rw [hi, hn, pack_len]; omega
 have hmod : ((n : Int) % 8 == 0) = true := beq_iff_eq.mpr (by omega)
 have hmr : (n : Int) % 8 = 0 := by omega
 have hi0 : (n : Int) / 8 = (i : Int) := by omega
 have hi8 : i < 1000000000000 := by omega
 have hwi := w64_nat hi8
 have hwj := (i64_w _).trans hwi
 have hq : (i : Int) < ((pack L).length : Int) + 1 := by omega
 have hq2 : i < (pack L).length + 1 := by omega
 have BK := Aside0.mk hBK
 have HK0 := Aside0.mk hBK
 have HO := Aside0.mk hR
 have HP := Aside0.mk hp
 have HBASE := Aside0.mk hb
 have HB := Aside0.mk (Below.refl base w)
 have hc0 : w.cell? ⟨p, 0, none⟩ = some v := (blk_cell hBK 0).trans rfl
 have hc1 : w.cell? ⟨p, 1, none⟩ = some (.int .i64 n) := by rw [hn]; exact (blk_cell hBK 1).trans rfl
 have hf0 := blk_frozen hBK 0
 have HL := Aside0.mk (show ((pack L).length + 1) * 1 ≤ 140737488355328 by rw [← hi]; omega)
 have HW := Aside0.mk (show wrap64 ((n : Int) + 1) = ((L ++ [true]).length : Int) by rw [hn, w64 (by omega) (by omega), List.length_append, List.length_singleton]; rfl)
 have HPK := Aside0.mk (pack_new L hm).2
 have HI := Aside0.mk hi
 have HN := Aside0.mk hn
 have hlen : (pack L ++ [0]).length = (pack L).length + 1 := by rw [List.length_append, List.length_singleton]
 have HLEN := Aside0.mk hlen
 clear hBK hp hR hb hl hm hi hn hni hi8 hlen
 go_enter Try.func89, Try.ntmps89
 go_wp2_with (first
  | ((with_reducible refine gate_builtin (b := .append) (xs := #[.tmp 16, .tmp 17]) rfl ?_); at_builtin; refine Kd.R_append (Kd.int .u8) (w0 := w) base rfl (.tmp 16) (.tmp 17) 40 5 (.int .u8 0) 1 rfl Try.underlying40 (by kernel_rfl) rfl (by decide) (by omega) v (pack L) 0 [.int .u8 0] (fun k_ => k_ ≠ p) (fun _ => False) rfl rfl ?aP (fun _ hk => hk.elim) ?aF ?aO ?aB ?aS ?aL ?_; (case aP => exact rfl); (case aF => exact (fun k_ hk => by have := blk_lt BK.out; omega)); (case aO => exact HO.out); (case aB => exact HB.out); (case aS => exact HBASE.out); (case aL => exact HL.out); intro v1 w1 ho hb hg hat; obtain ⟨g1, cap1, rfl, hgb1, _, cells1, hg1⟩ := Kd.R_form ho (by simp); rw [HLEN.out] at ho; have hgp : g1 ≠ p := ho.1 g1 rfl; have hpg : p ≠ g1 := fun e => hgp e.symm; obtain ⟨hx, hf⟩ := last_cell ho HI.out; have HRS := Aside0.mk (Kd.R_putg ho (i : Int) 128).1; have n0_ := Aside0.mk (blk_grown BK.out hg (fun e => HO.out.1 p e.symm rfl)); have n1_ := Aside0.mk ho; have n2_ := Aside0.mk hb; have HKT := Aside0.mk (keep_grown HO.out hg); have HGB := Aside0.mk hgb1; have HKS := Aside0.mk (fun {W : World} (h_ : KeepT w W) => keep_row HO.out hat h_ (i := i) (u := .int .u8 128)); clear BK HO HB hc0 hc1 hf0; have BK := n0_; have HO := n1_; have HB := n2_; clear n0_ n1_ n2_ ho hb hg hat hgb1 hg1; have hc0 : w1.cell? ⟨p, 0, none⟩ = some v := (blk_cell BK.out 0).trans rfl; have hc1 : w1.cell? ⟨p, 1, none⟩ = some (.int .i64 n) := (by rw [HN.out]; exact (blk_cell BK.out 1).trans rfl); have hf0 := blk_frozen BK.out 0; have hf1 := blk_frozen BK.out 1))
 go_region
 all_goals
  go_wp2
  go_end0
  have hR1 := (Kd.R_putg (Kd.R_far (p := ⟨p, 0, none⟩) HO.out (fun _ h => h) (.slice (some ⟨g1, 0, none⟩) ((pack L).length + 1) cap1)) (i : Int) 128).1
  have hset : (pack L ++ [0]).set (i : Int).toNat 128 = pack L ++ [128] := by
   rw [Int.toNat_natCast, HI.out, List.set_append_right _ _ (Nat.le_refl _), Nat.sub_self]
   rfl
  rw [hset, ← HPK.out] at hR1
  rw [show Go.bits .or .u8 0 128 = 128 from rfl, HW.out]
  refine ⟨rfl, ⟨.slice (some ⟨g1, 0, none⟩) ((pack L).length + 1) cap1, ⟨?_, HP.out, ?_⟩⟩, (((HB.out.setCell (p := ⟨p, 0, none⟩) HP.out _).setCell (p := ⟨g1, i, none⟩) HGB.out _).setCell (p := ⟨p, 1, none⟩) HP.out _).drew, ?_⟩
  · exact blk_drew (blk_put (blk_far (blk_put BK.out 0 _ rfl) hpg _) 1 _ rfl)
  · exact Kd.R_drew (Kd.R_far (p := ⟨p, 1, none⟩) hR1 (fun _ h => h) _)
  · refine keep_set (w1 := (w1.setCell ⟨p, 0, none⟩ _).setCell ⟨g1, i, none⟩ _) ?_ HK0.out (.inr rfl) _
    have hq : KeepT w (w1.setCell ⟨p, 0, none⟩ (.slice (some ⟨g1, 0, none⟩) ((pack L).length + 1) cap1)) := keep_set HKT.out HK0.out (.inr rfl) _
    exact HKS.out hq
theorem bits_Put {base : Nat} {w : World} {p : Nat} {L : List Bool} (x : Bool) (h : BO base w p L) (hb : base ≤ w.heap.size) (hl : L.length < 1000000000000) :
    Calls Try.prog 89 #[.pointer (some ⟨p, 0, none⟩), .bool x] w (PutPost base w p (L ++ [x])) := by
 obtain ⟨v, h⟩ := h
 by_cases hm : L.length % 8 = 0
 · cases x
   · exact bits_Put_new0 base w p v L h hb hl hm
   · exact bits_Put_new1 base w p v L h hb hl hm
 · cases x
   · exact bits_Put_old0 base w p v L h hl hm
   · exact bits_Put_old1 base w p v L h hl hm
end Go.Proofs.Ytkhcmddeeodbkaa.GL
namespace Go.Proofs.Ytkhcmddeeodbkaa.GL
open Go.RowKit Go.Proofs.YtkhcmddeeodbkaaW.PrintWords Go.Proofs.YtkhcmddeeodbkaaW.PrintLast Go.Proofs.YtkhcmddeeodbkaaW.PrintMore Go.Proofs.Ytkhcmddeeodbkaa.Q Go.Proofs.Ytkhcmddeeodbkaa.XSor
theorem byteOf_bit : ∀ (l : List Bool) (k j : Nat), k + l.length ≤ 8 → k + j < 8 → byteOf l k / 2 ^ (7 - (k + j)) % 2 = if l.getD j false = true then 1 else 0 := by
 intro l
 induction l with
 | nil => intro k j _ _; simp [byteOf]
 | cons b r ih =>
   intro k j hk hj
   simp only [List.length_cons] at hk
   obtain ⟨h0, h1, _⟩ := byteOf_mod r (k + 1) (by omega)
   have e7 : 8 - (k + 1) = 7 - k := by omega
   rw [e7] at h1
   have q0 : (0 : Int) < 2 ^ (7 - k - r.length) := Int.pow_pos (by decide)
   have q : (0 : Int) < 2 ^ (7 - k) := Int.pow_pos (by decide)
   simp only [byteOf]
   cases j with
   | zero =>
     simp only [Nat.add_zero, List.getD_cons_zero]
     have hy : byteOf r (k + 1) / 2 ^ (7 - k) = 0 := Int.ediv_eq_zero_of_lt h0 (by omega)
     cases b
     · simp [hy]
     · simp only [if_true]
       rw [Int.add_ediv_of_dvd_left (Int.dvd_refl _), hy, Int.ediv_self (by omega)]
       rfl
   | succ j =>
     simp only [List.getD_cons_succ]
     have := ih (k + 1) j (by omega) (by omega)
     rw [show k + 1 + j = k + (j + 1) by omega] at this
     rw [← this]
     cases b
     · simp
     · simp only [if_true]
       have e : (2 : Int) ^ (7 - k) = 2 ^ (7 - (k + (j + 1))) * (2 * 2 ^ j) := by
        rw [← Int.pow_succ', ← Int.pow_add]
        congr 1
        omega
       have q2 : (2 : Int) ^ (7 - (k + (j + 1))) ≠ 0 := Int.ne_of_gt (Int.pow_pos (by decide))
       rw [Int.add_ediv_of_dvd_left (by rw [e]; exact Int.dvd_mul_right _ _), e, Int.mul_ediv_cancel_left _ q2]
       omega
theorem pack_bit (L : List Bool) (n : Nat) (h : n < L.length) : (pack L).getD (n / 8) 0 / 2 ^ (7 - n % 8) % 2 = if L.getD n false = true then 1 else 0 := by
 have hlt : n / 8 < (L.length + 7) / 8 := by omega
 rw [List.getD_eq_getElem?_getD, pack_get, if_pos hlt, Option.getD_some]
 have hb := byteOf_bit ((L.drop (8 * (n / 8))).take 8) 0 (n % 8) (by rw [List.length_take]; omega) (by omega)
 rw [Nat.zero_add] at hb
 rw [hb]
 have e : ((L.drop (8 * (n / 8))).take 8).getD (n % 8) false = L.getD n false := by
  rw [List.getD_eq_getElem?_getD, List.getD_eq_getElem?_getD, List.getElem?_take, if_pos (by omega), List.getElem?_drop]
  congr 2
  omega
 rw [e]
theorem byteOf_byt : ∀ (l : List Bool) (k : Nat), k + l.length ≤ 8 → 0 ≤ byteOf l k ∧ byteOf l k < 256 := by
 intro l k h
 have := byteOf_mod l k h
 have q0 : (0 : Int) < 2 ^ (8 - k - l.length) := Int.pow_pos (by decide)
 have q1 : (2 : Int) ^ (8 - k) ≤ 2 ^ 8 := by have := Nat.pow_le_pow_right (n := 2) (by decide) (show 8 - k ≤ 8 by omega); exact_mod_cast this
 have e : (2 : Int) ^ 8 = 256 := rfl
 omega
theorem pack_byt (L : List Bool) : Byt (pack L) := by
 intro x hx
 obtain ⟨j, hj⟩ := List.mem_iff_getElem?.1 hx
 rw [pack_get] at hj
 split at hj
 · injection hj with hj
   rw [← hj]
   exact byteOf_byt _ 0 (by rw [List.length_take]; omega)
 · cases hj
theorem byt_getD {l : List Int} (h : Byt l) (n : Nat) : 0 ≤ l.getD n 0 ∧ l.getD n 0 < 256 := by
 rw [List.getD_eq_getElem?_getD]
 cases e : l[n]? with
 | none => simp
 | some x => exact h x (List.mem_of_getElem? e)
theorem and1_u8 {c : Int} {n : Nat} (h0 : 0 ≤ c) (h1 : c < 256) : Go.bits .and .u8 (c / 2 ^ n) 1 = c / 2 ^ n % 2 := by
 have q : (0 : Int) < 2 ^ n := Int.pow_pos (by decide)
 have h2 : 0 ≤ c / 2 ^ n := Int.ediv_nonneg h0 (by omega)
 have h3 : c / 2 ^ n ≤ c := Int.ediv_le_self _ h0
 exact bits_mask .u8 8 (by decide) wraps_u8 1 (by decide) (c / 2 ^ n) h2 (by omega)
def atB (L : List Bool) (i : Int) : Bool := decide (0 ≤ i) && L.getD i.toNat false
set_option maxRecDepth 1000000 in
set_option maxHeartbeats 4000000 in
theorem bits_At_in {w : World} {P : Option Addr} {L : List Bool} (n : Nat) (h : BitsP w P L) (hn : n < L.length) (hl : L.length < 1000000000000) :
    Calls Try.prog 91 #[.pointer P, .int .i64 n] w fun e w' => e = .returned (.bool (L.getD n false)) ∧ w = w' := by
 have hu := Try.underlying101
 rcases h with ⟨rfl, rfl⟩ | ⟨p, rfl, A, c, hBK, hlc, hC⟩
 · cases hn
 · have hq : n / 8 < (pack L).length := by rw [pack_len]; omega
   obtain ⟨ad, rfl, hx⟩ := Kd.at_int hC ((n / 8 : Nat) : Int) (Int.natCast_nonneg _) (Int.ofNat_lt.2 hq)
   have HL := Aside0.mk (show BitsP w (some ⟨p, 0, none⟩) L from .inr ⟨p, rfl, _, c, hBK, hlc, hC⟩)
   have hc0 : w.cell? ⟨p, 0, none⟩ = some (.slice (some ad) (pack L).length c) := (blk_cell hBK 0).trans rfl
   have hx2 : w.cell? (ad.add (n / 8)) = some (.int .u8 ((pack L).getD (n / 8) 0)) := hx
   obtain ⟨b, hb⟩ : ∃ b, b = (pack L).getD (n / 8) 0 := ⟨_, rfl⟩
   obtain ⟨q, hq0⟩ : ∃ q, q = n / 8 := ⟨_, rfl⟩
   obtain ⟨r, hr0⟩ : ∃ r, r = n % 8 := ⟨_, rfl⟩
   have h1 : (n : Int) / 8 = (q : Int) := by omega
   have h2 : (n : Int) % 8 = (r : Int) := by omega
   have h5 : (q : Int) < ((pack L).length : Int) := by omega
   have h8 : q < 1000000000000 := by omega
   have h9 : r < 8 := by omega
   have h6 : decide (n < L.length) = true := decide_eq_true hn
   have h3 := w64_seven h9
   have h4 := w64_nat h8
   rw [← hb, ← hq0] at hx2
   have HB := Aside0.mk hb
   have HQ := Aside0.mk hq0
   have HR := Aside0.mk hr0
   have HN := Aside0.mk hn
   clear hBK hlc hC hx hb hq0 hr0 hq hn hl h8 h9
   go_enter Try.func91, Try.ntmps91
   go_wp2_with (first | (go_at_call 90; refine (bits_Len HL.out).mono ?_; rintro e w' ⟨rfl, rfl⟩))
   go_ret
   refine ⟨?_, rfl⟩
   have hbit := pack_bit L n HN.out
   rw [← HQ.out, ← HR.out] at hbit
   have hbb := byt_getD (pack_byt L) q
   rw [HQ.out, ← HB.out] at hbb
   rw [HQ.out, ← HB.out] at hbit
   show Ending.returned (.bool (Go.bits .and .u8 (b / 2 ^ (7 - r)) 1 == 1)) = _
   rw [and1_u8 hbb.1 hbb.2, hbit]
   cases L.getD n false <;> rfl
set_option maxRecDepth 1000000 in
set_option maxHeartbeats 4000000 in
theorem bits_At_out {w : World} {P : Option Addr} {L : List Bool} (i : Int) (h : BitsP w P L) (hi : i < 0 ∨ (L.length : Int) ≤ i) :
    Calls Try.prog 91 #[.pointer P, .int .i64 i] w fun e w' => e = .returned (.bool false) ∧ w = w' := by
 have HL := Aside0.mk h
 by_cases h0 : i < 0
 · have h7 : ¬ (0 : Int) ≤ i := by omega
   have h8 := decide_eq_false h7
   clear h hi
   go_enter Try.func91, Try.ntmps91
   go_wp2
   go_ret
   exact ⟨rfl, rfl⟩
 · have h7 : 0 ≤ i := by omega
   have h8 : decide (i < (L.length : Int)) = false := decide_eq_false (by omega)
   clear h hi h0
   go_enter Try.func91, Try.ntmps91
   go_wp2_with (first | (go_at_call 90; refine (bits_Len HL.out).mono ?_; rintro e w' ⟨rfl, rfl⟩))
   go_ret
   exact ⟨rfl, rfl⟩
theorem bits_At {w : World} {P : Option Addr} {L : List Bool} (i : Int) (h : BitsP w P L) (hl : L.length < 1000000000000) :
    Calls Try.prog 91 #[.pointer P, .int .i64 i] w fun e w' => e = .returned (.bool (atB L i)) ∧ w = w' := by
 by_cases hi : i < 0 ∨ (L.length : Int) ≤ i
 · have e : atB L i = false := by
     unfold atB
     rcases hi with hi | hi
     · rw [decide_eq_false (by omega), Bool.false_and]
     · rw [List.getD_eq_getElem?_getD, List.getElem?_eq_none (by omega)]
       simp
   rw [e]
   exact bits_At_out i h hi
 · obtain ⟨n, rfl⟩ := Int.eq_ofNat_of_zero_le (show 0 ≤ i by omega)
   have e : atB L (n : Int) = L.getD n false := by
    unfold atB
    rw [decide_eq_true (by omega), Bool.true_and]
    rfl
   rw [e]
   exact bits_At_in n h (by omega) hl
end Go.Proofs.Ytkhcmddeeodbkaa.GL
namespace Go.Proofs.Ytkhcmddeeodbkaa.GL
open Go.RowKit Go.Proofs.YtkhcmddeeodbkaaW.PrintWords Go.Proofs.YtkhcmddeeodbkaaW.PrintLast Go.Proofs.YtkhcmddeeodbkaaW.PrintMore Go.Proofs.Ytkhcmddeeodbkaa.Q Go.Proofs.Ytkhcmddeeodbkaa.XSor
def numBits (x : Int) : Nat → List Bool
 | 0 => []
 | n + 1 => (x / 2 ^ n % 2 == 1) :: numBits x n
theorem numBits_len (x : Int) : ∀ n, (numBits x n).length = n
 | 0 => rfl
 | n + 1 => by rw [numBits, List.length_cons, numBits_len x n]
theorem and1_u64 {c : Int} (h0 : 0 ≤ c) (h1 : c < 18446744073709551616) : Go.bits .and .u64 c 1 = c % 2 := bits_mask .u64 64 (by decide) wraps_u64 1 (by decide) c h0 (by omega)
theorem and1_shr {x : Int} (n : Nat) (h0 : 0 ≤ x) (h1 : x < 18446744073709551616) : Go.bits .and .u64 (x / 2 ^ n) 1 = x / 2 ^ n % 2 := by
 have h2 : 0 ≤ x / 2 ^ n := Int.ediv_nonneg h0 (Int.le_of_lt (Int.pow_pos (by decide)))
 have h3 : x / 2 ^ n ≤ x := Int.ediv_le_self _ h0
 exact and1_u64 h2 (by omega)
def NumPost (base : Nat) (w : World) (p : Nat) (M : List Bool) (e : Ending) (w' : World) : Prop := e = .returned (.tuple #[]) ∧ BO base w' p M ∧ Below base w w' ∧ KeepT w w'
set_option maxRecDepth 1000000 in
set_option maxHeartbeats 8000000 in
theorem bits_PutNum_in {base : Nat} {w : World} {p : Nat} {L : List Bool} (x : Int) (n : Nat) (h : BO base w p L) (hb : base ≤ w.heap.size) (hl : L.length < 100000000000) (hn : n ≤ 64) (hx0 : 0 ≤ x) (hx1 : x < 18446744073709551616) :
    Calls Try.prog 84 #[.pointer (some ⟨p, 0, none⟩), .int .u64 x, .int .i64 n] w (NumPost base w p (L ++ numBits x n)) := by
 have HO := Aside0.mk h
 have HBASE := Aside0.mk hb
 have HL := Aside0.mk hl
 have HB := Aside0.mk (Below.refl base w)
 have HK := Aside0.mk (KeepT.refl w)
 clear h hb hl
 have hn1 : decide ((n : Int) < 0) = false := decide_eq_false (by omega)
 have hn2 : decide ((64 : Int) < (n : Int)) = false := decide_eq_false (by omega)
 go_enter Try.func84, Try.ntmps84
 go_wp2
 go_loopw [6] (fun v6 wr => ∃ (k : Nat) (D : List Bool), v6 = .int .i64 ((k : Int) - 1) ∧ k ≤ n ∧ Aside0 (numBits x n = D ++ numBits x k) ∧ Aside0 (BO base wr p (L ++ D)) ∧ Aside0 (Below base w wr) ∧ Aside0 (KeepT w wr)) (fun v _ => (intOf v + 1).toNat)
 case atStart => exact ⟨n, [], by first | rfl | go_num, Nat.le_refl _, ⟨rfl⟩, ⟨by rw [List.append_nil]; exact HO.out⟩, HB, HK⟩
 case round =>
  clear HO HB HK
  obtain ⟨k, D, rfl, hk, HD, HO, HB, HK⟩ := hrel
  cases k with
  | zero =>
    have h1 : decide ((0 : Int) ≤ ((0 : Nat) : Int) - 1) = false := rfl
    go_wp2
    go_end0
    refine ⟨rfl, ?_, HB.out, HK.out⟩
    rw [HD.out, numBits, List.append_nil]
    exact HO.out
  | succ k =>
    have h0 : ((k + 1 : Nat) : Int) - 1 = (k : Int) := by omega
    rw [h0]
    clear h0
    have hlen := Aside0.mk (show (L ++ D).length < 1000000000000 by
     have h1 := HL.out
     have h2 := congrArg List.length HD.out
     rw [numBits_len, List.length_append, numBits_len] at h2
     rw [List.length_append]
     omega)
    have hand := and1_shr k hx0 hx1
    go_wp2_with (first | (go_at_call 89; refine (bits_Put _ HO.out (Nat.le_trans HBASE.out HB.out.size) hlen.out).mono ?_; rintro e w2 ⟨rfl, hO, hb, hkk⟩))
    refine ⟨⟨k, D ++ [x / 2 ^ k % 2 == 1], rfl, Nat.le_of_succ_le hk, ⟨by rw [HD.out, numBits, List.append_assoc]; rfl⟩, ⟨by rw [← List.append_assoc]; exact hO⟩, ⟨HB.out.trans hb⟩, ⟨HK.out.trans hkk⟩⟩, ?_⟩
    simp [intOf]
def numOf (L : List Bool) : Int := L.foldl (fun a b => 2 * a + if b = true then 1 else 0) 0
theorem numOf_snoc (L : List Bool) (b : Bool) : numOf (L ++ [b]) = 2 * numOf L + if b = true then 1 else 0 := by simp [numOf]
theorem numOf_bd : ∀ (n : Nat) (L : List Bool), L.length = n → 0 ≤ numOf L ∧ numOf L < 2 ^ n := by
 intro n
 induction n with
 | zero => intro L h; rw [List.length_eq_zero_iff.1 h]; simp [numOf]
 | succ n ih =>
   intro L h
   have hne : L ≠ [] := by intro e; rw [e] at h; cases h
   rw [← List.dropLast_concat_getLast hne, numOf_snoc]
   obtain ⟨h0, h1⟩ := ih L.dropLast (by rw [List.length_dropLast]; omega)
   rw [Int.pow_succ]
   split <;> omega
def numAt (L : List Bool) (at_ n : Int) : Option Int := if 0 ≤ n ∧ n ≤ 64 ∧ 0 ≤ at_ ∧ at_ + n ≤ L.length then some (numOf ((L.drop at_.toNat).take n.toNat)) else none
theorem or1_u64 {c : Int} (h0 : 0 ≤ c) (h1 : c < 18446744073709551616) (h2 : c % 2 = 0) : Go.bits .or .u64 c 1 = c + 1 :=
 bits_join .u64 64 (by decide) wraps_u64 1 c 1 h0 h2 h1 (by decide) (by decide) (by decide)
set_option maxRecDepth 1000000 in
set_option maxHeartbeats 8000000 in
theorem bits_Num_in {w : World} {P : Option Addr} {L : List Bool} (i n : Nat) (h : BitsP w P L) (hl : L.length < 100000000000) (hn : n ≤ 64) (hi : i + n ≤ L.length) :
    Calls Try.prog 92 #[.pointer P, .int .i64 i, .int .i64 n] w fun e w' => e = .returned (.tuple #[.int .u64 (numOf ((L.drop i).take n)), .bool true]) ∧ w = w' := by
 have HL := Aside0.mk h
 have HLL := Aside0.mk (show L.length < 1000000000000 by omega)
 have HI := Aside0.mk hi
 have hn1 : decide ((n : Int) < 0) = false := decide_eq_false (by omega)
 have hn2 : decide ((64 : Int) < (n : Int)) = false := decide_eq_false (by omega)
 have hi1 : decide ((i : Int) < 0) = false := decide_eq_false (by omega)
 have hi2 : decide ((L.length : Int) - (n : Int) < (i : Int)) = false := decide_eq_false (by omega)
 have hil : (i : Int) < 100000000000 := by omega
 have hll : (L.length : Int) < 100000000000 := by omega
 clear h hl hi
 go_enter Try.func92, Try.ntmps92
 go_wp2_with (first | (go_at_call 90; refine (bits_Len HL.out).mono ?_; rintro e w' ⟨rfl, rfl⟩))
 go_loop [8, 29] (fun v8 v29 => ∃ (k : Nat), v29 = .int .i64 k ∧ v8 = .int .u64 (numOf ((L.drop i).take k)) ∧ k ≤ n) (fun _ v => n - (intOf v).toNat)
 case atStart => exact ⟨0, by first | rfl | go_num, by first | rfl | simp [numOf], Nat.zero_le _⟩
 case round =>
  obtain ⟨k, rfl, rfl, hk⟩ := hrel
  obtain ⟨x, hx⟩ : ∃ x, x = numOf ((L.drop i).take k) := ⟨_, rfl⟩
  rw [← hx]
  by_cases hlt : k < n
  · have hbd := numOf_bd k ((L.drop i).take k) (by rw [List.length_take, List.length_drop]; have := HI.out; omega)
    rw [← hx] at hbd
    have h2p : (2 : Int) ^ k ≤ 2 ^ 63 := by have := Nat.pow_le_pow_right (n := 2) (by decide) (show k ≤ 63 by omega); exact_mod_cast this
    have e63 : (2 : Int) ^ 63 = 9223372036854775808 := rfl
    have hx0 : 0 ≤ x := hbd.1
    have hx1 : x * 2 < 18446744073709551616 := by omega
    have hat : atB L ((i : Int) + (k : Int)) = L.getD (i + k) false := by
     unfold atB
     rw [decide_eq_true (by omega), Bool.true_and]
     congr 1
    have HS := Aside0.mk (show numOf ((L.drop i).take (k + 1)) = 2 * x + if L.getD (i + k) false = true then 1 else 0 by
     have hkl : k < (L.drop i).length := by rw [List.length_drop]; have := HI.out; omega
     rw [List.take_succ_eq_append_getElem hkl, numOf_snoc, ← hx]
     congr 2
     rw [List.getElem_drop, List.getD_eq_getElem?_getD, List.getElem?_eq_getElem (by have := HI.out; omega)]
     rfl)
    clear hbd h2p e63
    have HX := Aside0.mk hx
    clear hx
    by_cases hb : L.getD (i + k) false = true
    · rw [hb] at hat HS
      clear hb
      go_wp2_with (first | (go_at_call 91; refine (bits_At _ HL.out HLL.out).mono ?_; rw [hat]; rintro e w' ⟨rfl, rfl⟩))
      go_round
      case rel =>
       refine ⟨k + 1, by go_num, ?_, by omega⟩
       rw [HS.out, or1_u64 (by omega) hx1 (by omega)]
       simp only [if_true]
       rw [Int.mul_comm]
      case measure => simp [intOf]; omega
    · have hb := Bool.eq_false_iff.2 hb
      rw [hb] at hat HS
      clear hb
      go_wp2_with (first | (go_at_call 91; refine (bits_At _ HL.out HLL.out).mono ?_; rw [hat]; rintro e w' ⟨rfl, rfl⟩))
      go_round
      case rel =>
       refine ⟨k + 1, by go_num, ?_, by omega⟩
       rw [HS.out]
       simp only [Bool.false_eq_true, if_false, Int.add_zero]
       rw [Int.mul_comm]
      case measure => simp [intOf]; omega
  · obtain rfl : k = n := by omega
    go_wp2
    go_ret2
    exact ⟨rfl, rfl⟩
set_option maxRecDepth 1000000 in
set_option maxHeartbeats 8000000 in
theorem bits_Num_out {w : World} {P : Option Addr} {L : List Bool} (i n : Int) (h : BitsP w P L) (hl : L.length < 100000000000) (hbad : ¬ (0 ≤ n ∧ n ≤ 64 ∧ 0 ≤ i ∧ i + n ≤ L.length)) :
    Calls Try.prog 92 #[.pointer P, .int .i64 i, .int .i64 n] w fun e w' => e = .returned (.tuple #[.int .u64 0, .bool false]) ∧ w = w' := by
 have HL := Aside0.mk h
 by_cases h0 : n < 0
 · have h1 := decide_eq_true h0
   clear hbad h hl
   go_enter Try.func92, Try.ntmps92
   go_wp2
   go_ret2
   exact ⟨rfl, rfl⟩
 · have h1 := decide_eq_false h0
   by_cases h2 : 64 < n
   · have h3 := decide_eq_true h2
     clear hbad h hl
     go_enter Try.func92, Try.ntmps92
     go_wp2
     go_ret2
     exact ⟨rfl, rfl⟩
   · have h3 := decide_eq_false h2
     by_cases h4 : i < 0
     · have h5 := decide_eq_true h4
       clear hbad h hl
       go_enter Try.func92, Try.ntmps92
       go_wp2
       go_ret2
       exact ⟨rfl, rfl⟩
     · have h5 := decide_eq_false h4
       have h6 : decide ((L.length : Int) - n < i) = true := decide_eq_true (by omega)
       have hll : (L.length : Int) < 100000000000 := by omega
       have hn0 : 0 ≤ n := by omega
       have hn6 : n ≤ 64 := by omega
       clear hbad h hl h0 h2 h4
       go_enter Try.func92, Try.ntmps92
       go_wp2_with (first | (go_at_call 90; refine (bits_Len HL.out).mono ?_; rintro e w' ⟨rfl, rfl⟩))
       go_ret2
       exact ⟨rfl, rfl⟩
def numR (o : Option Int) : Value := .tuple #[.int .u64 (o.getD 0), .bool o.isSome]
theorem bits_Num {w : World} {P : Option Addr} {L : List Bool} (i n : Int) (h : BitsP w P L) (hl : L.length < 100000000000) :
    Calls Try.prog 92 #[.pointer P, .int .i64 i, .int .i64 n] w fun e w' => e = .returned (numR (numAt L i n)) ∧ w = w' := by
 by_cases hg : 0 ≤ n ∧ n ≤ 64 ∧ 0 ≤ i ∧ i + n ≤ L.length
 · have e : numAt L i n = some (numOf ((L.drop i.toNat).take n.toNat)) := if_pos hg
   rw [e]
   obtain ⟨i, rfl⟩ := Int.eq_ofNat_of_zero_le hg.2.2.1
   obtain ⟨n, rfl⟩ := Int.eq_ofNat_of_zero_le hg.1
   exact bits_Num_in i n h hl (by omega) (by omega)
 · have e : numAt L i n = none := if_neg hg
   rw [e]
   exact bits_Num_out i n h hl hg
end Go.Proofs.Ytkhcmddeeodbkaa.GL
namespace Go.Proofs.Ytkhcmddeeodbkaa.XSor
open Go.RowKit Go.Proofs.Ytkhcmddeeodbkaa.G Go.Proofs.YtkhcmddeeodbkaaW.PrintWords Go.Proofs.YtkhcmddeeodbkaaW.PrintLast Go.Proofs.YtkhcmddeeodbkaaW.PrintMore
attribute [local go_sem] max2_int min2_int max_two min_two max_three min_three max_four min_four
def bytes_Equal.f (l0 : List Int) (l1 : List Int) : Option (Bool) := some ((strOfNums l0).toList == (strOfNums l1).toList)
set_option maxHeartbeats 8000000 in
set_option maxRecDepth 100000 in
theorem bytes_Equal.calls (A0 : Option Addr) (c0 : Nat) (l0 : List Int) (A1 : Option Addr) (c1 : Nat) (l1 : List Int) (r : Bool) (w : World) (hr0 : Kd.C (Kd.int .u8) w A0 l0.length l0) (hc0 : l0.length ≤ c0) (hr1 : Kd.C (Kd.int .u8) w A1 l1.length l1) (hc1 : l1.length ≤ c1) (h : bytes_Equal.f l0 l1 = some r) :
    Calls Try.prog 50 #[.slice A0 l0.length c0, .slice A1 l1.length c1] w fun e w' => e = .returned (.bool r) ∧ Drawn0 w w' := by
 have HR0 := Aside0.mk hr0
 have HC0 := Aside0.mk hc0
 clear hr0 hc0
 have HR1 := Aside0.mk hr1
 have HC1 := Aside0.mk hc1
 clear hr1 hc1
 have H : (some ((strOfNums l0).toList == (strOfNums l1).toList)) = some r := h
 clear h
 obtain rfl := Option.some.inj H
 have hcv3 := Kd.C_string (P := Try.prog) (A := A0) (c := c0) Try.underlying40 Try.underlying5 Try.underlying9 HR0.out
 have hcvz3 := fun m_ : Nat => Kd.C_string (P := Try.prog) (A := A0) (c := c0) Try.underlying40 Try.underlying5 Try.underlying9 (Kd.C_drewN HR0.out m_)
 have hcv4 := Kd.C_string (P := Try.prog) (A := A1) (c := c1) Try.underlying40 Try.underlying5 Try.underlying9 HR1.out
 have hcvz4 := fun m_ : Nat => Kd.C_string (P := Try.prog) (A := A1) (c := c1) Try.underlying40 Try.underlying5 Try.underlying9 (Kd.C_drewN HR1.out m_)
 go_enter Try.func50, Try.ntmps50
 go_wp2
 go_ret
 exact ⟨by first | rfl | (simp; done) | (simp [*]; done), by repeat (first | exact Drawn0.refl _ | apply Drawn0.step)⟩
end Go.Proofs.Ytkhcmddeeodbkaa.XSor
namespace Go.Proofs.Ytkhcmddeeodbkaa.GL
open Go.RowKit Go.Proofs.YtkhcmddeeodbkaaW.PrintWords Go.Proofs.YtkhcmddeeodbkaaW.PrintLast Go.Proofs.YtkhcmddeeodbkaaW.PrintMore Go.Proofs.Ytkhcmddeeodbkaa.Q Go.Proofs.Ytkhcmddeeodbkaa.XSor
theorem BO.new {base : Nat} {w : World} {p : Nat} (h : w.heap[p]? = some (.cells #[.slice none 0 0, .int .i64 0] 101 (0, 0))) (hp : base ≤ p) : BO base w p [] := ⟨_, h, hp, Kd.R_nil _ _ _ _ _⟩
end Go.Proofs.Ytkhcmddeeodbkaa.GL
namespace Go.Proofs.Ytkhcmddeeodbkaa.GL
open Go.RowKit Go.Proofs.YtkhcmddeeodbkaaW.PrintWords Go.Proofs.YtkhcmddeeodbkaaW.PrintLast Go.Proofs.YtkhcmddeeodbkaaW.PrintMore Go.Proofs.Ytkhcmddeeodbkaa.Q Go.Proofs.Ytkhcmddeeodbkaa.XSor Go.Proofs.Ytkhcmddeeodbkaa.G
def zeros : List Bool → Nat → Nat
 | _, 0 => 0
 | [], _ => 0
 | b :: r, m + 1 => if b = true then 0 else zeros r m + 1
theorem zeros_spec : ∀ (l : List Bool) (m : Nat), zeros l m ≤ m ∧ zeros l m ≤ l.length ∧ (∀ k, k < zeros l m → l.getD k false = false) ∧ (zeros l m < m → zeros l m < l.length → l.getD (zeros l m) false = true) := by
 intro l
 induction l with
 | nil => intro m; cases m <;> simp [zeros]
 | cons b r ih =>
   intro m
   cases m with
   | zero => simp [zeros]
   | succ m =>
     obtain ⟨h1, h2, h3, h4⟩ := ih m
     cases b
     · simp only [zeros, Bool.false_eq_true, if_false, List.length_cons]
       refine ⟨by omega, by omega, fun k hk => ?_, fun ha hb => ?_⟩
       · cases k with
         | zero => rfl
         | succ k => rw [List.getD_cons_succ]; exact h3 k (by omega)
       · rw [List.getD_cons_succ]
         exact h4 (by omega) (by omega)
     · simp [zeros]
def getG (L : List Bool) (at_ : Int) : Option (Int × Int) :=
 if at_ < 0 then none else
 if zeros (L.drop at_.toNat) 64 = 64 then none else
 (numAt L (at_ + zeros (L.drop at_.toNat) 64) (zeros (L.drop at_.toNat) 64 + 1)).map fun x => (x, at_ + 2 * zeros (L.drop at_.toNat) 64 + 1)
def getR (at_ : Int) : Option (Int × Int) → Value
 | some (x, e) => .tuple #[.int .u64 x, .int .i64 e, .bool true]
 | none => .tuple #[.int .u64 0, .int .i64 at_, .bool false]
set_option maxRecDepth 1000000 in
set_option maxHeartbeats 8000000 in
theorem gamma_Get_in {w : World} {P : Option Addr} {L : List Bool} (i : Nat) (h : BitsP w P L) (hl : L.length < 100000000000) (hi : i < L.length) :
    Calls Try.prog 85 #[.pointer P, .int .i64 i] w fun e w' => e = .returned (getR i (getG L i)) ∧ w = w' := by
 have HL := Aside0.mk h
 have HLL := Aside0.mk hl
 have HI := Aside0.mk hi
 obtain ⟨z, hz⟩ : ∃ z, z = zeros (L.drop i) 64 := ⟨_, rfl⟩
 have hsp := zeros_spec (L.drop i) 64
 rw [← hz] at hsp
 have HSP := Aside0.mk hsp
 have hz64 : z ≤ 64 := hsp.1
 have HG := Aside0.mk (show getG L i = if z = 64 then none else (numAt L ((i : Int) + (z : Int)) ((z : Int) + 1)).map fun x => (x, (i : Int) + 2 * (z : Int) + 1) by
  unfold getG
  rw [if_neg (by omega), Int.toNat_natCast, ← hz])
 have hi1 : decide ((i : Int) < 0) = false := decide_eq_false (by omega)
 have hi2 : decide (L.length ≤ i) = false := decide_eq_false (by omega)
 have hil : (i : Int) < 100000000000 := by omega
 have HLLL := Aside0.mk (show L.length < 1000000000000 by omega)
 have hll : (L.length : Int) < 100000000000 := by omega
 clear h hl hi hsp hz
 go_enter Try.func85, Try.ntmps85
 go_wp2_with (first | (go_at_call 90; refine (bits_Len HL.out).mono ?_; rintro e w' ⟨rfl, rfl⟩))
 go_loop [7] (fun v7 => ∃ (k : Nat), v7 = .int .i64 k ∧ k ≤ z) (fun v => z - (intOf v).toNat)
 case atStart => exact ⟨0, by first | rfl | go_num, Nat.zero_le _⟩
 case round =>
  obtain ⟨k, rfl, hk⟩ := hrel
  have hdl : (L.drop i).length = L.length - i := List.length_drop
  by_cases hlt : k < z
  · have h1 : decide ((k : Int) < 64) = true := decide_eq_true (by omega)
    have h2 : decide ((i : Int) + (k : Int) < (L.length : Int)) = true := decide_eq_true (by have := HSP.out.2.1; omega)
    have hk64 : (k : Int) < 64 := by omega
    have HLT := Aside0.mk hlt
    have hat : atB L ((i : Int) + (k : Int)) = false := by
     have := HSP.out.2.2.1 k hlt
     rw [List.getD_eq_getElem?_getD, List.getElem?_drop, ← List.getD_eq_getElem?_getD] at this
     unfold atB
     rw [decide_eq_true (by omega), Bool.true_and]
     exact this
    clear hdl hlt
    go_wp2_with (first | (go_at_call 90; refine (bits_Len HL.out).mono ?_; rintro e w' ⟨rfl, rfl⟩) | (go_at_call 91; refine (bits_At _ HL.out HLLL.out).mono ?_; rw [hat]; rintro e w' ⟨rfl, rfl⟩))
    go_round
    case rel => exact ⟨k + 1, by go_num, HLT.out⟩
    case measure => have := HLT.out; simp [intOf]; omega
  · obtain rfl : k = z := by omega
    have hk64 : (k : Int) ≤ 64 := by omega
    clear hk hlt
    by_cases h64 : k = 64
    · have HE := Aside0.mk (show getG L i = none by rw [HG.out, if_pos h64])
      subst h64
      clear hdl
      go_wp2
      go_ret3
      rw [HE.out]
      exact ⟨rfl, rfl⟩
    · have h1 : decide ((k : Int) < 64) = true := decide_eq_true (by omega)
      have h3 : ((k : Int) == 64) = false := beq_eq_false_iff_ne.mpr (by omega)
      have HE := Aside0.mk (show getG L i = (numAt L ((i : Int) + (k : Int)) ((k : Int) + 1)).map fun x => (x, (i : Int) + 2 * (k : Int) + 1) by rw [HG.out, if_neg h64])
      obtain ⟨o, ho⟩ : ∃ o, o = numAt L ((i : Int) + (k : Int)) ((k : Int) + 1) := ⟨_, rfl⟩
      rw [← ho] at HE
      have HOO := Aside0.mk ho
      clear ho
      by_cases hend : L.length ≤ i + k
      · have h2 : decide ((i : Int) + (k : Int) < (L.length : Int)) = false := decide_eq_false (by omega)
        clear hdl h64 hend
        cases o
        · go_wp2_with (first | (go_at_call 90; refine (bits_Len HL.out).mono ?_; rintro e w' ⟨rfl, rfl⟩) | (go_at_call 92; refine (bits_Num _ _ HL.out HLL.out).mono ?_; rw [← HOO.out]; rintro e w' ⟨rfl, rfl⟩; simp only [numR, Option.getD_none, Option.isSome_none]))
          go_ret3
          rw [HE.out]
          exact ⟨rfl, rfl⟩
        · go_wp2_with (first | (go_at_call 90; refine (bits_Len HL.out).mono ?_; rintro e w' ⟨rfl, rfl⟩) | (go_at_call 92; refine (bits_Num _ _ HL.out HLL.out).mono ?_; rw [← HOO.out]; rintro e w' ⟨rfl, rfl⟩; simp only [numR, Option.getD_some, Option.isSome_some]))
          go_ret3
          rw [HE.out]
          exact ⟨rfl, rfl⟩
      · have h2 : decide ((i : Int) + (k : Int) < (L.length : Int)) = true := decide_eq_true (by omega)
        have hat : atB L ((i : Int) + (k : Int)) = true := by
         have := HSP.out.2.2.2 (by omega) (by omega)
         rw [List.getD_eq_getElem?_getD, List.getElem?_drop, ← List.getD_eq_getElem?_getD] at this
         unfold atB
         rw [decide_eq_true (by omega), Bool.true_and]
         exact this
        clear hdl h64 hend
        cases o
        · go_wp2_with (first | (go_at_call 90; refine (bits_Len HL.out).mono ?_; rintro e w' ⟨rfl, rfl⟩) | (go_at_call 91; refine (bits_At _ HL.out HLLL.out).mono ?_; rw [hat]; rintro e w' ⟨rfl, rfl⟩) | (go_at_call 92; refine (bits_Num _ _ HL.out HLL.out).mono ?_; rw [← HOO.out]; rintro e w' ⟨rfl, rfl⟩; simp only [numR, Option.getD_none, Option.isSome_none]))
          go_ret3
          rw [HE.out]
          exact ⟨rfl, rfl⟩
        · go_wp2_with (first | (go_at_call 90; refine (bits_Len HL.out).mono ?_; rintro e w' ⟨rfl, rfl⟩) | (go_at_call 91; refine (bits_At _ HL.out HLLL.out).mono ?_; rw [hat]; rintro e w' ⟨rfl, rfl⟩) | (go_at_call 92; refine (bits_Num _ _ HL.out HLL.out).mono ?_; rw [← HOO.out]; rintro e w' ⟨rfl, rfl⟩; simp only [numR, Option.getD_some, Option.isSome_some]))
          go_ret3
          rw [HE.out]
          exact ⟨rfl, rfl⟩
theorem numAt_none {L : List Bool} {i : Int} {n : Int} (h : (L.length : Int) < i + n) : numAt L i n = none := if_neg (fun hc => by omega)
set_option maxRecDepth 1000000 in
set_option maxHeartbeats 8000000 in
theorem gamma_Get {w : World} {P : Option Addr} {L : List Bool} (i : Int) (h : BitsP w P L) (hl : L.length < 100000000000) :
    Calls Try.prog 85 #[.pointer P, .int .i64 i] w fun e w' => e = .returned (getR i (getG L i)) ∧ w = w' := by
 by_cases h0 : i < 0
 · have h1 := decide_eq_true h0
   have HE := Aside0.mk (show getG L i = none from if_pos h0)
   clear h hl
   go_enter Try.func85, Try.ntmps85
   go_wp2
   go_ret3
   rw [HE.out]
   exact ⟨rfl, rfl⟩
 · by_cases hi : i < (L.length : Int)
   · obtain ⟨i, rfl⟩ := Int.eq_ofNat_of_zero_le (show 0 ≤ i by omega)
     exact gamma_Get_in i h hl (by omega)
   · have h1 := decide_eq_false h0
     have h2 : decide ((L.length : Int) ≤ i) = true := decide_eq_true (by omega)
     have HL := Aside0.mk h
     have HE := Aside0.mk (show getG L i = none by
      unfold getG
      rw [if_neg h0, List.drop_of_length_le (by omega)]
      have e : zeros ([] : List Bool) 64 = 0 := rfl
      rw [e, if_neg (by decide), numAt_none (by omega)]
      rfl)
     clear h hl
     go_enter Try.func85, Try.ntmps85
     go_wp2_with (first | (go_at_call 90; refine (bits_Len HL.out).mono ?_; rintro e w' ⟨rfl, rfl⟩))
     go_ret3
     rw [HE.out]
     exact ⟨rfl, rfl⟩
def gammaBits (x : Int) : List Bool := if x = 0 then [] else numBits 0 (Lib.bitLen x.toNat - 1) ++ numBits x (Lib.bitLen x.toNat)
theorem bitLen_pos {n : Nat} (h : n ≠ 0) : 0 < Lib.bitLen n := by
 rw [Lib.bitLen, show (64 : Nat) = 63 + 1 from rfl, Lib.bitLenAux, if_neg h]
 omega
def GPutPost (base : Nat) (w : World) (p : Nat) (M : List Bool) (e : Ending) (w' : World) : Prop := e = .returned (.bool true) ∧ BO base w' p M ∧ Below base w w' ∧ KeepT w w'
set_option maxRecDepth 1000000 in
set_option maxHeartbeats 8000000 in
theorem gamma_Put_in {base : Nat} {w : World} {p : Nat} {L : List Bool} (x : Int) (h : BO base w p L) (hb : base ≤ w.heap.size) (hl : L.length < 10000000000) (hx0 : 0 < x) (hx1 : x < 18446744073709551616) (h64 : Lib.bitLen x.toNat ≤ 64) :
    Calls Try.prog 76 #[.pointer (some ⟨p, 0, none⟩), .int .u64 x] w (GPutPost base w p (L ++ gammaBits x)) := by
 obtain ⟨k, hk⟩ : ∃ k, k = Lib.bitLen x.toNat := ⟨_, rfl⟩
 have hkp : 0 < k := by rw [hk]; exact bitLen_pos (by omega)
 rw [← hk] at h64
 have hx : ¬ x = 0 := by omega
 have hxb : (x == 0) = false := beq_eq_false_iff_ne.mpr hx
 have HE := Aside0.mk (show L ++ gammaBits x = (L ++ numBits 0 (k - 1)) ++ numBits x k by rw [gammaBits, if_neg hx, ← hk, List.append_assoc])
 have HLN := Aside0.mk (show bits_Len64.f x = some (k : Int) by rw [bits_Len64.f, if_pos ⟨by omega, by omega⟩, ← hk])
 have HO := Aside0.mk h
 have HBASE := Aside0.mk hb
 have HL := Aside0.mk hl
 have HB := Aside0.mk (Below.refl base w)
 have HK := Aside0.mk (KeepT.refl w)
 have hk1 : (k : Int) - 1 = ((k - 1 : Nat) : Int) := by omega
 have hk64 : (k : Int) ≤ 64 := by omega
 have HP0 := Aside0.mk (fun (W : World) (h : BO base W p L) (hb : base ≤ W.heap.size) => bits_PutNum_in (w := W) 0 (k - 1) h hb (by omega) (by omega) (by decide) (by decide))
 have HP1 := Aside0.mk (fun (W : World) (h : BO base W p (L ++ numBits 0 (k - 1))) (hb : base ≤ W.heap.size) => bits_PutNum_in (w := W) x k h hb (by rw [List.length_append, numBits_len]; omega) h64 (by omega) hx1)
 clear h hb hl hk h64 hx hx0 hx1
 go_enter Try.func76, Try.ntmps76
 go_wp2_with (first
  | (go_at_call 83; refine (bits_Len64.calls _ _ _ HLN.out).mono ?_; rintro e w' ⟨rfl, ⟨nd, rfl⟩⟩; have n0_ := Aside0.mk (HO.out.below (pw_below_drewN (Below.refl _ _) nd)); have n1_ := Aside0.mk (pw_below_drewN HB.out nd); have n2_ := Aside0.mk (HK.out.trans (KeepT.below (pw_below_drewN (Below.refl _ _) nd))); clear HO HB HK; have HO := n0_; have HB := n1_; have HK := n2_; clear n0_ n1_ n2_)
  | (go_at_call 84; (first
      | (refine (HP0.out _ HO.out (Nat.le_trans HBASE.out HB.out.size)).mono ?_; clear HP0; rintro e w2 ⟨rfl, hO, hb, hkk⟩)
      | (refine (HP1.out _ HO.out (Nat.le_trans HBASE.out HB.out.size)).mono ?_; rintro e w2 ⟨rfl, hO, hb, hkk⟩)); have n0_ := Aside0.mk hO; have n1_ := Aside0.mk (HB.out.trans hb); have n2_ := Aside0.mk (HK.out.trans hkk); clear HO HB HK; have HO := n0_; have HB := n1_; have HK := n2_; clear n0_ n1_ n2_ hO hb hkk))
 go_ret
 refine ⟨rfl, ?_, HB.out, HK.out⟩
 rw [HE.out]
 exact HO.out
theorem gamma_Put {base : Nat} {w : World} {p : Nat} {L : List Bool} (x : Int) (h : BO base w p L) (hb : base ≤ w.heap.size) (hl : L.length < 10000000000) (hx0 : 0 < x) (hx1 : x < 18446744073709551616) :
    Calls Try.prog 76 #[.pointer (some ⟨p, 0, none⟩), .int .u64 x] w (GPutPost base w p (L ++ gammaBits x)) :=
 gamma_Put_in x h hb hl hx0 hx1 (Lib.bitLen_le x.toNat 64 (Nat.le_refl _) (by omega))
end Go.Proofs.Ytkhcmddeeodbkaa.GL
