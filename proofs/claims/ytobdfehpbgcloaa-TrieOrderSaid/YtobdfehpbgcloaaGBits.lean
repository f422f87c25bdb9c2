/- bits.Bits by hand: what an object of bits is in memory; Len, Put. -/
import Derived.Test.YtobdfehpbgcloaaQBase
import Derived.Test.YtobdfehpbgcloaaWMore
import Derived.Test.YtobdfehpbgcloaaXTrix0
import Derived.WalkKit
import Derived.WalkSpells
namespace Go.Proofs.Ytobdfehpbgcloaa.GL
open Go.RowKit Go.Proofs.YtobdfehpbgcloaaW.PrintWords Go.Proofs.YtobdfehpbgcloaaW.PrintLast Go.Proofs.YtobdfehpbgcloaaW.PrintMore Go.Proofs.Ytobdfehpbgcloaa.Q Go.Proofs.Ytobdfehpbgcloaa.XTri
set_option linter.unusedVariables false
set_option linter.unusedSimpArgs false
theorem w64_nat {i : Nat} (h : i < 1000000000000) : wrap64 (i : Int) = (i : Int) := w64 (by omega) (by omega)
theorem w64_seven {r : Nat} (h : r < 8) : wrap64 (7 - (r : Int)) = ((7 - r : Nat) : Int) := by
  have e : (7 - (r : Int)) = ((7 - r : Nat) : Int) := by omega
  rw [e]
  exact w64_nat (by omega)
/-- A byte of bits, the first one highest. -/
def byteOf : List Bool → Nat → Int
  | [], _ => 0
  | b :: r, k => (if b = true then 2 ^ (7 - k) else 0) + byteOf r (k + 1)
/-- Bits as bytes. -/
def pack (L : List Bool) : List Int := (List.range ((L.length + 7) / 8)).map fun j => byteOf ((L.drop (8 * j)).take 8) 0
theorem pack_len (L : List Bool) : (pack L).length = (L.length + 7) / 8 := by unfold pack; simp
theorem pack_get (M : List Bool) (i : Nat) : (pack M)[i]? = if i < (M.length + 7) / 8 then some (byteOf ((M.drop (8 * i)).take 8) 0) else none := by
  unfold pack
  rw [List.getElem?_map]
  by_cases hi : i < (M.length + 7) / 8
  · rw [List.getElem?_range hi, if_pos hi]; rfl
  · rw [List.getElem?_eq_none (by simpa using hi), if_neg hi]; rfl
theorem pack_idx (L : List Bool) (h : L.length % 8 ≠ 0) : L.length / 8 < (pack L).length := by rw [pack_len]; omega
/-- A bit more: a byte begins. -/
theorem pack_new (L : List Bool) (h : L.length % 8 = 0) : pack (L ++ [false]) = pack L ++ [0] ∧ pack (L ++ [true]) = pack L ++ [128] := by
  have hl : ∀ x, ((L ++ [x]).length + 7) / 8 = (L.length + 7) / 8 + 1 := fun x => by rw [List.length_append, List.length_singleton]; omega
  have hm : (L.length + 7) / 8 = L.length / 8 := by omega
  have key : ∀ x, pack (L ++ [x]) = pack L ++ [byteOf [x] 0] := by
    intro x
    unfold pack
    rw [hl x, List.range_succ, List.map_append]
    congr 1
    · refine List.map_congr_left fun j hj => ?_
      have hj := List.mem_range.1 hj
      congr 1
      rw [List.drop_append_of_le_length (by omega), List.take_append_of_le_length (by rw [List.length_drop]; omega)]
    · have e : 8 * ((L.length + 7) / 8) = L.length := by omega
      rw [List.map_singleton, e, List.drop_left]
      rfl
  exact ⟨key false, key true⟩
theorem byteOf_snoc : ∀ (l : List Bool) (b : Bool) (k : Nat), byteOf (l ++ [b]) k = byteOf l k + (if b = true then 2 ^ (7 - (k + l.length)) else 0) := by
  intro l
  induction l with
  | nil => intro b k; simp [byteOf]
  | cons x r ih =>
    intro b k
    simp only [List.cons_append, byteOf, ih]
    rw [show k + 1 + r.length = k + (x :: r).length by simp only [List.length_cons]; omega]
    omega
/-- A bit more: in a byte that was begun. -/
theorem pack_old (L : List Bool) (x : Bool) (h : L.length % 8 ≠ 0) : pack (L ++ [x]) = (pack L).set (L.length / 8) ((pack L).getD (L.length / 8) 0 + (if x = true then 2 ^ (7 - L.length % 8) else 0)) := by
  have hl : ((L ++ [x]).length + 7) / 8 = (L.length + 7) / 8 := by rw [List.length_append, List.length_singleton]; omega
  have hlt : L.length / 8 < (L.length + 7) / 8 := by omega
  apply List.ext_getElem?
  intro j
  rw [pack_get, hl, List.getElem?_set, pack_len]
  by_cases hj : j < (L.length + 7) / 8
  · rw [if_pos hj]
    by_cases e : L.length / 8 = j
    · subst e
      rw [if_pos rfl, if_pos hlt, List.getD_eq_getElem?_getD, pack_get, if_pos hlt]
      have hd : (L ++ [x]).drop (8 * (L.length / 8)) = L.drop (8 * (L.length / 8)) ++ [x] := List.drop_append_of_le_length (by omega)
      have h1 : (L.drop (8 * (L.length / 8))).length = L.length % 8 := by rw [List.length_drop]; omega
      rw [hd, List.take_of_length_le (by rw [List.length_append, h1, List.length_singleton]; omega), byteOf_snoc, h1, List.take_of_length_le (by rw [h1]; omega)]
      simp
    · rw [if_neg e, pack_get, if_pos hj]
      congr 2
      rw [List.drop_append_of_le_length (by omega), List.take_append_of_le_length (by rw [List.length_drop]; omega)]
  · rw [if_neg hj, if_neg (by omega), pack_get, if_neg hj]
theorem pack_old0 (L : List Bool) (h : L.length % 8 ≠ 0) : pack (L ++ [false]) = pack L := by
  rw [pack_old L false h]
  apply List.ext_getElem?
  intro j
  rw [List.getElem?_set]
  split
  · rename_i e
    subst e
    split
    · rename_i h2
      simp [List.getD_eq_getElem?_getD, h2]
    · rename_i h2
      rw [List.getElem?_eq_none (by omega)]
  · rfl
/-- What a byte of few bits is: its lowest bits are nought. -/
theorem byteOf_mod : ∀ (l : List Bool) (k : Nat), k + l.length ≤ 8 → 0 ≤ byteOf l k ∧ byteOf l k + 2 ^ (8 - k - l.length) ≤ 2 ^ (8 - k) ∧ byteOf l k % 2 ^ (8 - k - l.length) = 0 := by
  intro l
  induction l with
  | nil => intro k hk; simp [byteOf]
  | cons b r ih =>
    intro k hk
    simp only [List.length_cons] at hk ⊢
    obtain ⟨h0, h1, h2⟩ := ih (k + 1) (by omega)
    have e : 8 - (k + 1) - r.length = 8 - k - (r.length + 1) := by omega
    rw [e] at h1 h2
    have p : (2 : Int) ^ (8 - k) = 2 ^ (7 - k) + 2 ^ (7 - k) := by rw [show 8 - k = (7 - k) + 1 by omega, Int.pow_succ]; omega
    have e7 : 8 - (k + 1) = 7 - k := by omega
    rw [e7] at h1
    have d : (2 : Int) ^ (7 - k) % 2 ^ (8 - k - (r.length + 1)) = 0 := by
      rw [show 7 - k = (8 - k - (r.length + 1)) + r.length by omega, Int.pow_add]
      exact Int.mul_emod_right _ _
    have q : (0 : Int) < 2 ^ (7 - k) := Int.pow_pos (by decide)
    simp only [byteOf]
    cases b
    · simp only [Bool.false_eq_true, if_false, Int.zero_add]
      exact ⟨h0, by omega, h2⟩
    · simp only [if_true]
      refine ⟨by omega, by omega, ?_⟩
      rw [Int.add_emod, d, h2]
      simp
theorem or8 (r : Nat) (hr : r < 8) {c : Int} (h0 : 0 ≤ c) (h1 : c < 256) (h2 : c % 2 ^ (8 - r) = 0) : Go.bits .or .u8 c (2 ^ (7 - r) % 256) = c + 2 ^ (7 - r) := by
  have e : (2 : Int) ^ (7 - r) % 256 = 2 ^ (7 - r) := by
    have : r = 0 ∨ r = 1 ∨ r = 2 ∨ r = 3 ∨ r = 4 ∨ r = 5 ∨ r = 6 ∨ r = 7 := by omega
    rcases this with rfl | rfl | rfl | rfl | rfl | rfl | rfl | rfl <;> rfl
  rw [e]
  exact bits_join .u8 8 (by decide) wraps_u8 (8 - r) c (2 ^ (7 - r)) h0 h2 h1 (Int.le_of_lt (Int.pow_pos (by decide))) (by rw [show 8 - r = (7 - r) + 1 by omega, Int.pow_succ]; have : (0 : Int) < 2 ^ (7 - r) := Int.pow_pos (by decide); omega) (by omega)
/-- The byte that was begun. -/
theorem pack_last (L : List Bool) (h : L.length % 8 ≠ 0) : 0 ≤ (pack L).getD (L.length / 8) 0 ∧ (pack L).getD (L.length / 8) 0 < 256 ∧ (pack L).getD (L.length / 8) 0 % 2 ^ (8 - L.length % 8) = 0 := by
  have hlt : L.length / 8 < (L.length + 7) / 8 := by omega
  have h1 : (L.drop (8 * (L.length / 8))).length = L.length % 8 := by rw [List.length_drop]; omega
  rw [List.getD_eq_getElem?_getD, pack_get, if_pos hlt, List.take_of_length_le (by rw [h1]; omega)]
  have := byteOf_mod (L.drop (8 * (L.length / 8))) 0 (by rw [h1]; omega)
  rw [h1] at this
  simp only [Nat.sub_zero, Option.getD_some] at this ⊢
  have q : (0 : Int) < 2 ^ (8 - L.length % 8) := Int.pow_pos (by decide)
  refine ⟨this.1, ?_, this.2.2⟩
  have := this.2.1
  have e : (2 : Int) ^ 8 = 256 := rfl
  omega
theorem pack_old1 (L : List Bool) (h : L.length % 8 ≠ 0) : pack (L ++ [true]) = (pack L).set (L.length / 8) (Go.bits .or .u8 ((pack L).getD (L.length / 8) 0) (2 ^ (7 - L.length % 8) % 256)) := by
  obtain ⟨h0, h1, h2⟩ := pack_last L h
  rw [pack_old L true h, or8 (L.length % 8) (by omega) h0 h1 h2]
  simp
/-- An object of bits: a block of two cells, the bytes a row of its own. -/
def BitsAt (base : Nat) (w : World) (p : Nat) (v : Value) (L : List Bool) : Prop :=
  w.heap[p]? = some (.cells #[v, .int .i64 L.length] 47 (0, 0)) ∧ base ≤ p ∧ Kd.R (Kd.int .u8) 5 w base (fun k => k ≠ p) v (pack L)
def BO (base : Nat) (w : World) (p : Nat) (L : List Bool) : Prop := ∃ v, BitsAt base w p v L
/-- Blocks of other types than an object's stay. -/
def KeepT (w w' : World) : Prop := w.heap.size ≤ w'.heap.size ∧ ∀ (k : Nat) (cells : Array Value) (t : Nat) r, w.heap[k]? = some (Obj.cells cells t r) → t ≠ 5 → t ≠ 47 → w'.heap[k]? = some (Obj.cells cells t r)
theorem KeepT.refl (w : World) : KeepT w w := ⟨Nat.le_refl _, fun _ _ _ _ h _ _ => h⟩
theorem KeepT.trans {a b c : World} (h : KeepT a b) (k : KeepT b c) : KeepT a c := ⟨Nat.le_trans h.1 k.1, fun i cs t r hi h5 h35 => k.2 i cs t r (h.2 i cs t r hi h5 h35) h5 h35⟩
theorem KeepT.below {w w' : World} (h : Below w.heap.size w w') : KeepT w w' := ⟨h.size, fun k cs t r hk _ _ => (h.block k (blk_lt hk)).trans hk⟩
theorem KeepT.R {α : Type} {d : Kd α} {e base : Nat} {ok : Nat → Prop} {w w' : World} {v : Value} {xs : List α} (hk : KeepT w w') (h : d.R e w base ok v xs) (hE : ∀ q, q ∈ e :: d.E → q ≠ 5 ∧ q ≠ 47) : d.R e w' base ok v xs :=
  Kd.R_mono (Kd.R_move (Kd.R_bound h) (fun k hb => by
    obtain ⟨_, _, _, q, hq, cells, hc⟩ := hb
    rw [hc]
    exact hk.2 k cells q (0, 0) hc (hE q hq).1 (hE q hq).2)) (fun _ hk => hk.1)
theorem BitsAt.below {base p : Nat} {w w' : World} {v : Value} {L : List Bool} (h : BitsAt base w p v L) (hb : Below w.heap.size w w') : BitsAt base w' p v L := ⟨blk_below h.1 hb, h.2.1, Kd.R_below h.2.2 hb⟩
theorem BO.below {base p : Nat} {w w' : World} {L : List Bool} (h : BO base w p L) (hb : Below w.heap.size w w') : BO base w' p L := h.elim fun v h => ⟨v, h.below hb⟩
/-- Bits that are read. -/
def BitsR (w : World) (p : Nat) (L : List Bool) : Prop := ∃ A c, w.heap[p]? = some (.cells #[.slice A (pack L).length c, .int .i64 L.length] 47 (0, 0)) ∧ (pack L).length ≤ c ∧ Kd.C (Kd.int .u8) w A (pack L).length (pack L)
theorem BO.reads {base p : Nat} {w : World} {L : List Bool} (h : BO base w p L) : BitsR w p L := by
  obtain ⟨v, hb, _, hR⟩ := h
  obtain ⟨A, c, rfl, hl, hC⟩ := Kd.R_reads hR
  exact ⟨A, c, hb, hl, hC⟩
theorem BitsR.below {p : Nat} {w w' : World} {L : List Bool} (h : BitsR w p L) (hb : Below w.heap.size w w') : BitsR w' p L := by
  obtain ⟨A, c, hk, hl, hC⟩ := h
  exact ⟨A, c, blk_below hk hb, hl, Kd.C_below hC hb⟩
/-- A pointer to bits, or nil, which has none. -/
def BitsP (w : World) (P : Option Addr) (L : List Bool) : Prop := (P = none ∧ L = []) ∨ ∃ p, P = some ⟨p, 0, none⟩ ∧ BitsR w p L
theorem BitsP.below {w w' : World} {P : Option Addr} {L : List Bool} (h : BitsP w P L) (hb : Below w.heap.size w w') : BitsP w' P L := by
  rcases h with h | ⟨p, hp, h⟩
  · exact .inl h
  · exact .inr ⟨p, hp, h.below hb⟩
theorem BO.toP {base p : Nat} {w : World} {L : List Bool} (h : BO base w p L) : BitsP w (some ⟨p, 0, none⟩) L := .inr ⟨p, rfl, h.reads⟩
theorem BitsP.nil (w : World) : BitsP w none [] := .inl ⟨rfl, rfl⟩
theorem BitsP.drewN {w : World} {P : Option Addr} {L : List Bool} (h : BitsP w P L) (n : Nat) : BitsP (w.drewN n) P L := h.below (pw_below_drewN (Below.refl _ _) n)
set_option maxRecDepth 1000000 in
set_option maxHeartbeats 4000000 in
theorem bits_Len {w : World} {P : Option Addr} {L : List Bool} (h : BitsP w P L) :
    Calls Try.prog 15 #[.pointer P] w fun e w' => e = .returned (.int .i64 L.length) ∧ w = w' := by
  rcases h with ⟨rfl, rfl⟩ | ⟨p, rfl, A, c, hBK, _⟩
  · go_enter Try.func15, Try.ntmps15
    go_wp2
    go_ret
    exact ⟨rfl, rfl⟩
  · have hu := Try.underlying47
    have hc1 : w.cell? ⟨p, 1, none⟩ = some (.int .i64 L.length) := (blk_cell hBK 1).trans rfl
    clear hBK
    go_enter Try.func15, Try.ntmps15
    go_wp2
    go_ret
    exact ⟨rfl, rfl⟩
set_option maxRecDepth 1000000 in
set_option maxHeartbeats 4000000 in
theorem bits_Put_nil (x : Bool) (w : World) : Calls Try.prog 19 #[.pointer none, .bool x] w fun e w' => e = .returned (.tuple #[]) ∧ w = w' := by
  go_enter Try.func19, Try.ntmps19
  go_wp2
  refine bodyPost_ret (results_none rfl _ _ _) rfl ?_
  exact ⟨rfl, rfl⟩
def PutPost (base : Nat) (w : World) (p : Nat) (M : List Bool) (e : Ending) (w' : World) : Prop := e = .returned (.tuple #[]) ∧ BO base w' p M ∧ Below base w w' ∧ KeepT w w'
theorem keep_grown {w w1 : World} {base : Nat} {ok : Nat → Prop} {v : Value} {xs : List Int} (h : Kd.R (Kd.int .u8) 5 w base ok v xs) (hg : w.grownBy w1 v.ownBlock) : KeepT w w1 := by
  refine ⟨hg.size, fun k cs t r hk h5 _ => (hg.block k (blk_lt hk) fun e => ?_).trans hk⟩
  obtain ⟨inner, ho⟩ := Kd.R_own h
  obtain ⟨cells, hc⟩ := own_typed ho k e.symm
  rw [hc] at hk
  injection hk with hk
  injection hk with _ hk
  exact h5 hk.symm
theorem keep_set {w w1 : World} (h : KeepT w w1) {p i : Nat} {cs : Array Value} {t : Nat} (hb : w.heap[p]? = some (.cells cs t (0, 0))) (ht : t = 5 ∨ t = 47) (u : Value) : KeepT w (w1.setCell ⟨p, i, none⟩ u) := by
  refine ⟨Nat.le_trans h.1 (by simp [World.setCell]), fun k cs' t' r hk h5 h35 => ?_⟩
  rw [Below.heap_setCell w1 ⟨p, i, none⟩ u k (fun e => ?_)]
  · exact h.2 k cs' t' r hk h5 h35
  · rw [show k = p from e, hb] at hk
    injection hk with hk
    injection hk with _ hk
    rcases ht with rfl | rfl
    · exact h5 hk.symm
    · exact h35 hk.symm
/-- A block that is new since: it is none of the elder ones. -/
theorem keep_setn {w w1 : World} (h : KeepT w w1) {p i : Nat} (hp : w.heap.size ≤ p) (u : Value) : KeepT w (w1.setCell ⟨p, i, none⟩ u) := by
  refine ⟨Nat.le_trans h.1 (by simp [World.setCell]), fun k cs' t' r hk h5 h35 => ?_⟩
  rw [Below.heap_setCell w1 ⟨p, i, none⟩ u k (fun e => ?_)]
  · exact h.2 k cs' t' r hk h5 h35
  · have := blk_lt hk
    rw [show k = p from e] at this
    omega
set_option maxRecDepth 1000000 in
set_option maxHeartbeats 8000000 in
theorem bits_Put_new0 (base : Nat) (w : World) (p : Nat) (v : Value) (L : List Bool) (h : BitsAt base w p v L) (hb : base ≤ w.heap.size) (hl : L.length < 1000000000000) (hm : L.length % 8 = 0) :
    Calls Try.prog 19 #[.pointer (some ⟨p, 0, none⟩), .bool false] w (PutPost base w p (L ++ [false])) := by
  have hu := Try.underlying47
  obtain ⟨hBK, hp, hR⟩ := h
  have BK := Aside0.mk hBK
  have HK0 := Aside0.mk hBK
  have HO := Aside0.mk hR
  have HP := Aside0.mk hp
  have HBASE := Aside0.mk hb
  have HB := Aside0.mk (Below.refl base w)
  have hc0 : w.cell? ⟨p, 0, none⟩ = some v := (blk_cell hBK 0).trans rfl
  have hc1 : w.cell? ⟨p, 1, none⟩ = some (.int .i64 L.length) := (blk_cell hBK 1).trans rfl
  have hf0 := blk_frozen hBK 0
  have hmod : ((L.length : Int) % 8 == 0) = true := beq_iff_eq.mpr (by omega)
  have HL := Aside0.mk (show ((pack L).length + 1) * 1 ≤ 140737488355328 by rw [pack_len]; omega)
  have HW := Aside0.mk (show wrap64 ((L.length : Int) + 1) = ((L ++ [false]).length : Int) by rw [w64 (by omega) (by omega), List.length_append, List.length_singleton]; omega)
  have HPK := Aside0.mk (pack_new L hm).1
  clear hBK hp hR hb hl hm
  go_enter Try.func19, Try.ntmps19
  go_wp2_with (first
    | ((with_reducible refine gate_builtin (b := .append) (xs := #[.tmp 16, .tmp 17]) rfl ?_); at_builtin; refine Kd.R_append (Kd.int .u8) (w0 := w) base rfl (.tmp 16) (.tmp 17) 45 5 (.int .u8 0) 1 rfl Try.underlying45 (by kernel_rfl) rfl (by decide) (by omega) v (pack L) 0 [.int .u8 0] (fun k_ => k_ ≠ p) (fun _ => False) rfl rfl ?aP (fun _ hk => hk.elim) ?aF ?aO ?aB ?aS ?aL ?_; (case aP => exact rfl); (case aF => exact (fun k_ hk => by have := blk_lt BK.out; omega)); (case aO => exact HO.out); (case aB => exact HB.out); (case aS => exact HBASE.out); (case aL => exact HL.out); intro v1 w1 ho hb hg hat; obtain ⟨g1, cap1, rfl, _⟩ := Kd.R_form ho (by simp); have n0_ := Aside0.mk (blk_grown BK.out hg (fun e => HO.out.1 p e.symm rfl)); have n1_ := Aside0.mk ho; have n2_ := Aside0.mk hb; have HKT := Aside0.mk (keep_grown HO.out hg); clear BK HO HB hc0 hc1 hf0; have BK := n0_; have HO := n1_; have HB := n2_; clear n0_ n1_ n2_ ho hb hg hat; have hc0 : w1.cell? ⟨p, 0, none⟩ = some v := (blk_cell BK.out 0).trans rfl; have hc1 : w1.cell? ⟨p, 1, none⟩ = some (.int .i64 L.length) := (blk_cell BK.out 1).trans rfl; have hf0 := blk_frozen BK.out 0; have hf1 := blk_frozen BK.out 1))
  go_end0
  have hle : (pack L ++ [0]).length = (pack L).length + 1 := by simp
  rw [hle] at HO
  refine ⟨rfl, ⟨.slice (some ⟨g1, 0, none⟩) ((pack L).length + 1) cap1, ⟨?_, HP.out, ?_⟩⟩, (HB.out.setCell (p := ⟨p, 0, none⟩) HP.out _).setCell (p := ⟨p, 1, none⟩) HP.out _, keep_set (keep_set HKT.out HK0.out (.inr rfl) _) HK0.out (.inr rfl) _⟩
  · rw [HW.out]
    refine blk_put (cs := #[.slice (some ⟨g1, 0, none⟩) ((pack L).length + 1) cap1, .int .i64 L.length]) ?_ 1 _ rfl
    exact blk_put BK.out 0 _ rfl
  · rw [HPK.out]
    exact Kd.R_far (p := ⟨p, 1, none⟩) (Kd.R_far (p := ⟨p, 0, none⟩) HO.out (fun _ h => h) _) (fun _ h => h) _
set_option maxRecDepth 1000000 in
set_option maxHeartbeats 8000000 in
theorem bits_Put_old0 (base : Nat) (w : World) (p : Nat) (v : Value) (L : List Bool) (h : BitsAt base w p v L) (hl : L.length < 1000000000000) (hm : L.length % 8 ≠ 0) :
    Calls Try.prog 19 #[.pointer (some ⟨p, 0, none⟩), .bool false] w (PutPost base w p (L ++ [false])) := by
  have hu := Try.underlying47
  obtain ⟨hBK, hp, hR⟩ := h
  have BK := Aside0.mk hBK
  have HO := Aside0.mk hR
  have HP := Aside0.mk hp
  have HB := Aside0.mk (Below.refl base w)
  have hc1 : w.cell? ⟨p, 1, none⟩ = some (.int .i64 L.length) := (blk_cell hBK 1).trans rfl
  have hf1 := blk_frozen hBK 1
  have hmod : ((L.length : Int) % 8 == 0) = false := beq_eq_false_iff_ne.mpr (by omega)
  have HW := Aside0.mk (show wrap64 ((L.length : Int) + 1) = ((L ++ [false]).length : Int) by rw [w64 (by omega) (by omega), List.length_append, List.length_singleton]; omega)
  have HPK := Aside0.mk (pack_old0 L hm)
  clear hBK hp hR hl hm
  go_enter Try.func19, Try.ntmps19
  go_wp2
  go_end0
  refine ⟨rfl, ⟨v, ⟨?_, HP.out, ?_⟩⟩, HB.out.setCell (p := ⟨p, 1, none⟩) HP.out _, keep_set (KeepT.refl w) BK.out (.inr rfl) _⟩
  · rw [HW.out]
    exact blk_put BK.out 1 _ rfl
  · rw [HPK.out]
    exact Kd.R_far (p := ⟨p, 1, none⟩) HO.out (fun _ h => h) _
end Go.Proofs.Ytobdfehpbgcloaa.GL
