/- bytes.Clone, bits.Bytes, bits.Of, loesslaw6.Of by hand. -/
import Derived.Test.YtobdfehpbgcloaaGBitsNum

namespace Go.Proofs.Ytobdfehpbgcloaa.GL
open Go.RowKit Go.Proofs.YtobdfehpbgcloaaW.PrintWords Go.Proofs.YtobdfehpbgcloaaW.PrintLast Go.Proofs.YtobdfehpbgcloaaW.PrintMore Go.Proofs.Ytobdfehpbgcloaa.Q Go.Proofs.Ytobdfehpbgcloaa.XTri
set_option linter.unusedVariables false
set_option linter.unusedSimpArgs false
def ClonePost (w : World) (l : List Int) (e : Ending) (w' : World) : Prop := ∃ v, e = .returned v ∧ Kd.R (Kd.int .u8) 5 w' w.heap.size (fun _ => True) v l ∧ Below w.heap.size w w'
set_option maxRecDepth 1000000 in
set_option maxHeartbeats 4000000 in
theorem bytes_Clone {w : World} {A : Option Addr} {c : Nat} {l : List Int} (hC : Kd.C (Kd.int .u8) w A l.length l) (hl : l.length ≤ 1000000000000) :
    Calls Try.prog 34 #[.slice A l.length c] w (ClonePost w l) := by
  have hnil := fun (W : World) (a : Option Addr) (n c' : Nat) => Lib.run_eql_slice_nil W 45 5 a n c' 0 0 Try.underlying45
  cases A with
  | none =>
    have he : l = [] := by
      cases l with
      | nil => rfl
      | cons x r => obtain ⟨ad, e, _⟩ := Kd.at_int hC 0 (by omega) (by simp only [List.length_cons]; omega); cases e
    subst he
    clear hC hl
    go_enter Try.func34, Try.ntmps34
    go_wp2
    go_ret
    exact ⟨_, rfl, Kd.R_nil _ _ _ _ _, Below.refl _ _⟩
  | some ad =>
    have HC := Aside0.mk hC
    have HL := Aside0.mk hl
    have HB := Aside0.mk (Below.refl w.heap.size w)
    clear hC hl
    go_enter Try.func34, Try.ntmps34
    go_wp2_with (first
      | ((with_reducible refine gate_dst (N := 5) rfl ?_); refine Kd.R_lit (Kd.int .u8) (w0 := w) w.heap.size 5 rfl (N := 5) rfl (xs := ([] : List Int)) (inner := []) (ok := fun _ => True) (okp := fun _ => True) ?aR ⟨by simp, fun j p hj => by simp at hj⟩ (fun _ h => h) trivial HB.out (below_size HB.out) (by decide) ?_; (case aR => first | (go_simp; done) | (go_simp; rfl)); intro v5 w5 ho hb hg hat; have n0_ := Aside0.mk ho; have n1_ := Aside0.mk hb; have n2_ := Aside0.mk (Kd.C_below HC.out hb); clear HB HC ho hb hg hat; have HO := n0_; have HB := n1_; have HC := n2_; clear n0_ n1_ n2_)
      | ((with_reducible refine gate_builtin (b := .append) (xs := #[.tmp 5, .tmp 6]) rfl ?_); at_builtin; refine Kd.R_append_rows (Kd.int .u8) (w0 := w) w.heap.size rfl (.tmp 5) (.tmp 6) 45 5 (.int .u8 0) 1 rfl Try.underlying45 (by kernel_rfl) rfl (by decide) (by omega) _ ([] : List Int) l _ _ _ (fun _ => True) (fun _ => False) rfl rfl ?aO ?aR (fun _ _ h => h) (fun _ h => h.elim) ?aF ?aB ?aS ?aL ?_; (case aR => exact HC.out); (case aB => exact HB.out); (case aF => exact (fun _ _ => trivial)); (case aO => exact HO.out); (case aS => exact below_size HB.out); (case aL => have := HL.out; simp only [List.length_nil]; omega); intro v7 w7 ho hb hg hat; rw [List.nil_append] at ho; have n0_ := Aside0.mk ho; have n1_ := Aside0.mk hb; clear HO HB ho hb hg hat; have HO := n0_; have HB := n1_; clear n0_ n1_))
    go_ret
    exact ⟨_, rfl, HO.out, HB.out⟩
set_option maxRecDepth 1000000 in
set_option maxHeartbeats 4000000 in
theorem bits_Bytes {w : World} {P : Option Addr} {L : List Bool} (h : BitsP w P L) (hl : L.length < 100000000000) :
    Calls Try.prog 26 #[.pointer P] w (ClonePost w (pack L)) := by
  have hu := Try.underlying47
  rcases h with ⟨rfl, rfl⟩ | ⟨p, rfl, A, c, hBK, hlc, hC⟩
  · go_enter Try.func26, Try.ntmps26
    go_wp2
    go_ret
    exact ⟨_, rfl, Kd.R_nil _ _ _ _ _, Below.refl _ _⟩
  · have hc0 : w.cell? ⟨p, 0, none⟩ = some (.slice A (pack L).length c) := (blk_cell hBK 0).trans rfl
    have HC := Aside0.mk hC
    have HL := Aside0.mk (show (pack L).length ≤ 1000000000000 by rw [pack_len]; omega)
    clear hBK hlc hC hl
    go_enter Try.func26, Try.ntmps26
    go_wp2_with (first | (go_at_call 34; refine (bytes_Clone HC.out HL.out).mono ?_; rintro e w' ⟨v, rfl, hR, hb⟩))
    go_ret
    exact ⟨v, rfl, hR, hb⟩
/-- A new object. -/
theorem BO.new {base : Nat} {w : World} {p : Nat} (h : w.heap[p]? = some (.cells #[.slice none 0 0, .int .i64 0] 47 (0, 0))) (hp : base ≤ p) : BO base w p [] := ⟨_, h, hp, Kd.R_nil _ _ _ _ _⟩
/-- A pointer to new bits. -/
def NewPost (w : World) (L : List Bool) (e : Ending) (w' : World) : Prop := ∃ p, e = .returned (.pointer (some ⟨p, 0, none⟩)) ∧ BO w.heap.size w' p L ∧ Below w.heap.size w w'
set_option maxRecDepth 1000000 in
set_option maxHeartbeats 8000000 in
theorem law_Of {w : World} {A : Option Addr} {c : Nat} {L : List Bool} (hC : Kd.C Kd.bool w A L.length L) (hl : L.length < 100000000000) :
    Calls Try.prog 9 #[.slice A L.length c] w (NewPost w L) := by
  have hu := Try.underlying47
  have HC := Aside0.mk hC
  have HL := Aside0.mk hl
  have HB := Aside0.mk (Below.refl w.heap.size w)
  clear hC hl
  go_enter Try.func9, Try.ntmps9
  go_wp2_with (first
    | ((with_reducible refine gate_dst (N := 5) rfl ?_); refine box_event ?hg (N := 5) ?hd (cs := #[.slice none 0 0, .int .i64 0]) (t := 47) ?hr ?_; (case hd => rfl); (case hg => rfl); (case hr => first | (go_simp; done) | (go_simp; rfl)); intro g5 hg w5 hbox hb; have n0_ := Aside0.mk (BO.new (base := w.heap.size) hbox (by rw [hg]; exact Nat.le_refl _)); have n1_ := Aside0.mk hb; clear HB; have HO := n0_; have HB := n1_; clear n0_ n1_; clear hb hbox hg))
  go_loopw [4] (fun v4 wr => ∃ (k : Nat), v4 = .int .i64 k ∧ k ≤ L.length ∧ Aside0 (BO w.heap.size wr g5 (L.take k)) ∧ Aside0 (Below w.heap.size w wr)) (fun v _ => L.length - (intOf v).toNat)
  case atStart => exact ⟨0, by first | rfl | go_num, Nat.zero_le _, HO, HB⟩
  case round =>
    clear HO HB
    obtain ⟨k, rfl, hk, HO, HB⟩ := hrel
    by_cases hlt : k < L.length
    · obtain ⟨ad, e, hx⟩ := Kd.at_bool (Kd.C_below HC.out HB.out) (k : Int) (Int.natCast_nonneg _) (Int.ofNat_lt.2 hlt)
      cases e
      replace hx : wr.cell? (ad.add k) = some (.bool (L.getD k false)) := hx
      have HS := Aside0.mk (List.take_succ_eq_append_getElem hlt)
      have HLN := Aside0.mk (show (L.take k).length < 1000000000000 by rw [List.length_take]; have := HL.out; omega)
      have hll : L.length < 100000000000 := HL.out
      go_wp2_with (first | (go_at_call 19; refine (bits_Put _ HO.out HB.out.size HLN.out).mono ?_; rintro e w2 ⟨rfl, hO, hb, hkk⟩))
      refine ⟨⟨k + 1, by first | rfl | go_num, hlt, ⟨by rw [HS.out]; exact hO⟩, ⟨HB.out.trans hb⟩⟩, ?_⟩
      simp [intOf]
      omega
    · go_wp2
      go_ret
      have e : L.take k = L := List.take_of_length_le (by omega)
      rw [e] at HO
      exact ⟨g5, rfl, HO.out, HB.out⟩
/-- Bytes as so many bits. -/
def bitAt (p : List Int) (i : Nat) : Bool := p.getD (i / 8) 0 / 2 ^ (7 - i % 8) % 2 == 1
def unpack (p : List Int) (n : Nat) : List Bool := (List.range n).map (bitAt p)
theorem unpack_len (p : List Int) (n : Nat) : (unpack p n).length = n := by simp [unpack]
theorem unpack_succ (p : List Int) (n : Nat) : unpack p (n + 1) = unpack p n ++ [bitAt p n] := by unfold unpack; rw [List.range_succ, List.map_append]; rfl
/-- bits.Of. -/
def ofBits (p : List Int) (n : Int) : Option (List Bool) := if 0 ≤ n ∧ n ≤ 8 * p.length ∧ pack (unpack p n.toNat) = p then some (unpack p n.toNat) else none
def OfPost (w : World) (o : Option (List Bool)) (e : Ending) (w' : World) : Prop :=
  Below w.heap.size w w' ∧ match o with
  | some L => ∃ p, e = .returned (.tuple #[.pointer (some ⟨p, 0, none⟩), .bool true]) ∧ BO w.heap.size w' p L
  | none => e = .returned (.tuple #[.pointer none, .bool false])
end Go.Proofs.Ytobdfehpbgcloaa.GL
