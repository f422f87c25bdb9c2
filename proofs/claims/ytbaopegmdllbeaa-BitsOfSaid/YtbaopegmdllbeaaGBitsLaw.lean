/- loesslaw6.begun by hand. -/
import Derived.Test.YtbaopegmdllbeaaGBitsOf
namespace Go.Proofs.Ytbaopegmdllbeaa.GL
open Go.RowKit Go.Proofs.YtbaopegmdllbeaaW.PrintWords Go.Proofs.YtbaopegmdllbeaaW.PrintLast Go.Proofs.YtbaopegmdllbeaaW.PrintMore Go.Proofs.Ytbaopegmdllbeaa.Q Go.Proofs.Ytbaopegmdllbeaa.XBit
set_option linter.unusedVariables false
set_option linter.unusedSimpArgs false
theorem bits_PutNum_at {base : Nat} {w : World} {p : Nat} {L : List Bool} (x n : Int) (k : Nat) (hn : n = (k : Int)) (h : BO base w p L) (hb : base ≤ w.heap.size) (hl : L.length < 100000000000) (hk : k ≤ 64) (hx0 : 0 ≤ x) (hx1 : x < 18446744073709551616) :
    Calls Try.prog 18 #[.pointer (some ⟨p, 0, none⟩), .int .u64 x, .int .i64 n] w (NumPost base w p (L ++ numBits x k)) := by
  subst hn
  exact bits_PutNum_in x k h hb hl hk hx0 hx1
def L9 : List Bool := [] ++ [true] ++ numBits 5 8
theorem L9_len : L9.length = 9 := rfl
theorem L9_num1 : numAt L9 1 8 = some 5 := by decide
theorem L9_num2 : numAt L9 2 8 = none := by decide
theorem L9_pack : pack L9 = [130, 128] := by decide
theorem L9_of : ofBits [130, 128] 9 = some L9 := by decide
theorem L9_at0 : atB L9 0 = true := by decide
theorem L9_at9 : atB L9 9 = false := by decide
theorem below_of_grown_none {w w1 : World} (h : w.grownBy w1 none) : Below w.heap.size w w1 := (Below.refl w.heap.size w).grown h (Nat.le_refl _) (fun k hk => by cases hk)
theorem cell2_0 {w : World} {g : Nat} {x y : Int} {k : IntKind} (h : Kd.C (Kd.int k) w (some ⟨g, 0, none⟩) ([x, y] : List Int).length [x, y]) : w.cell? ⟨g, 0, none⟩ = some (.int k x) := by
  obtain ⟨ad, e, hx⟩ := Kd.at_int h 0 (by decide) (by simp)
  cases e
  exact hx
theorem cell2_1 {w : World} {g : Nat} {x y : Int} {k : IntKind} (h : Kd.C (Kd.int k) w (some ⟨g, 0, none⟩) ([x, y] : List Int).length [x, y]) : w.cell? ⟨g, 1, none⟩ = some (.int k y) := by
  obtain ⟨ad, e, hx⟩ := Kd.at_int h 1 (by decide) (by simp)
  cases e
  exact hx
theorem L7_of : ofBits [255] 7 = none := by decide
set_option maxRecDepth 1000000 in
set_option maxHeartbeats 8000000 in
theorem law6_begun (w : World) : Calls Try.prog 13 #[] w fun e w' => e = .returned (.bool true) ∧ Below w.heap.size w w' := by
  have HB := Aside0.mk (Below.refl w.heap.size w)
  have hu := Try.underlying35
  have BY8 := Aside0.mk (show Byt [130, 128] by intro x hx; simp at hx; omega)
  have BY9 := Aside0.mk (show Byt [255] by intro x hx; simp at hx; omega)
  go_enter Try.func13, Try.ntmps13
  go_wp2_with (first
    | ((with_reducible refine gate_dst (N := 1) rfl ?_); refine box_event ?hg (N := 1) ?hd (cs := #[.slice none 0 0, .int .i64 0]) (t := 35) ?hr ?_; (case hd => rfl); (case hg => rfl); (case hr => first | (go_simp; done) | (go_simp; rfl)); intro p hg w5 hbox hb; have n0_ := Aside0.mk (BO.new (base := w.heap.size) hbox (by rw [hg]; exact Nat.le_refl _)); have n1_ := Aside0.mk hb; clear HB; have HBO := n0_; have HB := n1_; clear n0_ n1_; clear hb hbox hg)
    | (go_at_call 20; refine (bits_Put true HBO.out HB.out.size (by decide)).mono ?_; rintro e w6 ⟨rfl, hO, hb, hk⟩; have m1_ := Aside0.mk hO; have m2_ := Aside0.mk (HB.out.trans hb); clear HBO HB hO hb hk; have HBO := m1_; have HB := m2_; clear m1_ m2_)
    | (go_at_call 18; refine (bits_PutNum_at 5 8 8 rfl HBO.out HB.out.size (by decide) (by decide) (by decide) (by decide)).mono ?_; rintro e w7 ⟨rfl, hO, hb, hk⟩; have m1_ : Aside0 (BO w.heap.size w7 p L9) := ⟨hO⟩; have m2_ := Aside0.mk (HB.out.trans hb); clear HBO HB hO hb hk; have HBO := m1_; have HB := m2_; clear m1_ m2_)
    | (go_at_call 19; refine (bits_Num _ _ HBO.out.toP (by rw [L9_len]; decide)).mono ?_; (first | rw [L9_num1] | rw [L9_num2]); rintro e w' ⟨rfl, rfl⟩; simp only [numR, Option.getD_some, Option.getD_none, Option.isSome_some, Option.isSome_none])
    | (go_at_call 17; refine (bits_Bytes HBO.out.toP (by rw [L9_len]; decide)).mono ?_; rw [L9_pack]; rintro e w8 ⟨v8, rfl, hR, hb⟩; obtain ⟨g8, c8, rfl, _⟩ := Kd.R_form hR (by decide); have HC8 := Aside0.mk (Kd.R_reads' hR).2.2; have HL8 := Aside0.mk (Kd.R_reads' hR).2.1; have m1_ := Aside0.mk (HBO.out.below hb); have m2_ := Aside0.mk (below_step HB.out hb); clear HBO HB; have HBO := m1_; have HB := m2_; clear m1_ m2_; have HB8 := Aside0.mk (Below.refl w8.heap.size w8); clear hb hR)
    | ((with_reducible refine gate_dst (N := 28) rfl ?_); refine Kd.R_lit (Kd.int .u8) (w0 := w) w.heap.size 5 rfl (N := 28) rfl (xs := [(255 : Int)]) (inner := [.int .u8 255]) (ok := fun _ => True) (okp := fun _ => True) ?aR (Kd.reps_scalar (enc := Value.int .u8) [(255 : Int)]) (fun _ h => h) trivial HB.out (below_size HB.out) (by decide) ?_; (case aR => first | (go_simp; done) | (go_simp; rfl)); intro v9 w9 ho hb0 hg hat; obtain ⟨g9, c9, rfl, _⟩ := Kd.R_form ho (by decide); have HC9 := Aside0.mk (Kd.R_reads' ho).2.2; have HL9 := Aside0.mk (Kd.R_reads' ho).2.1; have hb := below_of_grown_none hg; have m1_ := Aside0.mk (HBO.out.below hb); have m2_ := Aside0.mk (below_step HB.out hb); clear HBO HB; have HBO := m1_; have HB := m2_; clear m1_ m2_; have m3_ := Aside0.mk (below_step HB8.out hb); clear HB8; have HB8 := m3_; have m4_ := Aside0.mk (HCO.out.below hb); clear HCO; have HCO := m4_; clear m3_ m4_ ho hb hb0 hg hat)
    | (go_at_call 15; (first
        | (refine (bits_Of (l := [255]) 7 HC9.out HL9.out (by decide) BY9.out).mono ?_; rw [L7_of]; rintro e w10 ⟨hb, rfl⟩; have m1_ := Aside0.mk (HBO.out.below hb); have m2_ := Aside0.mk (below_step HB.out hb); clear HBO HB; have HBO := m1_; have HB := m2_; clear m1_ m2_; have m3_ := Aside0.mk (below_step HB8.out hb); clear HB8; have HB8 := m3_; have m4_ := Aside0.mk (HCO.out.below hb); clear HCO; have HCO := m4_; clear m3_ m4_ hb; have hx0 : w10.cell? ⟨g8, 0, none⟩ = some (.int .u8 130) := cell2_0 (Kd.C_below HC8.out HB8.out); have hx1 : w10.cell? ⟨g8, 1, none⟩ = some (.int .u8 128) := cell2_1 (Kd.C_below HC8.out HB8.out))
        | (refine (bits_Of (l := [130, 128]) 9 HC8.out HL8.out (by decide) BY8.out).mono ?_; rw [L9_of]; rintro e w10 ⟨hb, q, rfl, hq⟩; have HCO := Aside0.mk hq; have m1_ := Aside0.mk (HBO.out.below hb); have m2_ := Aside0.mk (below_step HB.out hb); clear HBO HB; have HBO := m1_; have HB := m2_; clear m1_ m2_; have m3_ := Aside0.mk (below_step HB8.out hb); clear HB8; have HB8 := m3_; clear m3_ hb hq)))
    | (go_at_call 16; (first
        | (with_reducible refine (bits_Len HBO.out.toP).mono ?_)
        | (with_reducible refine (bits_Len HCO.out.toP).mono ?_)); rintro e w' ⟨rfl, rfl⟩)
    | (go_at_call 21; refine (bits_At _ HBO.out.toP (by rw [L9_len]; decide)).mono ?_; (first | rw [L9_at0] | rw [L9_at9]); rintro e w' ⟨rfl, rfl⟩))
  go_ret
  exact ⟨rfl, HB.out⟩
end Go.Proofs.Ytbaopegmdllbeaa.GL
