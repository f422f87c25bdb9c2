/- loesslaw7.begun by hand. -/
import Derived.Test.YtbaopegmdllbeaaGGamma
import Derived.Test.YtbaopegmdllbeaaGBitsLaw
import Derived.Test.YtbaopegmdllbeaaXBitx30
namespace Go.Proofs.Ytbaopegmdllbeaa.GL
open Go.RowKit Go.Proofs.YtbaopegmdllbeaaW.PrintWords Go.Proofs.YtbaopegmdllbeaaW.PrintLast Go.Proofs.YtbaopegmdllbeaaW.PrintMore Go.Proofs.Ytbaopegmdllbeaa.Q Go.Proofs.Ytbaopegmdllbeaa.XBit Go.Proofs.Ytbaopegmdllbeaa.G
set_option linter.unusedVariables false
set_option linter.unusedSimpArgs false
def L6 : List Bool := [] ++ gammaBits 1 ++ gammaBits 5
theorem L6_len : L6.length = 6 := by decide
theorem L6_get : getG L6 1 = some (5, 6) := by decide
theorem L6_all : allI L6 0 2 = some ([1, 5], 6) := by decide
/-- gamma.Len. -/
def lenG (x : Int) : Int := if x = 0 then 0 else 2 * (Lib.bitLen x.toNat : Int) - 1
theorem gamma_Len_f {x : Int} (h0 : 0 ≤ x) (h1 : x < 18446744073709551616) : gamma_Len.f x = some (lenG x) := by
  have hb := Lib.bitLen_le x.toNat 64 (Nat.le_refl _) (by omega)
  unfold gamma_Len.f bits_Len64.f lenG
  rw [if_pos ⟨h0, by omega⟩, Option.bind_some]
  congr 1
  by_cases hx : x = 0
  · subst hx
    rw [show Lib.bitLen (Int.toNat 0) = 0 from rfl]
    unfold mx wrap64
    decide
  · rw [if_neg hx]
    have hp := bitLen_pos (n := x.toNat) (by omega)
    rw [w64 (x := 2 * (Lib.bitLen x.toNat : Int)) (by omega) (by omega), w64 (by omega) (by omega)]
    unfold mx
    rw [if_pos (by omega)]
theorem len5 : gamma_Len.f 5 = some 5 := by rw [gamma_Len_f (by decide) (by decide)]; rfl
theorem len0 : gamma_Len.f 0 = some 0 := by rw [gamma_Len_f (by decide) (by decide)]; rfl
set_option maxRecDepth 1000000 in
set_option maxHeartbeats 8000000 in
theorem law7_begun (w : World) : Calls Try.prog 28 #[] w fun e w' => e = .returned (.bool true) ∧ Below w.heap.size w w' := by
  have HB := Aside0.mk (Below.refl w.heap.size w)
  have hu := Try.underlying35
  have G5 := Aside0.mk len5
  have G0 := Aside0.mk len0
  go_enter Try.func28, Try.ntmps28
  go_wp2_with (first
    | ((with_reducible refine gate_dst (N := 1) rfl ?_); refine box_event ?hg (N := 1) ?hd (cs := #[.slice none 0 0, .int .i64 0]) (t := 35) ?hr ?_; (case hd => rfl); (case hg => rfl); (case hr => first | (go_simp; done) | (go_simp; rfl)); intro p hg w5 hbox hb; have n0_ := Aside0.mk (BO.new (base := w.heap.size) hbox (by rw [hg]; exact Nat.le_refl _)); have n1_ := Aside0.mk hb; clear HB; have HBO := n0_; have HB := n1_; clear n0_ n1_; clear hb hbox hg)
    | (go_at_call 33; (first
        | ((with_reducible refine (gamma_Put_zero _ _).mono ?_); rintro e w' ⟨rfl, rfl⟩)
        | (refine (gamma_Put _ HBO.out HB.out.size (by decide) (by decide) (by decide)).mono ?_; rintro e w6 ⟨rfl, hO, hb, hk⟩; have m1_ := Aside0.mk hO; have m2_ := Aside0.mk (HB.out.trans hb); clear HBO HB hO hb hk; have HBO := m1_; have HB := m2_; clear m1_ m2_)))
    | (go_at_call 29; have m1_ : Aside0 (BO w.heap.size _ p L6) := ⟨HBO.out⟩; clear HBO; have HBO := m1_; clear m1_; refine (gamma_Get _ HBO.out.toP (by rw [L6_len]; decide)).mono ?_; rw [L6_get]; rintro e w' ⟨rfl, rfl⟩; simp only [getR])
    | (go_at_call 31; refine (gamma_All _ _ HBO.out.toP (by rw [L6_len]; decide) (by decide)).mono ?_; rw [L6_all]; rintro e w8 ⟨hb, v8, rfl, hR⟩; obtain ⟨g8, c8, rfl, _⟩ := Kd.R_form hR (by decide); have HC8 := Aside0.mk (Kd.R_reads' hR).2.2; have hx0 : w8.cell? ⟨g8, 0, none⟩ = some (.int .u64 1) := cell2_0 (Kd.R_reads' hR).2.2; have m1_ := Aside0.mk (HBO.out.below hb); have m2_ := Aside0.mk (below_step HB.out hb); clear HBO HB; have HBO := m1_; have HB := m2_; clear m1_ m2_; clear hb hR)
    | (go_at_call 32; (first
        | ((with_reducible refine (gamma_Len.calls _ _ _ G5.out).mono ?_))
        | ((with_reducible refine (gamma_Len.calls _ _ _ G0.out).mono ?_))); rintro e w9 ⟨rfl, hb⟩; have m1_ := Aside0.mk (HBO.out.below hb); have m2_ := Aside0.mk (below_step HB.out hb); clear HBO HB; have HBO := m1_; have HB := m2_; clear m1_ m2_; clear hb)
    | (go_at_call 16; refine (bits_Len HBO.out.toP).mono ?_; rw [L6_len]; rintro e w' ⟨rfl, rfl⟩))
  go_ret
  exact ⟨rfl, HB.out⟩
end Go.Proofs.Ytbaopegmdllbeaa.GL
