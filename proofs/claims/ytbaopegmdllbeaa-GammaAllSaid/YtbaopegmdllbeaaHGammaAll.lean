/- The law GammaAll, walked by hand. -/
import Derived.Test.YtbaopegmdllbeaaGGammaLaw
import Derived.Test.YtbaopegmdllbeaaQNumLaw
import Derived.Test.YtbaopegmdllbeaaGSame
import Derived.Deep.RegionHeld3
import Derived.Deep.QuietTactic
import Derived.BigQuiet
namespace Go.Proofs.Ytbaopegmdllbeaa.GL
open Go.RowKit Go.Proofs.YtbaopegmdllbeaaW.PrintWords Go.Proofs.YtbaopegmdllbeaaW.PrintLast Go.Proofs.YtbaopegmdllbeaaW.PrintMore Go.Proofs.Ytbaopegmdllbeaa.Q Go.Proofs.Ytbaopegmdllbeaa.XBit Go.Proofs.Ytbaopegmdllbeaa.G
set_option linter.unusedVariables false
set_option linter.unusedSimpArgs false
/-- An append to another row leaves an object of bits as it was. -/
theorem BO.over {α : Type} {d' : Kd α} {e' base b' p : Nat} {ok' : Nat → Prop} {W w1 : World} {v : Value} {ys : List α} {L : List Bool} (h : BO base W p L) (hv : d'.R e' W b' ok' v ys) (h5 : 5 ≠ e') (h35 : 35 ≠ e') (hg : W.grownBy w1 v.ownBlock) : BO base w1 p L := by
  obtain ⟨vb, h1, h2, h3⟩ := h
  refine ⟨vb, blk_grown h1 hg (fun e => ?_), h2, Kd.R_over h3 hv (by intro q hq; (rcases List.mem_cons.1 hq with rfl | h); exact h5; cases h) hg⟩
  obtain ⟨inner, ho⟩ := Kd.R_own hv
  obtain ⟨cells, hc⟩ := own_typed ho p e.symm
  rw [hc] at h1
  injection h1 with h1
  injection h1 with _ h1
  exact h35 h1.symm
theorem keep_int {k : IntKind} {e base : Nat} {ok : Nat → Prop} {w w' : World} {v : Value} {xs : List Int} (h : (Kd.int k).R e w base ok v xs) (hk : KeepT w w') (h5 : e ≠ 5) (h35 : e ≠ 35) : (Kd.int k).R e w' base ok v xs :=
  hk.R h (by intro q hq; (rcases List.mem_cons.1 hq with rfl | h); exact ⟨h5, h35⟩; cases h)
theorem keep_bool {e base : Nat} {ok : Nat → Prop} {w w' : World} {v : Value} {xs : List Bool} (h : Kd.bool.R e w base ok v xs) (hk : KeepT w w') (h5 : e ≠ 5) (h35 : e ≠ 35) : Kd.bool.R e w' base ok v xs :=
  hk.R h (by intro q hq; (rcases List.mem_cons.1 hq with rfl | h); exact ⟨h5, h35⟩; cases h)
def posG (xs : List Int) : List Int := xs.filter fun x => decide (0 < x)
theorem catG_snoc (xs : List Int) (x : Int) : catG (xs ++ [x]) = catG xs ++ gammaBits x := by simp [catG]
theorem posG_snoc (xs : List Int) (x : Int) : posG (xs ++ [x]) = posG xs ++ if 0 < x then [x] else [] := by
  unfold posG
  rw [List.filter_append]
  by_cases h : 0 < x <;> simp [h]
theorem catG_le (xs : List Int) (h : ∀ x ∈ xs, 0 ≤ x ∧ x < 18446744073709551616) : (catG xs).length ≤ 127 * xs.length := by
  induction xs with
  | nil => simp [catG]
  | cons x r ih =>
    have hx := h x List.mem_cons_self
    have := gammaBits_le hx.1 hx.2
    have := ih (fun y hy => h y (List.mem_cons_of_mem _ hy))
    have e : catG (x :: r) = gammaBits x ++ catG r := by simp [catG]
    rw [e, List.length_append, List.length_cons]
    omega
theorem posG_le (xs : List Int) : (posG xs).length ≤ xs.length := List.length_filter_le _ _
set_option maxRecDepth 1000000 in
set_option maxHeartbeats 8000000 in
theorem GammaAll.core (A0 : Option Addr) (c0 : Nat) (xs : List Int) (w : World) (hC0 : Kd.C (Kd.int .u64) w A0 xs.length xs) (hx0 : ∀ x ∈ xs, 0 ≤ x ∧ x < 18446744073709551616) :
    Calls Try.prog 12 #[.slice A0 xs.length c0] w fun e w' => e = .returned (.bool true) ∧ Below w.heap.size w w' := by
  have HC := Aside0.mk hC0
  have HB := Aside0.mk (Below.refl w.heap.size w)
  have HX := Aside0.mk hx0
  have hu := Try.underlying35
  clear hC0 hx0
  go_enter Try.func12, Try.ntmps12
  go_wp2_with (first
    | (go_at_call 28; refine (law7_begun _).mono ?_; rintro e w11 ⟨rfl, hb⟩; have m2_ := Aside0.mk (below_step HB.out hb); clear HB; have HB := m2_; clear m2_ hb)
    | ((with_reducible refine gate_dst (N := 4) rfl ?_); refine box_event ?hg (N := 4) ?hd (cs := #[.slice none 0 0, .int .i64 0]) (t := 35) ?hr ?_; (case hd => rfl); (case hg => rfl); (case hr => first | (go_simp; done) | (go_simp; rfl)); intro p hg w5 hbox hb; have n0_ := Aside0.mk (BO.new (base := w.heap.size) hbox (by rw [hg]; exact HB.out.size)); have n1_ := Aside0.mk (below_step HB.out hb); clear HB; have HBO := n0_; have HB := n1_; clear n0_ n1_; clear hb hbox hg))
  go_loopw [5, 6, 7] (fun v5 v6 v7 wr => ∃ (i : Nat), v7 = .int .i64 i ∧ i ≤ 30 ∧ i ≤ xs.length ∧ Aside0 (BO w.heap.size wr p (catG (xs.take i))) ∧ Aside0 (Kd.R Kd.bool 4 wr w.heap.size (fun _ => True) v5 (catG (xs.take i))) ∧ Aside0 (Kd.R (Kd.int .u64) 36 wr w.heap.size (fun _ => True) v6 (posG (xs.take i))) ∧ Aside0 (Below w.heap.size w wr)) (fun _ _ v _ => 30 - (intOf v).toNat)
  case atStart => exact ⟨0, by first | rfl | go_num, by omega, Nat.zero_le _, HBO, ⟨Kd.R_nil _ _ _ _ _⟩, ⟨Kd.R_nil _ _ _ _ _⟩, HB⟩
  case round =>
    clear HBO HB
    obtain ⟨i, rfl, hi30, hil, HBO, HW, HP, HB⟩ := hrel
    obtain ⟨D, hD⟩ : ∃ D, D = catG (xs.take i) := ⟨_, rfl⟩
    obtain ⟨V, hV⟩ : ∃ V, V = posG (xs.take i) := ⟨_, rfl⟩
    rw [← hD] at HBO HW
    rw [← hV] at HP
    have hdl : D.length ≤ 127 * 30 := by
      have := catG_le (xs.take i) (fun x hx => HX.out x (List.mem_of_mem_take hx))
      rw [List.length_take] at this
      rw [hD]
      omega
    have hvl : V.length ≤ 30 := by
      have := posG_le (xs.take i)
      rw [List.length_take] at this
      rw [hV]
      omega
    by_cases hlt : i < xs.length ∧ i < 30
    · obtain ⟨x, hx⟩ : ∃ x, x = xs[i]'hlt.1 := ⟨_, rfl⟩
      have hxb := HX.out x (by rw [hx]; exact List.getElem_mem _)
      have hts : xs.take (i + 1) = xs.take i ++ [x] := by rw [hx]; exact List.take_succ_eq_append_getElem hlt.1
      have HD2 := Aside0.mk (show catG (xs.take (i + 1)) = D ++ gammaBits x by rw [hts, catG_snoc, ← hD])
      have HV2 := Aside0.mk (show posG (xs.take (i + 1)) = V ++ if 0 < x then [x] else [] by rw [hts, posG_snoc, ← hV])
      obtain ⟨ad, e, hc⟩ := Kd.at_int (Kd.C_below HC.out HB.out) (i : Int) (Int.natCast_nonneg _) (Int.ofNat_lt.2 hlt.1)
      cases e
      have hrd : rd xs (i : Int) = x := by
        unfold rd
        rw [Int.toNat_natCast, List.getD_eq_getElem?_getD, List.getElem?_eq_getElem hlt.1, hx]
        rfl
      rw [hrd, Int.toNat_natCast] at hc
      have HCW := Aside0.mk (fun (W : World) (hW : Below w.heap.size w W) => (show W.cell? (ad.add i) = some (.int .u64 x) by
        obtain ⟨ad2, e2, hc2⟩ := Kd.at_int (Kd.C_below HC.out hW) (i : Int) (Int.natCast_nonneg _) (Int.ofNat_lt.2 hlt.1)
        cases e2
        rw [hrd, Int.toNat_natCast] at hc2
        exact hc2))
      obtain ⟨kg, hkg⟩ := (gamma_ev hxb.1 hxb.2).rounds
      have HKG := Aside0.mk hkg
      have HGL := Aside0.mk (gamma_Len_f hxb.1 hxb.2)
      have hgl := gammaBits_len hxb.1 hxb.2
      have hg127 := gammaBits_le hxb.1 hxb.2
      obtain ⟨g, hgg⟩ : ∃ g, g = gammaBits x := ⟨_, rfl⟩
      rw [← hgg] at HKG hgl hg127 HD2
      have HGB := Aside0.mk hgg
      have hdz : (D.length : Int) ≤ 3810 := by omega
      have hgz : (g.length : Int) ≤ 127 := by omega
      have h1 : decide ((i : Int) < (xs.length : Int)) = true := decide_eq_true (by omega)
      have h2 : decide ((i : Int) < 30) = true := decide_eq_true (by omega)
      have hi1 : (i : Int) < (xs.length : Int) := by omega
      have hi2 : (i : Int) < 30 := by omega
      have h3 : decide (i < xs.length) = true := decide_eq_true hlt.1
      have HLT := Aside0.mk hlt
      have HDL := Aside0.mk hdl
      have HVL := Aside0.mk hvl
      have HXB := Aside0.mk hxb
      have HG127 := Aside0.mk hg127
      have HGL2 := Aside0.mk hgl
      rw [← hgl] at HGL
      clear hc hlt hx hxb hts hrd hkg hgl hg127 hgg hdl hvl hi30 hil hD hV
      by_cases hpos : 0 < x
      · have hpd := decide_eq_true hpos
        have HPOS := Aside0.mk hpos
        have hc := HCW.out _ HB.out
        rw [if_pos hpos] at HV2
        clear hpos
        go_wp2_with (first
          | (go_at_call 16; refine (bits_Len HBO.out.toP).mono ?_; rintro e w' ⟨rfl, rfl⟩)
          | (go_at_call 34; refine (loessref6_Gamma.calls kg x g _ HKG.out).mono ?_; rintro e w9 ⟨v9, rfl, hR, hb⟩; obtain ⟨A9, c9, rfl⟩ := Kd.R_slice hR; have m1_ := Aside0.mk (HBO.out.below hb); have m2_ := Aside0.mk (Kd.R_below HW.out hb); have m3_ := Aside0.mk (Kd.R_below HP.out hb); have HG := Aside0.mk (Kd.R_lower hR HB.out.size); have m4_ := Aside0.mk (below_step HB.out hb); clear HBO HW HP HB hR hb hc; have HBO := m1_; have HW := m2_; have HP := m3_; have HB := m4_; clear m1_ m2_ m3_ m4_; have hc := HCW.out _ HB.out))
        have hwr : IntKind.i64.wrap ((D.length : Int) + (g.length : Int)) = (D.length : Int) + (g.length : Int) := (i64_w _).trans (w64 (by omega) (by omega))
        go_region_held3 (fun w' => w'.cell? (ad.add i) = some (.int .u64 x)) (first | exact HCW.out _ HB.out | exact HCW.out _ HB.out.drew) (first
          | (go_at_call 33; refine (gamma_Put x (HBO.out.below (Below.drew (Below.refl _ _))) (by first | exact HB.out.size | exact HB.out.drew.size) (by have := HDL.out; omega) HPOS.out HXB.out.2).mono ?_; rintro e w12 ⟨rfl, hO, hb, hk⟩; have m1_ : Aside0 (BO w.heap.size w12 p (D ++ g)) := ⟨by rw [HGB.out]; exact hO⟩; have m2_ := Aside0.mk (keep_bool (Kd.R_drew HW.out) hk (by decide) (by decide)); have m3_ := Aside0.mk (keep_int (Kd.R_drew HP.out) hk (by decide) (by decide)); have m5_ := Aside0.mk (keep_bool (Kd.R_drew HG.out) hk (by decide) (by decide)); have m4_ := Aside0.mk (HB.out.drew.trans hb); clear HBO HW HP HB HG hb hk hO; have HBO := m1_; have HW := m2_; have HP := m3_; have HB := m4_; have HG := m5_; clear m1_ m2_ m3_ m4_ m5_)
          | (go_at_call 32; refine (gamma_Len.calls _ _ _ HGL.out).mono ?_; rintro e w13 ⟨rfl, hb⟩; have m1_ := Aside0.mk (HBO.out.below hb); have m2_ := Aside0.mk (Kd.R_below HW.out hb); have m3_ := Aside0.mk (Kd.R_below HP.out hb); have m5_ := Aside0.mk (Kd.R_below HG.out hb); have m4_ := Aside0.mk (below_step HB.out hb); clear HBO HW HP HB HG hb; have HBO := m1_; have HW := m2_; have HP := m3_; have HB := m4_; have HG := m5_; clear m1_ m2_ m3_ m4_ m5_)
          | (go_at_call 16; refine (bits_Len HBO.out.toP).mono ?_; rw [show ((D ++ g).length : Int) = (D.length : Int) + (g.length : Int) by rw [List.length_append]; rfl]; rintro e w' ⟨rfl, rfl⟩))
        clear hwr
        go_wp2_with (first
          | ((with_reducible refine gate_builtin (b := .append) (xs := #[.tmp 65, .tmp 66]) rfl ?_); at_builtin; refine Kd.R_append_rows Kd.bool (w0 := w) w.heap.size rfl (.tmp 65) (.tmp 66) 59 4 (.bool false) 1 rfl Try.underlying59 (by kernel_rfl) rfl (by decide) (by omega) _ D g _ _ _ (fun _ => True) (fun _ => False) rfl rfl ?aO ?aR (fun _ _ h => h) (fun _ h => h.elim) ?aF ?aB ?aS ?aL ?_; (case aO => exact HW.out); (case aR => exact (Kd.R_reads' HG.out).2.2); (case aF => exact (fun _ _ => trivial)); (case aB => exact HB.out); (case aS => exact below_size HB.out); (case aL => have := HDL.out; have := HG127.out; omega); intro v1 w1 ho hb hg hat; have m1_ := Aside0.mk (HBO.out.over HW.out (by decide) (by decide) hg); have m2_ := Aside0.mk ho; have m3_ := Aside0.mk (Kd.R_over HP.out HW.out (by intro q hq; (rcases List.mem_cons.1 hq with rfl | h); decide; cases h) hg); have m4_ := Aside0.mk hb; clear HBO HW HP HB HG ho hb hg hat; have HBO := m1_; have HW := m2_; have HP := m3_; have HB := m4_; clear m1_ m2_ m3_ m4_; (try clear hc); have hc := HCW.out _ HB.out)
          | ((with_reducible refine gate_builtin (b := .append) (xs := #[.tmp 73, .tmp 78]) rfl ?_); at_builtin; refine Kd.R_append (Kd.int .u64) (w0 := w) w.heap.size rfl (.tmp 73) (.tmp 78) 32 36 (.int .u64 0) 8 rfl Try.underlying32 (by kernel_rfl) rfl (by decide) (by omega) _ V x [.int .u64 x] (fun _ => True) (fun _ => False) rfl rfl ?aP (fun _ hk => hk.elim) ?aF ?aO ?aB ?aS ?aL ?_; (case aP => exact rfl); (case aF => exact (fun _ _ => trivial)); (case aO => exact HP.out); (case aB => exact HB.out); (case aS => exact below_size HB.out); (case aL => have := HVL.out; omega); intro v2 w2 ho hb hg hat; have m1_ := Aside0.mk (HBO.out.over HP.out (by decide) (by decide) hg); have m2_ := Aside0.mk (Kd.R_over HW.out HP.out (by intro q hq; (rcases List.mem_cons.1 hq with rfl | h); decide; cases h) hg); have m3_ := Aside0.mk ho; have m4_ := Aside0.mk hb; clear HBO HW HP HB ho hb hg hat; have HBO := m1_; have HW := m2_; have HP := m3_; have HB := m4_; clear m1_ m2_ m3_ m4_))
        refine ⟨⟨i + 1, by first | rfl | go_num, HLT.out.2, HLT.out.1, ⟨by rw [HD2.out]; exact HBO.out⟩, ⟨by rw [HD2.out]; exact HW.out⟩, ⟨by rw [HV2.out]; exact HP.out⟩, HB⟩, ?_⟩
        have := HLT.out.2
        simp [intOf]
        omega
      · have hx0 : x = 0 := by have := HXB.out.1; omega
        subst hx0
        have hg0 : g = [] := HGB.out
        subst hg0
        have hc := HCW.out _ HB.out
        clear hpos
        rw [if_neg (by decide)] at HV2
        go_wp2_with (first
          | (go_at_call 16; refine (bits_Len HBO.out.toP).mono ?_; rintro e w' ⟨rfl, rfl⟩)
          | (go_at_call 34; refine (loessref6_Gamma.calls kg 0 [] _ HKG.out).mono ?_; rintro e w9 ⟨v9, rfl, hR, hb⟩; obtain ⟨A9, c9, rfl⟩ := Kd.R_slice hR; have m1_ := Aside0.mk (HBO.out.below hb); have m2_ := Aside0.mk (Kd.R_below HW.out hb); have m3_ := Aside0.mk (Kd.R_below HP.out hb); have HG := Aside0.mk (Kd.R_lower hR HB.out.size); have m4_ := Aside0.mk (below_step HB.out hb); clear HBO HW HP HB hR hb hc; have HBO := m1_; have HW := m2_; have HP := m3_; have HB := m4_; clear m1_ m2_ m3_ m4_; have hc := HCW.out _ HB.out))
        have hwr : IntKind.i64.wrap (D.length : Int) = (D.length : Int) := (i64_w _).trans (w64 (by omega) (by omega))
        go_region_held3 (fun w' => w'.cell? (ad.add i) = some (.int .u64 0)) (first | exact HCW.out _ HB.out | exact HCW.out _ HB.out.drew) (first
          | (go_at_call 33; refine (gamma_Put_zero _ _).mono ?_; rintro e w12 ⟨rfl, rfl⟩; have m4_ := Aside0.mk HB.out.drew; have m1_ := Aside0.mk (HBO.out.below (Below.drew (Below.refl _ _))); have m2_ := Aside0.mk (Kd.R_drew HW.out); have m3_ := Aside0.mk (Kd.R_drew HP.out); have m5_ := Aside0.mk (Kd.R_drew HG.out); clear HBO HW HP HB HG; have HBO := m1_; have HW := m2_; have HP := m3_; have HB := m4_; have HG := m5_; clear m1_ m2_ m3_ m4_ m5_)
          | (go_at_call 32; refine (gamma_Len.calls _ _ _ HGL.out).mono ?_; rintro e w13 ⟨rfl, hb⟩; have m1_ := Aside0.mk (HBO.out.below hb); have m2_ := Aside0.mk (Kd.R_below HW.out hb); have m3_ := Aside0.mk (Kd.R_below HP.out hb); have m5_ := Aside0.mk (Kd.R_below HG.out hb); have m4_ := Aside0.mk (below_step HB.out hb); clear HBO HW HP HB HG hb; have HBO := m1_; have HW := m2_; have HP := m3_; have HB := m4_; have HG := m5_; clear m1_ m2_ m3_ m4_ m5_)
          | (go_at_call 16; refine (bits_Len HBO.out.toP).mono ?_; rintro e w' ⟨rfl, rfl⟩))
        clear hwr
        go_wp2_with (first
          | ((with_reducible refine gate_builtin (b := .append) (xs := #[.tmp 65, .tmp 66]) rfl ?_); at_builtin; refine Kd.R_append_rows Kd.bool (w0 := w) w.heap.size rfl (.tmp 65) (.tmp 66) 59 4 (.bool false) 1 rfl Try.underlying59 (by kernel_rfl) rfl (by decide) (by omega) _ D ([] : List Bool) _ _ _ (fun _ => True) (fun _ => False) rfl rfl ?aO ?aR (fun _ _ h => h) (fun _ h => h.elim) ?aF ?aB ?aS ?aL ?_; (case aO => exact HW.out); (case aR => exact (Kd.R_reads' HG.out).2.2); (case aF => exact (fun _ _ => trivial)); (case aB => exact HB.out); (case aS => exact below_size HB.out); (case aL => have := HDL.out; have := HG127.out; omega); intro v1 w1 ho hb hg hat; have m1_ := Aside0.mk (HBO.out.over HW.out (by decide) (by decide) hg); have m2_ := Aside0.mk ho; have m3_ := Aside0.mk (Kd.R_over HP.out HW.out (by intro q hq; (rcases List.mem_cons.1 hq with rfl | h); decide; cases h) hg); have m4_ := Aside0.mk hb; clear HBO HW HP HB HG ho hb hg hat; have HBO := m1_; have HW := m2_; have HP := m3_; have HB := m4_; clear m1_ m2_ m3_ m4_; (try clear hc); have hc := HCW.out _ HB.out))
        refine ⟨⟨i + 1, by first | rfl | go_num, HLT.out.2, HLT.out.1, ⟨by rw [HD2.out, List.append_nil]; exact HBO.out⟩, ⟨by rw [HD2.out]; exact HW.out⟩, ⟨by rw [HV2.out, List.append_nil]; exact HP.out⟩, HB⟩, ?_⟩
        have := HLT.out.2
        simp [intOf]
        omega
    · have hall : allI D 0 (V.length : Int) = some (V, (D.length : Int)) := by
        have := allG_cat (xs.take i) [] (fun x hx => HX.out x (List.mem_of_mem_take hx))
        rw [List.nil_append, ← hD] at this
        rw [allI, if_neg (by omega), Int.toNat_natCast, hV]
        exact this
      have hall1 : allI D 0 ((V.length : Int) + 1) = none := by
        rw [allI, if_neg (by omega)] at hall ⊢
        rw [show ((V.length : Int) + 1).toNat = V.length + 1 by omega]
        rw [Int.toNat_natCast] at hall
        exact allG_over D V.length 0 _ _ hall (getG_end D)
      have HALL := Aside0.mk hall
      have HALL1 := Aside0.mk hall1
      obtain ⟨Aw, cw, rfl, hlw, _⟩ := Kd.R_reads HW.out
      obtain ⟨Ap, cp, rfl, _, _⟩ := Kd.R_reads HP.out
      have HLW := Aside0.mk hlw
      have HDL := Aside0.mk (show D.length < 100000000000 by omega)
      have HVL := Aside0.mk (show (V.length : Int) < 1000000000 by omega)
      have HVL1 := Aside0.mk (show (V.length : Int) + 1 < 1000000000 by omega)
      have hvz : (V.length : Int) ≤ 30 := by omega
      have hdz : (D.length : Int) ≤ 3810 := by omega
      have hcase : (¬ (i : Int) < (xs.length : Int)) ∨ ((i : Int) < (xs.length : Int) ∧ ¬ (i : Int) < 30) := by omega
      clear hall hall1 hlw hdl hvl hi30 hil hD hV hlt
      rcases hcase with h1 | ⟨h1, h2⟩
      · have hd1 := decide_eq_false h1
        have hd1n : decide (i < xs.length) = false := decide_eq_false (by omega)
        go_wp2_with (first
          | (go_at_call 31; (first
              | ((with_reducible refine (gamma_All 0 ((V.length : Int) + 1) HBO.out.toP HDL.out HVL1.out).mono ?_); rw [HALL1.out]; rintro e w15 ⟨hb, rfl⟩; have m1_ := Aside0.mk (HBO.out.below hb); have m2_ := Aside0.mk (Kd.R_below HW.out hb); have m3_ := Aside0.mk (Kd.R_below HP.out hb); have m4_ := Aside0.mk (below_step HB.out hb); clear HBO HW HP HB; have HBO := m1_; have HW := m2_; have HP := m3_; have HB := m4_; clear m1_ m2_ m3_ m4_; have m5_ := Aside0.mk (Kd.C_below HCA.out hb); clear HCA hb; have HCA := m5_; clear m5_)
              | ((with_reducible refine (gamma_All 0 (V.length : Int) HBO.out.toP HDL.out HVL.out).mono ?_); rw [HALL.out]; rintro e w14 ⟨hb, va, rfl, hRa⟩; obtain ⟨Aa, ca, rfl, _, hCa⟩ := Kd.R_reads hRa; have HCA := Aside0.mk hCa; have m1_ := Aside0.mk (HBO.out.below hb); have m2_ := Aside0.mk (Kd.R_below HW.out hb); have m3_ := Aside0.mk (Kd.R_below HP.out hb); have m4_ := Aside0.mk (below_step HB.out hb); clear HBO HW HP HB; have HBO := m1_; have HW := m2_; have HP := m3_; have HB := m4_; clear m1_ m2_ m3_ m4_; clear hb hRa hCa)))
          | (go_at_call 35; (with_reducible refine (law_Same rfl HBO.out.toP (Kd.R_reads' HW.out).2.2 HLW.out HDL.out).mono ?_); rintro e w16 ⟨rfl, hb⟩; have m1_ := Aside0.mk (HBO.out.below hb); have m2_ := Aside0.mk (Kd.R_below HW.out hb); have m3_ := Aside0.mk (Kd.R_below HP.out hb); have m4_ := Aside0.mk (below_step HB.out hb); clear HBO HW HP HB; have HBO := m1_; have HW := m2_; have HP := m3_; have HB := m4_; clear m1_ m2_ m3_ m4_; have m5_ := Aside0.mk (Kd.C_below HCA.out hb); clear HCA hb; have HCA := m5_; clear m5_))
        have HCP := Aside0.mk (Kd.R_reads' HP.out).2.2
        clear HBO HW HP
        go_loopw [16] (fun v16 wq => ∃ (j : Nat), v16 = .int .i64 j ∧ j ≤ V.length ∧ Aside0 (Drawn0 w16 wq)) (fun v _ => V.length - (intOf v).toNat)
        case atStart => exact ⟨0, by first | rfl | go_num, Nat.zero_le _, ⟨Drawn0.refl _⟩⟩
        case round =>
          obtain ⟨j, rfl, hj, HD⟩ := hrel
          obtain ⟨nq0, rfl⟩ := HD.out.out
          clear HD
          by_cases hlt2 : j < V.length
          · have hj40 : (j : Int) < 40 := by omega
            have hjl : (j : Int) < (V.length : Int) := by omega
            obtain ⟨ad1, e1, hx1⟩ := Kd.at_int HCA.out (j : Int) (Int.natCast_nonneg _) hjl
            obtain ⟨ad2, e2, hx2⟩ := Kd.at_int HCP.out (j : Int) (Int.natCast_nonneg _) hjl
            cases e1
            cases e2
            have HLT2 := Aside0.mk hlt2
            replace hx1 : w16.cell? (ad1.add j) = some (.int .u64 (V.getD j 0)) := hx1
            replace hx2 : w16.cell? (ad2.add j) = some (.int .u64 (V.getD j 0)) := hx2
            go_wp2
            go_quiet (fail)
            go_wp2
            refine ⟨⟨j + 1, by first | rfl | go_num, HLT2.out, ⟨⟨_, rfl⟩⟩⟩, ?_⟩
            have := HLT2.out
            simp [intOf]
            omega
          · go_wp2
            go_ret
            exact ⟨rfl, pw_below_drewN HB.out _⟩
      · have hd1 := decide_eq_true h1
        have hd1n : decide (i < xs.length) = true := decide_eq_true (by omega)
        have hd2 := decide_eq_false h2
        go_wp2_with (first
          | (go_at_call 31; (first
              | ((with_reducible refine (gamma_All 0 ((V.length : Int) + 1) HBO.out.toP HDL.out HVL1.out).mono ?_); rw [HALL1.out]; rintro e w15 ⟨hb, rfl⟩; have m1_ := Aside0.mk (HBO.out.below hb); have m2_ := Aside0.mk (Kd.R_below HW.out hb); have m3_ := Aside0.mk (Kd.R_below HP.out hb); have m4_ := Aside0.mk (below_step HB.out hb); clear HBO HW HP HB; have HBO := m1_; have HW := m2_; have HP := m3_; have HB := m4_; clear m1_ m2_ m3_ m4_; have m5_ := Aside0.mk (Kd.C_below HCA.out hb); clear HCA hb; have HCA := m5_; clear m5_)
              | ((with_reducible refine (gamma_All 0 (V.length : Int) HBO.out.toP HDL.out HVL.out).mono ?_); rw [HALL.out]; rintro e w14 ⟨hb, va, rfl, hRa⟩; obtain ⟨Aa, ca, rfl, _, hCa⟩ := Kd.R_reads hRa; have HCA := Aside0.mk hCa; have m1_ := Aside0.mk (HBO.out.below hb); have m2_ := Aside0.mk (Kd.R_below HW.out hb); have m3_ := Aside0.mk (Kd.R_below HP.out hb); have m4_ := Aside0.mk (below_step HB.out hb); clear HBO HW HP HB; have HBO := m1_; have HW := m2_; have HP := m3_; have HB := m4_; clear m1_ m2_ m3_ m4_; clear hb hRa hCa)))
          | (go_at_call 35; (with_reducible refine (law_Same rfl HBO.out.toP (Kd.R_reads' HW.out).2.2 HLW.out HDL.out).mono ?_); rintro e w16 ⟨rfl, hb⟩; have m1_ := Aside0.mk (HBO.out.below hb); have m2_ := Aside0.mk (Kd.R_below HW.out hb); have m3_ := Aside0.mk (Kd.R_below HP.out hb); have m4_ := Aside0.mk (below_step HB.out hb); clear HBO HW HP HB; have HBO := m1_; have HW := m2_; have HP := m3_; have HB := m4_; clear m1_ m2_ m3_ m4_; have m5_ := Aside0.mk (Kd.C_below HCA.out hb); clear HCA hb; have HCA := m5_; clear m5_))
        have HCP := Aside0.mk (Kd.R_reads' HP.out).2.2
        clear HBO HW HP
        go_loopw [16] (fun v16 wq => ∃ (j : Nat), v16 = .int .i64 j ∧ j ≤ V.length ∧ Aside0 (Drawn0 w16 wq)) (fun v _ => V.length - (intOf v).toNat)
        case atStart => exact ⟨0, by first | rfl | go_num, Nat.zero_le _, ⟨Drawn0.refl _⟩⟩
        case round =>
          obtain ⟨j, rfl, hj, HD⟩ := hrel
          obtain ⟨nq0, rfl⟩ := HD.out.out
          clear HD
          by_cases hlt2 : j < V.length
          · have hj40 : (j : Int) < 40 := by omega
            have hjl : (j : Int) < (V.length : Int) := by omega
            obtain ⟨ad1, e1, hx1⟩ := Kd.at_int HCA.out (j : Int) (Int.natCast_nonneg _) hjl
            obtain ⟨ad2, e2, hx2⟩ := Kd.at_int HCP.out (j : Int) (Int.natCast_nonneg _) hjl
            cases e1
            cases e2
            have HLT2 := Aside0.mk hlt2
            replace hx1 : w16.cell? (ad1.add j) = some (.int .u64 (V.getD j 0)) := hx1
            replace hx2 : w16.cell? (ad2.add j) = some (.int .u64 (V.getD j 0)) := hx2
            go_wp2
            go_quiet (fail)
            go_wp2
            refine ⟨⟨j + 1, by first | rfl | go_num, HLT2.out, ⟨⟨_, rfl⟩⟩⟩, ?_⟩
            have := HLT2.out
            simp [intOf]
            omega
          · go_wp2
            go_ret
            exact ⟨rfl, pw_below_drewN HB.out _⟩
theorem GammaAll.walk (P : True) (a0 : Option Addr) (len0 cap0 : Nat) (z0 : List Int) (w : World) (w0 : (a0 = none ∧ len0 = 0 ∧ cap0 = 0 ∧ z0 = []) ∨ ∃ x, a0 = some x ∧ len0 ≤ cap0 ∧ cap0 ≤ maxLen ∧ z0.length = cap0 ∧ (∀ i, i < z0.length → w.cell? (x.add i) = some (.int .u64 (z0.getD i 0))) ∧ ∀ n ∈ z0, (Lit.int .u64 n).wf = true) (y0 : len0 * 8 ≤ 140737488351232) :
    Calls Try.prog 12 #[.slice a0 len0 cap0] w fun e w' => e = .returned (.bool true) ∧ Below w.heap.size w w' := by
  obtain ⟨l0, rfl, hr0, hm0, hw0, hc0⟩ := ReadsInt.ofRowC w0
  exact GammaAll.core _ _ l0 w (Kd.C_of_reads (d := (0 : Int)) (h1 := fun _ => rfl) hr0) (fun x hx => wfU64 (hw0 x hx))
end Go.Proofs.Ytbaopegmdllbeaa.GL
