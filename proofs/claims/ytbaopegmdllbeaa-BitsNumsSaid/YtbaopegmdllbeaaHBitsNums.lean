/- The law BitsNums, walked by hand. -/
import Derived.Test.YtbaopegmdllbeaaGBitsLaw
import Derived.Test.YtbaopegmdllbeaaQNumLaw
namespace Go.Proofs.Ytbaopegmdllbeaa.GL
open Go.RowKit Go.Proofs.YtbaopegmdllbeaaW.PrintWords Go.Proofs.YtbaopegmdllbeaaW.PrintLast Go.Proofs.YtbaopegmdllbeaaW.PrintMore Go.Proofs.Ytbaopegmdllbeaa.Q Go.Proofs.Ytbaopegmdllbeaa.XBit Go.Proofs.Ytbaopegmdllbeaa.G
set_option linter.unusedVariables false
set_option linter.unusedSimpArgs false
theorem BO.over1 {α : Type} {d' : Kd α} {e' base b' p : Nat} {ok' : Nat → Prop} {W w1 : World} {v : Value} {ys : List α} {L : List Bool} (h : BO base W p L) (hv : d'.R e' W b' ok' v ys) (h5 : 5 ≠ e') (h35 : 35 ≠ e') (hg : W.grownBy w1 v.ownBlock) : BO base w1 p L := by
  obtain ⟨vb, h1, h2, h3⟩ := h
  refine ⟨vb, blk_grown h1 hg (fun e => ?_), h2, Kd.R_over h3 hv (by intro q hq; (rcases List.mem_cons.1 hq with rfl | h); exact h5; cases h) hg⟩
  obtain ⟨inner, ho⟩ := Kd.R_own hv
  obtain ⟨cells, hc⟩ := own_typed ho p e.symm
  rw [hc] at h1
  injection h1 with h1
  injection h1 with _ h1
  exact h35 h1.symm
theorem keep_int1 {k : IntKind} {e base : Nat} {ok : Nat → Prop} {w w' : World} {v : Value} {xs : List Int} (h : (Kd.int k).R e w base ok v xs) (hk : KeepT w w') (h5 : e ≠ 5) (h35 : e ≠ 35) : (Kd.int k).R e w' base ok v xs :=
  hk.R h (by intro q hq; (rcases List.mem_cons.1 hq with rfl | h); exact ⟨h5, h35⟩; cases h)
/-- Numbers, each with so many bits, one behind the other. -/
def catN (ps : List (Int × Nat)) : List Bool := ps.flatMap fun q => numBits q.1 q.2
def valN (ps : List (Int × Nat)) : List Int := ps.map fun q => q.1 % 2 ^ q.2
def cntN (ps : List (Int × Nat)) : List Int := ps.map fun q => (q.2 : Int)
def OkN (ps : List (Int × Nat)) : Prop := ps.length ≤ 30 ∧ ∀ q ∈ ps, q.2 ≤ 64
theorem catN_snoc (ps : List (Int × Nat)) (q : Int × Nat) : catN (ps ++ [q]) = catN ps ++ numBits q.1 q.2 := by simp [catN]
theorem valN_snoc (ps : List (Int × Nat)) (q : Int × Nat) : valN (ps ++ [q]) = valN ps ++ [q.1 % 2 ^ q.2] := by simp [valN]
theorem cntN_snoc (ps : List (Int × Nat)) (q : Int × Nat) : cntN (ps ++ [q]) = cntN ps ++ [(q.2 : Int)] := by simp [cntN]
theorem catN_le (ps : List (Int × Nat)) (h : ∀ q ∈ ps, q.2 ≤ 64) : (catN ps).length ≤ 64 * ps.length := by
  induction ps with
  | nil => simp [catN]
  | cons x r ih =>
    have := h x List.mem_cons_self
    have := ih (fun y hy => h y (List.mem_cons_of_mem _ hy))
    have e : catN (x :: r) = numBits x.1 x.2 ++ catN r := by simp [catN]
    rw [e, List.length_append, List.length_cons, numBits_len]
    omega
theorem OkN.snoc {ps : List (Int × Nat)} (h : OkN ps) {q : Int × Nat} (hl : ps.length < 30) (hq : q.2 ≤ 64) : OkN (ps ++ [q]) :=
  ⟨by rw [List.length_append, List.length_singleton]; omega, fun r hr => by
    rcases List.mem_append.1 hr with hr | hr
    · exact h.2 r hr
    · rw [List.mem_singleton.1 hr]; exact hq⟩
theorem catN_at (ps : List (Int × Nat)) (j : Nat) (hj : j < ps.length) (h : ∀ q ∈ ps, q.2 ≤ 64) :
    numAt (catN ps) ((catN (ps.take j)).length : Int) (ps[j].2 : Int) = some (ps[j].1 % 2 ^ ps[j].2) ∧ (catN (ps.take (j + 1))).length = (catN (ps.take j)).length + ps[j].2 := by
  have e : ps = ps.take j ++ [ps[j]] ++ ps.drop (j + 1) := by
    rw [← List.take_succ_eq_append_getElem hj, List.take_append_drop]
  have h3 : catN (ps.take j ++ [ps[j]] ++ ps.drop (j + 1)) = catN (ps.take j) ++ numBits ps[j].1 ps[j].2 ++ catN (ps.drop (j + 1)) := by simp only [catN, List.flatMap_append, List.flatMap_cons, List.flatMap_nil, List.append_nil]
  have e2 : catN ps = catN (ps.take j) ++ numBits ps[j].1 ps[j].2 ++ catN (ps.drop (j + 1)) := (congrArg catN e).trans h3
  refine ⟨?_, ?_⟩
  · rw [e2]
    exact numAt_mid _ _ _ _ (h _ (List.getElem_mem _))
  · rw [List.take_succ_eq_append_getElem hj, catN_snoc, List.length_append, numBits_len]
set_option maxRecDepth 1000000 in
set_option maxHeartbeats 8000000 in
theorem BitsNums.core (A0 A1 : Option Addr) (c0 c1 : Nat) (xs ls : List Int) (w : World) (hC0 : Kd.C (Kd.int .u64) w A0 xs.length xs) (hC1 : Kd.C (Kd.int .i64) w A1 ls.length ls) (hx0 : ∀ x ∈ xs, 0 ≤ x ∧ x < 18446744073709551616) :
    Calls Try.prog 4 #[.slice A0 xs.length c0, .slice A1 ls.length c1] w fun e w' => e = .returned (.bool true) ∧ Below w.heap.size w w' := by
  have HC := Aside0.mk hC0
  have HCL := Aside0.mk hC1
  have HB := Aside0.mk (Below.refl w.heap.size w)
  have HX := Aside0.mk hx0
  have hu := Try.underlying35
  clear hC0 hC1 hx0
  go_enter Try.func4, Try.ntmps4
  go_wp2_with (first
    | (go_at_call 13; refine (law6_begun _).mono ?_; rintro e w11 ⟨rfl, hb⟩; have m2_ := Aside0.mk (below_step HB.out hb); clear HB; have HB := m2_; clear m2_ hb)
    | ((with_reducible refine gate_dst (N := 6) rfl ?_); refine box_event ?hg (N := 6) ?hd (cs := #[.slice none 0 0, .int .i64 0]) (t := 35) ?hr ?_; (case hd => rfl); (case hg => rfl); (case hr => first | (go_simp; done) | (go_simp; rfl)); intro p hg w5 hbox hb; have n0_ := Aside0.mk (BO.new (base := w.heap.size) hbox (by rw [hg]; exact HB.out.size)); have n1_ := Aside0.mk (below_step HB.out hb); clear HB; have HBO := n0_; have HB := n1_; clear n0_ n1_; clear hb hbox hg))
  go_loopw [7, 8, 9] (fun v7 v8 v9 wr => ∃ (ps : List (Int × Nat)), v9 = .int .i64 ps.length ∧ Aside0 (OkN ps) ∧ Aside0 (BO w.heap.size wr p (catN ps)) ∧ Aside0 (Kd.R (Kd.int .u64) 36 wr w.heap.size (fun _ => True) v7 (valN ps)) ∧ Aside0 (Kd.R (Kd.int .i64) 3 wr w.heap.size (fun _ => True) v8 (cntN ps)) ∧ Aside0 (Below w.heap.size w wr)) (fun _ _ v _ => 30 - (intOf v).toNat)
  case atStart => exact ⟨[], by first | rfl | go_num, ⟨by simp [OkN]⟩, HBO, ⟨Kd.R_nil _ _ _ _ _⟩, ⟨Kd.R_nil _ _ _ _ _⟩, HB⟩
  case round =>
    clear HBO HB
    obtain ⟨ps, rfl, HOK, HBO, HV, HN, HB⟩ := hrel
    obtain ⟨i, hi⟩ : ∃ i, i = ps.length := ⟨_, rfl⟩
    rw [← hi]
    have hi30 : i ≤ 30 := by rw [hi]; exact HOK.out.1
    by_cases hlt : i < xs.length ∧ i < ls.length ∧ i < 30
    · obtain ⟨x, hx⟩ : ∃ x, x = xs[i]'hlt.1 := ⟨_, rfl⟩
      obtain ⟨l, hl⟩ : ∃ l, l = ls[i]'hlt.2.1 := ⟨_, rfl⟩
      have hxb := HX.out x (by rw [hx]; exact List.getElem_mem _)
      obtain ⟨ad, e, hc⟩ := Kd.at_int (Kd.C_below HC.out HB.out) (i : Int) (Int.natCast_nonneg _) (Int.ofNat_lt.2 hlt.1)
      cases e
      obtain ⟨ad1, e, hcl⟩ := Kd.at_int (Kd.C_below HCL.out HB.out) (i : Int) (Int.natCast_nonneg _) (Int.ofNat_lt.2 hlt.2.1)
      cases e
      have hrd : rd xs (i : Int) = x := by
        unfold rd
        rw [Int.toNat_natCast, List.getD_eq_getElem?_getD, List.getElem?_eq_getElem hlt.1, hx]
        rfl
      have hrl : rd ls (i : Int) = l := by
        unfold rd
        rw [Int.toNat_natCast, List.getD_eq_getElem?_getD, List.getElem?_eq_getElem hlt.2.1, hl]
        rfl
      rw [hrd, Int.toNat_natCast] at hc
      rw [hrl, Int.toNat_natCast] at hcl
      have h1 : decide ((i : Int) < (xs.length : Int)) = true := decide_eq_true (by omega)
      have h2 : decide ((i : Int) < (ls.length : Int)) = true := decide_eq_true (by omega)
      have h1n : decide (i < xs.length) = true := decide_eq_true hlt.1
      have h2n : decide (i < ls.length) = true := decide_eq_true hlt.2.1
      have hi1 : (i : Int) < (xs.length : Int) := by omega
      have hi2 : (i : Int) < (ls.length : Int) := by omega
      have hi3 : (i : Int) < 30 := by omega
      have HLT := Aside0.mk hlt
      have HXB := Aside0.mk hxb
      have HI := Aside0.mk hi
      have HRD := Aside0.mk hrd
      clear hlt hx hl hxb hrd hrl hi hi30
      have htm : -65 < l.tmod 65 ∧ l.tmod 65 < 65 := ⟨by have := Int.lt_tmod_of_pos l (b := 65) (by decide); omega, Int.tmod_lt_of_pos l (by decide)⟩
      obtain ⟨nn, hnn⟩ := Int.eq_ofNat_of_zero_le (show 0 ≤ (l.tmod 65 + 65).tmod 65 from Int.tmod_nonneg 65 (by omega))
      have hnb : (l.tmod 65 + 65).tmod 65 < 65 := Int.tmod_lt_of_pos _ (by decide)
      have hn64 : (nn : Int) ≤ 64 := by omega
      have ha : (wrap64 (l.tmod 65 + 65)).tmod 65 = (nn : Int) := by rw [w64 (by omega) (by omega)]; exact hnn
      have HN64 := Aside0.mk (show nn ≤ 64 by omega)
      have hcat := catN_le ps HOK.out.2
      have HCAT := Aside0.mk (show (catN ps).length ≤ 1920 by have := HOK.out.1; omega)
      have HVL := Aside0.mk (show (valN ps).length ≤ 30 by unfold valN; rw [List.length_map]; exact HOK.out.1)
      have HNL := Aside0.mk (show (cntN ps).length ≤ 30 by unfold cntN; rw [List.length_map]; exact HOK.out.1)
      have HCW := Aside0.mk (fun (W : World) (hW : Below w.heap.size w W) => (show W.cell? (ad.add i) = some (.int .u64 x) by
        obtain ⟨ad2, e2, hc2⟩ := Kd.at_int (Kd.C_below HC.out hW) (i : Int) (Int.natCast_nonneg _) hi1
        cases e2
        rw [HRD.out, Int.toNat_natCast] at hc2
        exact hc2))
      clear htm hnn hnb hcat
      by_cases h64 : nn < 64
      · have h64d : decide ((nn : Int) < 64) = true := decide_eq_true (by omega)
        have h64z : (nn : Int) < 64 := by omega
        obtain ⟨q, hq⟩ : ∃ q : Int, q = 2 ^ nn := ⟨_, rfl⟩
        have hq0 : 1 ≤ q := by rw [hq]; have : (0 : Int) < 2 ^ nn := Int.pow_pos (by decide); omega
        have hq1 : q ≤ 9223372036854775808 := by
          rw [hq]
          have h1 : (2 : Int) ^ nn ≤ 2 ^ 63 := by have := Nat.pow_le_pow_right (n := 2) (by decide) (show nn ≤ 63 by omega); exact_mod_cast this
          exact h1
        obtain ⟨y, hy⟩ : ∃ y : Int, y = x % 2 ^ nn := ⟨_, rfl⟩
        have hand : Go.bits .and .u64 x (q - 1) = y := by
          rw [hy, hq]
          exact bits_mask .u64 64 (by decide) wraps_u64 nn (by omega) x HXB.out.1 HXB.out.2
        have hsh : IntKind.u64.wrap (2 ^ nn) = q := by rw [← hq]; exact Q.u64 (by omega) (by omega)
        have HY := Aside0.mk hy
        clear hq hy h64
        go_wp2_with (first
          | (go_at_call 18; (with_reducible refine (bits_PutNum_in x nn HBO.out HB.out.size (by have := HCAT.out; omega) HN64.out HXB.out.1 HXB.out.2).mono ?_); rintro e w12 ⟨rfl, hO, hb, hk⟩; have m1_ := Aside0.mk hO; have m2_ := Aside0.mk (keep_int1 HV.out hk (by decide) (by decide)); have m3_ := Aside0.mk (keep_int1 HN.out hk (by decide) (by decide)); have m4_ := Aside0.mk (HB.out.trans hb); clear HBO HV HN HB hO hb hk hc hcl; have HBO := m1_; have HV := m2_; have HN := m3_; have HB := m4_; clear m1_ m2_ m3_ m4_)
          | ((with_reducible refine gate_builtin (b := .append) (xs := #[.tmp 60, .tmp 62]) rfl ?_); at_builtin; refine Kd.R_append (Kd.int .u64) (w0 := w) w.heap.size rfl (.tmp 60) (.tmp 62) 32 36 (.int .u64 0) 8 rfl Try.underlying32 (by kernel_rfl) rfl (by decide) (by omega) _ (valN ps) y [.int .u64 y] (fun _ => True) (fun _ => False) rfl rfl ?aP (fun _ hk => hk.elim) ?aF ?aO ?aB ?aS ?aL ?_; (case aP => exact rfl); (case aF => exact (fun _ _ => trivial)); (case aO => exact HV.out); (case aB => exact HB.out); (case aS => exact below_size HB.out); (case aL => have := HVL.out; omega); intro v2 w2 ho hb hg hat; have m1_ := Aside0.mk (HBO.out.over1 HV.out (by decide) (by decide) hg); have m2_ := Aside0.mk ho; have m3_ := Aside0.mk (Kd.R_over HN.out HV.out (by intro q hq; (rcases List.mem_cons.1 hq with rfl | h); decide; cases h) hg); have m4_ := Aside0.mk hb; clear HBO HV HN HB ho hb hg hat; have HBO := m1_; have HV := m2_; have HN := m3_; have HB := m4_; clear m1_ m2_ m3_ m4_)
          | ((with_reducible refine gate_builtin (b := .append) (xs := #[.tmp 64, .tmp 66]) rfl ?_); at_builtin; refine Kd.R_append (Kd.int .i64) (w0 := w) w.heap.size rfl (.tmp 64) (.tmp 66) 33 3 (.int .i64 0) 8 rfl Try.underlying33 (by kernel_rfl) rfl (by decide) (by omega) _ (cntN ps) (nn : Int) [.int .i64 nn] (fun _ => True) (fun _ => False) rfl rfl ?bP (fun _ hk => hk.elim) ?bF ?bO ?bB ?bS ?bL ?_; (case bP => exact rfl); (case bF => exact (fun _ _ => trivial)); (case bO => exact HN.out); (case bB => exact HB.out); (case bS => exact below_size HB.out); (case bL => have := HNL.out; omega); intro v3 w3 ho hb hg hat; have m1_ := Aside0.mk (HBO.out.over1 HN.out (by decide) (by decide) hg); have m2_ := Aside0.mk (Kd.R_over HV.out HN.out (by intro q hq; (rcases List.mem_cons.1 hq with rfl | h); decide; cases h) hg); have m3_ := Aside0.mk ho; have m4_ := Aside0.mk hb; clear HBO HV HN HB ho hb hg hat; have HBO := m1_; have HV := m2_; have HN := m3_; have HB := m4_; clear m1_ m2_ m3_ m4_)
          )
        refine ⟨⟨ps ++ [(x, nn)], ?_, ⟨HOK.out.snoc (by rw [← HI.out]; exact HLT.out.2.2) HN64.out⟩, ⟨by rw [catN_snoc]; exact HBO.out⟩, ⟨by rw [valN_snoc, ← HY.out]; exact HV.out⟩, ⟨by rw [cntN_snoc]; exact HN.out⟩, HB⟩, ?_⟩
        · rw [List.length_append, List.length_singleton, ← HI.out]; first | rfl | go_num
        · have := HLT.out.2.2
          simp [intOf]
          omega
      · have h64d : decide ((nn : Int) < 64) = false := decide_eq_false (by omega)
        have h64n : decide (nn < 64) = false := decide_eq_false (by omega)
        have hxy : x % 2 ^ nn = x := by
          obtain rfl : nn = 64 := by omega
          exact Int.emod_eq_of_lt HXB.out.1 HXB.out.2
        have HY := Aside0.mk hxy.symm
        clear h64 hxy
        go_wp2_with (first
          | (go_at_call 18; (with_reducible refine (bits_PutNum_in x nn HBO.out HB.out.size (by have := HCAT.out; omega) HN64.out HXB.out.1 HXB.out.2).mono ?_); rintro e w12 ⟨rfl, hO, hb, hk⟩; have m1_ := Aside0.mk hO; have m2_ := Aside0.mk (keep_int1 HV.out hk (by decide) (by decide)); have m3_ := Aside0.mk (keep_int1 HN.out hk (by decide) (by decide)); have m4_ := Aside0.mk (HB.out.trans hb); clear HBO HV HN HB hO hb hk hc hcl; have HBO := m1_; have HV := m2_; have HN := m3_; have HB := m4_; clear m1_ m2_ m3_ m4_)
          | ((with_reducible refine gate_builtin (b := .append) (xs := #[.tmp 60, .tmp 62]) rfl ?_); at_builtin; refine Kd.R_append (Kd.int .u64) (w0 := w) w.heap.size rfl (.tmp 60) (.tmp 62) 32 36 (.int .u64 0) 8 rfl Try.underlying32 (by kernel_rfl) rfl (by decide) (by omega) _ (valN ps) x [.int .u64 x] (fun _ => True) (fun _ => False) rfl rfl ?aP (fun _ hk => hk.elim) ?aF ?aO ?aB ?aS ?aL ?_; (case aP => exact rfl); (case aF => exact (fun _ _ => trivial)); (case aO => exact HV.out); (case aB => exact HB.out); (case aS => exact below_size HB.out); (case aL => have := HVL.out; omega); intro v2 w2 ho hb hg hat; have m1_ := Aside0.mk (HBO.out.over1 HV.out (by decide) (by decide) hg); have m2_ := Aside0.mk ho; have m3_ := Aside0.mk (Kd.R_over HN.out HV.out (by intro q hq; (rcases List.mem_cons.1 hq with rfl | h); decide; cases h) hg); have m4_ := Aside0.mk hb; clear HBO HV HN HB ho hb hg hat; have HBO := m1_; have HV := m2_; have HN := m3_; have HB := m4_; clear m1_ m2_ m3_ m4_)
          | ((with_reducible refine gate_builtin (b := .append) (xs := #[.tmp 64, .tmp 66]) rfl ?_); at_builtin; refine Kd.R_append (Kd.int .i64) (w0 := w) w.heap.size rfl (.tmp 64) (.tmp 66) 33 3 (.int .i64 0) 8 rfl Try.underlying33 (by kernel_rfl) rfl (by decide) (by omega) _ (cntN ps) (nn : Int) [.int .i64 nn] (fun _ => True) (fun _ => False) rfl rfl ?bP (fun _ hk => hk.elim) ?bF ?bO ?bB ?bS ?bL ?_; (case bP => exact rfl); (case bF => exact (fun _ _ => trivial)); (case bO => exact HN.out); (case bB => exact HB.out); (case bS => exact below_size HB.out); (case bL => have := HNL.out; omega); intro v3 w3 ho hb hg hat; have m1_ := Aside0.mk (HBO.out.over1 HN.out (by decide) (by decide) hg); have m2_ := Aside0.mk (Kd.R_over HV.out HN.out (by intro q hq; (rcases List.mem_cons.1 hq with rfl | h); decide; cases h) hg); have m3_ := Aside0.mk ho; have m4_ := Aside0.mk hb; clear HBO HV HN HB ho hb hg hat; have HBO := m1_; have HV := m2_; have HN := m3_; have HB := m4_; clear m1_ m2_ m3_ m4_)
          )
        refine ⟨⟨ps ++ [(x, nn)], ?_, ⟨HOK.out.snoc (by rw [← HI.out]; exact HLT.out.2.2) HN64.out⟩, ⟨by rw [catN_snoc]; exact HBO.out⟩, ⟨by rw [valN_snoc, ← HY.out]; exact HV.out⟩, ⟨by rw [cntN_snoc]; exact HN.out⟩, HB⟩, ?_⟩
        · rw [List.length_append, List.length_singleton, ← HI.out]; first | rfl | go_num
        · have := HLT.out.2.2
          simp [intOf]
          omega
    · have HDN := Aside0.mk (show (catN ps).length < 100000000000 by have := catN_le ps HOK.out.2; have := HOK.out.1; omega)
      have HVC := Aside0.mk HV.out
      obtain ⟨Av, cv, rfl, _, _⟩ := Kd.R_reads HV.out
      obtain ⟨An, cn, rfl, _, _⟩ := Kd.R_reads HN.out
      have hvl : (valN ps).length = i := by unfold valN; rw [List.length_map, hi]
      have hnl : (cntN ps).length = i := by unfold cntN; rw [List.length_map, hi]
      have hcase : (¬ (i : Int) < (xs.length : Int)) ∨ ((i : Int) < (xs.length : Int) ∧ ¬ (i : Int) < (ls.length : Int)) ∨ ((i : Int) < (xs.length : Int) ∧ (i : Int) < (ls.length : Int) ∧ ¬ (i : Int) < 30) := by omega
      have HCV := Aside0.mk (Kd.R_reads' HV.out).2.2
      have HCN := Aside0.mk (Kd.R_reads' HN.out).2.2
      have HVL := Aside0.mk hvl
      have HNL := Aside0.mk hnl
      have HI := Aside0.mk hi
      rw [hvl, hnl]
      clear hlt hi hvl hnl HV HN HVC
      rcases hcase with h1 | ⟨h1, h2⟩ | ⟨h1, h2, h3⟩
      · have hd1 := decide_eq_false h1
        have hd1n : decide (i < xs.length) = false := decide_eq_false (by omega)
        go_wp2
        go_loop [12, 13] (fun v12 v13 => ∃ (j : Nat), v13 = .int .i64 j ∧ v12 = .int .i64 (catN (ps.take j)).length ∧ j ≤ i) (fun _ v => i - (intOf v).toNat)
        case atStart => exact ⟨0, by first | rfl | go_num, by first | rfl | (simp [catN]; done), Nat.zero_le _⟩
        case round =>
          obtain ⟨j, rfl, rfl, hj⟩ := hrel
          by_cases hlt2 : j < i
          · have hjp : j < ps.length := by rw [← HI.out]; exact hlt2
            obtain ⟨hat1, hat2⟩ := catN_at ps j hjp HOK.out.2
            have hjz : (j : Int) < (i : Int) := by omega
            have hj31 : (j : Int) < 31 := by omega
            obtain ⟨ad1, e1, hx1⟩ := Kd.at_int HCV.out (j : Int) (Int.natCast_nonneg _) (by rw [HVL.out]; exact hjz)
            obtain ⟨ad2, e2, hx2⟩ := Kd.at_int HCN.out (j : Int) (Int.natCast_nonneg _) (by rw [HNL.out]; exact hjz)
            cases e1
            cases e2
            have hv : rd (valN ps) (j : Int) = ps[j].1 % 2 ^ ps[j].2 := by
              unfold rd valN
              rw [Int.toNat_natCast, List.getD_eq_getElem?_getD, List.getElem?_map, List.getElem?_eq_getElem hjp]
              rfl
            have hn : rd (cntN ps) (j : Int) = (ps[j].2 : Int) := by
              unfold rd cntN
              rw [Int.toNat_natCast, List.getD_eq_getElem?_getD, List.getElem?_map, List.getElem?_eq_getElem hjp]
              rfl
            have h64 := HOK.out.2 _ (List.getElem_mem hjp)
            have hcl := catN_le (ps.take j) (fun q hq => HOK.out.2 q (List.mem_of_mem_take hq))
            have htl : (ps.take j).length ≤ 30 := by rw [List.length_take]; omega
            obtain ⟨m, hm⟩ : ∃ m, m = ps[j].2 := ⟨_, rfl⟩
            obtain ⟨y, hy⟩ : ∃ y, y = ps[j].1 % 2 ^ ps[j].2 := ⟨_, rfl⟩
            obtain ⟨t, ht⟩ : ∃ t, t = (catN (ps.take j)).length := ⟨_, rfl⟩
            rw [hv, ← hy] at hx1
            rw [hn, ← hm] at hx2
            rw [← hy, ← ht, ← hm] at hat1
            rw [← ht, ← hm] at hat2
            rw [← hm] at h64
            rw [← ht] at hcl ⊢
            simp only [Int.toNat_natCast] at hx1 hx2
            have HAT := Aside0.mk hat1
            have HAT2 := Aside0.mk hat2
            have HLT2 := Aside0.mk hlt2
            have htz : (t : Int) ≤ 1920 := by omega
            have hmz : (m : Int) ≤ 64 := by omega
            clear hat1 hat2 hlt2 hv hn hm hy ht hjp h64 hcl htl
            go_wp2_with (first
              | (go_at_call 19; (with_reducible refine (bits_Num _ _ HBO.out.toP HDN.out).mono ?_); rw [HAT.out]; rintro e w' ⟨rfl, rfl⟩; simp only [numR, Option.getD_some, Option.isSome_some]))
            go_round
            case rel => exact ⟨j + 1, by go_num, by rw [HAT2.out]; first | rfl | go_num, HLT2.out⟩
            case measure => have := HLT2.out; simp [intOf]; omega
          · obtain rfl : j = i := by omega
            have he : catN (ps.take j) = catN ps := by rw [List.take_of_length_le (by rw [← HI.out]; exact Nat.le_refl _)]
            rw [he]
            clear he
            go_wp2_with (first
              | (go_at_call 16; (with_reducible refine (bits_Len HBO.out.toP).mono ?_); rintro e w' ⟨rfl, rfl⟩))
            go_ret
            exact ⟨rfl, HB.out⟩
      · have hd1 := decide_eq_true h1
        have hd1n : decide (i < xs.length) = true := decide_eq_true (by omega)
        have hd2 := decide_eq_false h2
        have hd2n : decide (i < ls.length) = false := decide_eq_false (by omega)
        go_wp2
        go_loop [12, 13] (fun v12 v13 => ∃ (j : Nat), v13 = .int .i64 j ∧ v12 = .int .i64 (catN (ps.take j)).length ∧ j ≤ i) (fun _ v => i - (intOf v).toNat)
        case atStart => exact ⟨0, by first | rfl | go_num, by first | rfl | (simp [catN]; done), Nat.zero_le _⟩
        case round =>
          obtain ⟨j, rfl, rfl, hj⟩ := hrel
          by_cases hlt2 : j < i
          · have hjp : j < ps.length := by rw [← HI.out]; exact hlt2
            obtain ⟨hat1, hat2⟩ := catN_at ps j hjp HOK.out.2
            have hjz : (j : Int) < (i : Int) := by omega
            have hj31 : (j : Int) < 31 := by omega
            obtain ⟨ad1, e1, hx1⟩ := Kd.at_int HCV.out (j : Int) (Int.natCast_nonneg _) (by rw [HVL.out]; exact hjz)
            obtain ⟨ad2, e2, hx2⟩ := Kd.at_int HCN.out (j : Int) (Int.natCast_nonneg _) (by rw [HNL.out]; exact hjz)
            cases e1
            cases e2
            have hv : rd (valN ps) (j : Int) = ps[j].1 % 2 ^ ps[j].2 := by
              unfold rd valN
              rw [Int.toNat_natCast, List.getD_eq_getElem?_getD, List.getElem?_map, List.getElem?_eq_getElem hjp]
              rfl
            have hn : rd (cntN ps) (j : Int) = (ps[j].2 : Int) := by
              unfold rd cntN
              rw [Int.toNat_natCast, List.getD_eq_getElem?_getD, List.getElem?_map, List.getElem?_eq_getElem hjp]
              rfl
            have h64 := HOK.out.2 _ (List.getElem_mem hjp)
            have hcl := catN_le (ps.take j) (fun q hq => HOK.out.2 q (List.mem_of_mem_take hq))
            have htl : (ps.take j).length ≤ 30 := by rw [List.length_take]; omega
            obtain ⟨m, hm⟩ : ∃ m, m = ps[j].2 := ⟨_, rfl⟩
            obtain ⟨y, hy⟩ : ∃ y, y = ps[j].1 % 2 ^ ps[j].2 := ⟨_, rfl⟩
            obtain ⟨t, ht⟩ : ∃ t, t = (catN (ps.take j)).length := ⟨_, rfl⟩
            rw [hv, ← hy] at hx1
            rw [hn, ← hm] at hx2
            rw [← hy, ← ht, ← hm] at hat1
            rw [← ht, ← hm] at hat2
            rw [← hm] at h64
            rw [← ht] at hcl ⊢
            simp only [Int.toNat_natCast] at hx1 hx2
            have HAT := Aside0.mk hat1
            have HAT2 := Aside0.mk hat2
            have HLT2 := Aside0.mk hlt2
            have htz : (t : Int) ≤ 1920 := by omega
            have hmz : (m : Int) ≤ 64 := by omega
            clear hat1 hat2 hlt2 hv hn hm hy ht hjp h64 hcl htl
            go_wp2_with (first
              | (go_at_call 19; (with_reducible refine (bits_Num _ _ HBO.out.toP HDN.out).mono ?_); rw [HAT.out]; rintro e w' ⟨rfl, rfl⟩; simp only [numR, Option.getD_some, Option.isSome_some]))
            go_round
            case rel => exact ⟨j + 1, by go_num, by rw [HAT2.out]; first | rfl | go_num, HLT2.out⟩
            case measure => have := HLT2.out; simp [intOf]; omega
          · obtain rfl : j = i := by omega
            have he : catN (ps.take j) = catN ps := by rw [List.take_of_length_le (by rw [← HI.out]; exact Nat.le_refl _)]
            rw [he]
            clear he
            go_wp2_with (first
              | (go_at_call 16; (with_reducible refine (bits_Len HBO.out.toP).mono ?_); rintro e w' ⟨rfl, rfl⟩))
            go_ret
            exact ⟨rfl, HB.out⟩
      · have hd1 := decide_eq_true h1
        have hd1n : decide (i < xs.length) = true := decide_eq_true (by omega)
        have hd2 := decide_eq_true h2
        have hd2n : decide (i < ls.length) = true := decide_eq_true (by omega)
        have hd3 := decide_eq_false h3
        go_wp2
        go_loop [12, 13] (fun v12 v13 => ∃ (j : Nat), v13 = .int .i64 j ∧ v12 = .int .i64 (catN (ps.take j)).length ∧ j ≤ i) (fun _ v => i - (intOf v).toNat)
        case atStart => exact ⟨0, by first | rfl | go_num, by first | rfl | (simp [catN]; done), Nat.zero_le _⟩
        case round =>
          obtain ⟨j, rfl, rfl, hj⟩ := hrel
          by_cases hlt2 : j < i
          · have hjp : j < ps.length := by rw [← HI.out]; exact hlt2
            obtain ⟨hat1, hat2⟩ := catN_at ps j hjp HOK.out.2
            have hjz : (j : Int) < (i : Int) := by omega
            have hj31 : (j : Int) < 31 := by omega
            obtain ⟨ad1, e1, hx1⟩ := Kd.at_int HCV.out (j : Int) (Int.natCast_nonneg _) (by rw [HVL.out]; exact hjz)
            obtain ⟨ad2, e2, hx2⟩ := Kd.at_int HCN.out (j : Int) (Int.natCast_nonneg _) (by rw [HNL.out]; exact hjz)
            cases e1
            cases e2
            have hv : rd (valN ps) (j : Int) = ps[j].1 % 2 ^ ps[j].2 := by
              unfold rd valN
              rw [Int.toNat_natCast, List.getD_eq_getElem?_getD, List.getElem?_map, List.getElem?_eq_getElem hjp]
              rfl
            have hn : rd (cntN ps) (j : Int) = (ps[j].2 : Int) := by
              unfold rd cntN
              rw [Int.toNat_natCast, List.getD_eq_getElem?_getD, List.getElem?_map, List.getElem?_eq_getElem hjp]
              rfl
            have h64 := HOK.out.2 _ (List.getElem_mem hjp)
            have hcl := catN_le (ps.take j) (fun q hq => HOK.out.2 q (List.mem_of_mem_take hq))
            have htl : (ps.take j).length ≤ 30 := by rw [List.length_take]; omega
            obtain ⟨m, hm⟩ : ∃ m, m = ps[j].2 := ⟨_, rfl⟩
            obtain ⟨y, hy⟩ : ∃ y, y = ps[j].1 % 2 ^ ps[j].2 := ⟨_, rfl⟩
            obtain ⟨t, ht⟩ : ∃ t, t = (catN (ps.take j)).length := ⟨_, rfl⟩
            rw [hv, ← hy] at hx1
            rw [hn, ← hm] at hx2
            rw [← hy, ← ht, ← hm] at hat1
            rw [← ht, ← hm] at hat2
            rw [← hm] at h64
            rw [← ht] at hcl ⊢
            simp only [Int.toNat_natCast] at hx1 hx2
            have HAT := Aside0.mk hat1
            have HAT2 := Aside0.mk hat2
            have HLT2 := Aside0.mk hlt2
            have htz : (t : Int) ≤ 1920 := by omega
            have hmz : (m : Int) ≤ 64 := by omega
            clear hat1 hat2 hlt2 hv hn hm hy ht hjp h64 hcl htl
            go_wp2_with (first
              | (go_at_call 19; (with_reducible refine (bits_Num _ _ HBO.out.toP HDN.out).mono ?_); rw [HAT.out]; rintro e w' ⟨rfl, rfl⟩; simp only [numR, Option.getD_some, Option.isSome_some]))
            go_round
            case rel => exact ⟨j + 1, by go_num, by rw [HAT2.out]; first | rfl | go_num, HLT2.out⟩
            case measure => have := HLT2.out; simp [intOf]; omega
          · obtain rfl : j = i := by omega
            have he : catN (ps.take j) = catN ps := by rw [List.take_of_length_le (by rw [← HI.out]; exact Nat.le_refl _)]
            rw [he]
            clear he
            go_wp2_with (first
              | (go_at_call 16; (with_reducible refine (bits_Len HBO.out.toP).mono ?_); rintro e w' ⟨rfl, rfl⟩))
            go_ret
            exact ⟨rfl, HB.out⟩
theorem BitsNums.walk (P : True) (a0 : Option Addr) (len0 cap0 : Nat) (z0 : List Int) (a1 : Option Addr) (len1 cap1 : Nat) (z1 : List Int) (w : World) (w0 : (a0 = none ∧ len0 = 0 ∧ cap0 = 0 ∧ z0 = []) ∨ ∃ x, a0 = some x ∧ len0 ≤ cap0 ∧ cap0 ≤ maxLen ∧ z0.length = cap0 ∧ (∀ i, i < z0.length → w.cell? (x.add i) = some (.int .u64 (z0.getD i 0))) ∧ ∀ n ∈ z0, (Lit.int .u64 n).wf = true) (y0 : len0 * 8 ≤ 140737488351232) (w1 : (a1 = none ∧ len1 = 0 ∧ cap1 = 0 ∧ z1 = []) ∨ ∃ x, a1 = some x ∧ len1 ≤ cap1 ∧ cap1 ≤ maxLen ∧ z1.length = cap1 ∧ (∀ i, i < z1.length → w.cell? (x.add i) = some (.int .i64 (z1.getD i 0))) ∧ ∀ n ∈ z1, (Lit.int .i64 n).wf = true) (y1 : len1 * 8 ≤ 140737488351232) :
    Calls Try.prog 4 #[.slice a0 len0 cap0, .slice a1 len1 cap1] w fun e w' => e = .returned (.bool true) ∧ Below w.heap.size w w' := by
  obtain ⟨l0, rfl, hr0, hm0, hw0, hc0⟩ := ReadsInt.ofRowC w0
  obtain ⟨l1, rfl, hr1, hm1, hw1, hc1⟩ := ReadsInt.ofRowC w1
  exact BitsNums.core _ _ _ _ l0 l1 w (Kd.C_of_reads (d := (0 : Int)) (h1 := fun _ => rfl) hr0) (Kd.C_of_reads (d := (0 : Int)) (h1 := fun _ => rfl) hr1) (fun x hx => wfU64 (hw0 x hx))
end Go.Proofs.Ytbaopegmdllbeaa.GL
