import Derived.SizedLaws
import Derived.ChangeSlices
import Derived.Test.YtkhcmddeeodbkaaZSortedAny26
-- Own texts and, of the words that the kit's print program wrote for this claim, those that are needed here: put together by wip/prune.py.
set_option linter.unusedSimpArgs false
set_option linter.unusedVariables false
namespace Go.Proofs.Ytkhcmddeeodbkaa.GL
open Go.RowKit Go.Proofs.YtkhcmddeeodbkaaW.PrintWords Go.Proofs.YtkhcmddeeodbkaaW.PrintLast Go.Proofs.YtkhcmddeeodbkaaW.PrintMore Go.Proofs.Ytkhcmddeeodbkaa.Q Go.Proofs.Ytkhcmddeeodbkaa.XSor Go.Proofs.Ytkhcmddeeodbkaa.G
theorem short_c {w : World} {A : Option Addr} {n c M : Nat} {l : List Int} (hn : n = l.length) (hM : M = (l.take 60).length) (hc : n ≤ c) : Calls Try.prog 24 #[.slice A n c, .int .i64 60] w fun e w' => e = .returned (.slice A M c) ∧ w = w' := by
  rw [List.length_take, ← hn] at hM
  by_cases h : 60 < n
  · obtain ⟨i0, hi, hi1, hi2, hi3⟩ := info_parts info5
    have hrun : ∀ W : World, (Instr.slice 40 (.slice A n c) none (some (.int .i64 60)) none).run Try.prog W = .ok (.slice A M c) W := by
      intro W
      rw [hM, Nat.min_eq_left (by omega)]
      exact cut_to (P := Try.prog) 40 5 .i64 Try.underlying40 hi A n c 60 (by decide) (by omega) hc W
    have hd : decide ((60 : Int) < (n : Int)) = true := decide_eq_true (by omega)
    have hd2 : decide (60 < n) = true := decide_eq_true h
    clear hM h hi hn
    go_enter Try.func24, Try.ntmps24
    go_wp2
    go_ret
    exact ⟨rfl, rfl⟩
  · have hML : M = n := by omega
    rw [hML]
    have hd : decide ((60 : Int) < (n : Int)) = false := decide_eq_false (by omega)
    have hd2 : decide (60 < n) = false := decide_eq_false h
    clear hM hML h hn
    go_enter Try.func24, Try.ntmps24
    go_wp2
    go_ret
    exact ⟨rfl, rfl⟩
theorem own_g {W : World} {base : Nat} {v : Value} {xs : List Int} (h : Kd.R (Kd.int .u8) 5 W base (fun _ => True) v xs) (hne : 0 < xs.length) : ∃ g cap, v = .slice (some ⟨g, 0, none⟩) xs.length cap ∧ base ≤ g := by
  obtain ⟨hok, inner, hown, hr⟩ := h
  obtain ⟨hl, h1⟩ := hown
  rcases h1 with h1 | ⟨g, cap, cur, h2, hg, h3⟩
  · have h2 := h1.2
    omega
  · exact ⟨g, cap, h2, hg⟩
theorem pairs_SmR {l : List Rc} (h : ∀ x ∈ l, I64 x.f2.f0 ∧ I64 x.f2.f1) : ∀ p ∈ pairsL l, SmR (recP p) := by
  intro p hp
  unfold pairsL at hp
  obtain ⟨x, hx, rfl⟩ := List.mem_map.1 hp
  have h1 := dedK_mem _ x ((ordK_mem _ x).1 hx)
  exact recsL_sm h 30 x (List.mem_filter.1 h1).1
theorem putN_pos' (n : Int) : 0 < (putN n).length := by
  unfold putN
  rw [putU]
  split <;> simp
theorem set_byt {l : List Int} (h : Byt l) (i : Nat) {y : Int} (h0 : 0 ≤ y) (h1 : y < 256) : Byt (l.set i y) := by
  intro z hz
  rcases List.mem_or_eq_of_mem_set hz with h2 | h2
  · exact h z h2
  · rw [h2]; exact ⟨h0, h1⟩
theorem xor_u8 (x y : Int) : 0 ≤ Go.bits .xor .u8 x y ∧ Go.bits .xor .u8 x y < 256 := wfU8 (wf_bits .xor .u8 x y)
theorem enc_pos (L : List Pr) : 0 < (encP L).length := by
  have := putN_pos' (L.length : Int)
  unfold encP
  rw [List.length_append]
  omega
theorem enc_le {L : List Pr} (hl : L.length ≤ 1000) (h : ∀ p ∈ L, SmR (recP p)) : (encP L).length ≤ 80010 := by
  rw [← preP_all]
  exact preP_len hl h L.length
theorem appB {ops : Array Oper} {rest : List Oper} {o : Oper} {a : Act} {Q : Exit → Act → World → Prop} {w0 W : World} {base : Nat} (hgd : o.guard = none) (s x : Operand)
    (ho : o.op = .call { callee := .builtin .append, args := #[s, x], argTypes := #[40, 40] }) (v : Value) (xs ys : List Int) (A : Option Addr) (m c : Nat) (hs : a.eval s = v) (hx : a.eval x = .slice A m c)
    (HO : Kd.R (Kd.int .u8) 5 W base (fun _ => True) v xs) (HR : Kd.C (Kd.int .u8) W A m ys) (HB : Below base w0 W) (hb : base ≤ W.heap.size) (hl : xs.length + m ≤ 1000000)
    (h : ∀ v1 w1, Kd.R (Kd.int .u8) 5 w1 base (fun _ => True) v1 (xs ++ ys) → Below base w0 w1 → wpList Try.prog ops Q rest (a.put o.dst v1) w1) : wpList Try.prog ops Q (o :: rest) a W :=
  Kd.R_append_rows (Kd.int .u8) (w0 := w0) base hgd s x 40 5 (.int .u8 0) 1 ho Try.underlying40 info5 (by rfl) (by decide) (by omega) v xs ys A m c (fun _ => True) (fun _ => False) hs hx HO HR (fun _ _ h => h) (fun _ h => h.elim) (fun _ _ => trivial) HB hb (by omega) (fun v1 w1 h1 h2 _ _ => h v1 w1 h1 h2)
theorem c3 {W : World} {base g m cap : Nat} {E : List Int} (hm : m = E.length) (h : Kd.R (Kd.int .u8) 5 W base (fun _ => True) (.slice (some ⟨g, 0, none⟩) m cap) E) : Kd.C (Kd.int .u8) W (some ⟨g, 0, none⟩) m E := by
  subst hm
  exact (Kd.R_reads' h).2.2
theorem ti {m i : Nat} {E : List Int} (hm : m = E.length) (hi : i < m) : i = (E.take i).length := by rw [List.length_take]; omega
theorem ni {m i cap : Nat} (hi : i < m) (h : m ≤ cap) : i ≤ cap := by omega
theorem ci {W : World} {base g m i cap : Nat} {E : List Int} (hm : m = E.length) (hi : i < m) (h : Kd.R (Kd.int .u8) 5 W base (fun _ => True) (.slice (some ⟨g, 0, none⟩) m cap) E) : Kd.C (Kd.int .u8) W (some ⟨g, 0, none⟩) i (E.take i) := by
  have h1 := Kd.C_take (m := i) (Kd.R_reads' h).2.2 (by omega)
  rw [← ti hm hi] at h1
  exact h1
set_option maxRecDepth 1000000 in
set_option maxHeartbeats 8000000 in
theorem SortedAny.core {w : World} {A0 : Option Addr} {n0 c0 : Nat} {lb : List Int} {A1 : Option Addr} {n1 c1 : Nat} {l : List Rc} (a x : Int) (hn : n0 = lb.length) (hC : Kd.C (Kd.int .u8) w A0 n0 lb) (hc : n0 ≤ c0) (hb : Byt lb) (hn1 : n1 = l.length) (hC1 : Kd.C k27 w A1 n1 l) (hc1 : n1 ≤ c1) (hl : ∀ y ∈ l, I64 y.f2.f0 ∧ I64 y.f2.f1) (ha : I64 a) (hx : 0 ≤ x ∧ x < 256) :
    Calls Try.prog 8 #[.slice A0 n0 c0, .slice A1 n1 c1, .int .i64 a, .int .u8 x] w fun e w' => e = .returned (.bool true) ∧ Below w.heap.size w w' := by
  have HB := Aside0.mk (Below.refl w.heap.size w)
  have HC := Aside0.mk hC
  have HCC := Aside0.mk hc
  have HN := Aside0.mk hn
  have HBY := Aside0.mk hb
  have HC1 := Aside0.mk hC1
  have HCC1 := Aside0.mk hc1
  have HN1 := Aside0.mk hn1
  have HLI := Aside0.mk (pairs_SmR hl)
  have HA := Aside0.mk ha
  have HXX := Aside0.mk hx
  obtain ⟨M, hM⟩ : ∃ M, M = (lb.take 60).length := ⟨_, rfl⟩
  have HM := Aside0.mk hM
  have HMC := Aside0.mk (show M ≤ c0 by rw [hM, List.length_take]; omega)
  have HML := Aside0.mk (show M < 4611686018427387904 by rw [hM, List.length_take]; omega)
  have HCT := Aside0.mk (show Kd.C (Kd.int .u8) w A0 M (lb.take 60) by
    rw [hM]
    by_cases h1 : 60 ≤ lb.length
    · exact Kd.C_take (by rw [hn] at hC; exact hC) h1
    · rw [List.take_of_length_le (by omega)]; rw [hn] at hC; exact hC)
  clear hn hC hc hb hn1 hC1 hc1 hl ha hx hM
  go_enter Try.func8, Try.ntmps8
  go_upto_region 8 with (first
    | (go_at_call 10; (with_reducible refine (st_begun _).mono ?_); rintro e w1 ⟨rfl, hb⟩; have n1_ := Aside0.mk (below_step HB.out hb); clear HB; have HB := n1_; clear n1_; clear hb)
    | (go_at_call 24; (with_reducible refine (short_c HN.out HM.out HCC.out).mono ?_); rintro e w2 ⟨rfl, rfl⟩)
    | (go_at_call 25; (with_reducible refine (law_tells HM.out (Kd.C_below HCT.out HB.out) HMC.out (HBY.out.take 60) HML.out).mono ?_); rintro e w3 ⟨rfl, hb⟩; have n1_ := Aside0.mk (below_step HB.out hb); clear HB; have HB := n1_; clear n1_; clear hb)
    | (go_at_call 17; (with_reducible refine (st_Pairs HN1.out (Kd.C_below HC1.out HB.out) HCC1.out).mono ?_); rintro e w4 ⟨v4, rfl, hR, hb⟩; obtain ⟨A4, c4, rfl, hn4, hC4⟩ := Kd.R_reads hR; have HCP := Aside0.mk hC4; have HNP := Aside0.mk hn4; have n1_ := Aside0.mk (below_step HB.out hb); clear HB; have HB := n1_; clear n1_; clear hb hR hn4 hC4)
    | (go_at_call 26; (with_reducible refine (ref_PairBytes rfl HCP.out HNP.out (pairsL_may l) HLI.out).mono ?_); rintro e w5 ⟨v5, rfl, hR, hb⟩; have HO := Aside0.mk (Kd.R_lower hR HB.out.size); have n1_ := Aside0.mk (below_step HB.out hb); clear HB; have HB := n1_; clear n1_; clear hb hR HCP HNP))
  obtain ⟨E, hE⟩ : ∃ E, E = encP (pairsL l) := ⟨_, rfl⟩
  have HEB := Aside0.mk (show Byt E by rw [hE]; exact encP_byt _)
  have HEL := Aside0.mk (show E.length ≤ 80010 by rw [hE]; exact enc_le (pairsL_may l).1 HLI.out)
  have hpos : 0 < E.length := by rw [hE]; exact enc_pos _
  rw [← hE] at HO
  obtain ⟨g, cap, rfl, hg⟩ := own_g HO.out hpos
  obtain ⟨m, hm⟩ : ∃ m, m = E.length := ⟨_, rfl⟩
  rw [← hm] at HO hpos ⊢
  have HG := Aside0.mk hg
  have HM2 := Aside0.mk hm
  have HMZ := Aside0.mk (show m ≤ 80010 by rw [hm]; exact HEL.out)
  clear hE hg hm
  by_cases ha0 : a < 0
  · have hd := decide_eq_true ha0
    clear hpos
    go_wp2
    go_ret
    exact ⟨rfl, HB.out⟩
  have hd := decide_eq_false ha0
  obtain ⟨i, hi⟩ : ∃ i : Nat, (i : Int) = a % (m : Int) := ⟨(a % (m : Int)).toNat, by have := Int.emod_nonneg a (show (m : Int) ≠ 0 by omega); omega⟩
  have hiz : (i : Int) < (m : Int) := by rw [hi]; exact Int.emod_lt_of_pos a (by omega)
  have HIM := Aside0.mk (show i < m by omega)
  have hi0 : (0 : Int) ≤ (i : Int) := by omega
  have ha1 : (0 : Int) ≤ a := by omega
  have hm0 : (m : Int) ≠ 0 := by omega
  have hmz : (0 : Int) < (m : Int) := by omega
  have hr1 : a % (m : Int) = (i : Int) := hi.symm
  have hr2 : Int.tmod a (m : Int) = (i : Int) := by rw [Int.tmod_eq_emod_of_nonneg ha1]; exact hi.symm
  have hmle : (m : Int) ≤ 80010 := by have := HMZ.out; omega
  obtain ⟨b, hb⟩ : ∃ b, b = rd E (i : Int) := ⟨_, rfl⟩
  obtain ⟨hx4, hf4⟩ := Kd.R_celln 0 HO.out (i : Int) (Int.natCast_nonneg _) hiz
  rw [Int.toNat_natCast] at hx4 hf4
  have hx5 : w5.cell? ⟨g, i, none⟩ = some (.int .u8 b) := by rw [hb]; exact hx4
  obtain ⟨y, hy⟩ : ∃ y, y = Go.bits .xor .u8 b x := ⟨_, rfl⟩
  have hyb := xor_u8 b x
  rw [← hy] at hyb
  have HYB := Aside0.mk hyb
  have HYE := Aside0.mk hy
  obtain ⟨E2, hE2⟩ : ∃ l, l = E.set i y := ⟨_, rfl⟩
  have HE2 := Aside0.mk hE2
  have HEB2 := Aside0.mk (show Byt E2 by rw [hE2]; exact set_byt HEB.out i hyb.1 hyb.2)
  have HM3 := Aside0.mk (show m = E2.length by rw [hE2, List.length_set]; exact HM2.out)
  obtain ⟨E3, hE3⟩ : ∃ l, l = E2 ++ [x] := ⟨_, rfl⟩
  have HE3 := Aside0.mk hE3
  have HEB3 := Aside0.mk (show Byt E3 by rw [hE3]; exact HEB2.out.append (fun z hz => by rw [List.mem_singleton.1 hz]; exact HXX.out))
  have HL9 := Aside0.mk (show E3.length < 4611686018427387904 by rw [hE3, List.length_append, ← HM3.out]; have := HMZ.out; simp; omega)
  obtain ⟨iu, hiu, _, hsz, _⟩ := info_parts info5
  have hrun : ∀ W : World, (Instr.slice 40 (.slice (some ⟨g, 0, none⟩) m cap) none (some (.int .i64 i)) none).run Try.prog W = .ok (.slice (some ⟨g, 0, none⟩) i cap) W := by
    intro W
    have h := cut_to (P := Try.prog) 40 5 .i64 Try.underlying40 hiu (some ⟨g, 0, none⟩) m cap (i : Int) hi0 (by omega) (Kd.R_reads' HO.out).2.1 W
    rwa [Int.toNat_natCast] at h
  clear hi hb hx4 hyb hy hE2 hE3 hiu hsz ha0 hpos
  go_wp2_with (first
    | ((with_reducible refine gate_store (t := 5) (p := 33) rfl ?_); refine store_event (t := 5) (p := 33) (v := ?vo33) (w1 := (w5.setCell ⟨g, i, none⟩ (.int .u8 y))) ?hg ?ho ?hn ?hr ?_; (case ho => rfl); (case hg => rfl); (case hn => rfl); (case hr => first | (go_simp; rw [← HYE.out]; done) | (go_simp; rw [← HYE.out]; rfl) | (go_simp; done) | (go_simp; rfl)); intro w6 hw; have n1_ := Aside0.mk (show Kd.R (Kd.int .u8) 5 w6 w.heap.size (fun _ => True) (.slice (some ⟨g, 0, none⟩) m cap) E2 by rw [hw, HE2.out]; have h := Kd.R_putn HO.out (i : Int) y; rw [Int.toNat_natCast] at h; exact h); have n2_ := Aside0.mk (show Below w.heap.size w w6 by rw [hw]; exact below_set HB.out HG.out); clear HO HB hx5 hf4 hw; have HO := n1_; have HB := n2_; clear n1_ n2_)
    | (go_at_call 25; (with_reducible refine (law_tells HM3.out (c3 HM3.out HO.out) (Kd.R_reads' HO.out).2.1 HEB2.out (by have := HMZ.out; omega)).mono ?_); rintro e w7 ⟨rfl, hb⟩; have n1_ := Aside0.mk (below_step HB.out hb); clear HB; have HB := n1_; clear n1_; have n2_ := Aside0.mk (Kd.R_below HO.out hb); clear HO hb; have HO := n2_; clear n2_)
    | (go_at_call 25; (with_reducible refine (law_tells (ti HM3.out HIM.out) (ci HM3.out HIM.out HO.out) (ni HIM.out (Kd.R_reads' HO.out).2.1) (HEB2.out.take i) (by have := HMZ.out; have := HIM.out; omega)).mono ?_); rintro e w8 ⟨rfl, hb⟩; have n1_ := Aside0.mk (below_step HB.out hb); clear HB; have HB := n1_; clear n1_; have n2_ := Aside0.mk (Kd.R_below HO.out hb); clear HO hb; have HO := n2_; clear n2_)
    | ((with_reducible refine gate_dst (N := 48) rfl ?_); (try (refine gate_guard (by rfl) ?_; dsimp only)); refine Kd.R_lit (Kd.int .u8) (w0 := w) w.heap.size 5 ?hg (N := 48) ?hd (xs := [x]) (inner := [.int .u8 x]) (ok := fun _ => True) (okp := fun _ => True) ?hr (lit1 _ _ x) (fun _ hk => hk) trivial HB.out HB.out.size (by simp) ?_; (case hd => rfl); (case hg => rfl); (case hr => first | (go_simp; done) | (go_simp; rfl)); intro v48 w9 ho hb hg hat; obtain ⟨A48, c48, rfl, hn48, hC48⟩ := Kd.R_reads ho; have HL48 := Aside0.mk hC48; have n1_ := Aside0.mk (Kd.R_grown HO.out hg (fun _ _ => by simp)); have n2_ := Aside0.mk hb; clear HO HB ho hb hg hat hn48 hC48; have HO := n1_; have HB := n2_; clear n1_ n2_)
    | ((with_reducible refine gate_builtin (b := .append) (xs := #[.tmp 46, .tmp 48]) rfl ?_); (try (refine gate_guard (by rfl) ?_; dsimp only)); at_builtin; refine appB (w0 := w) (base := w.heap.size) rfl (.tmp 46) (.tmp 48) rfl (.slice (some ⟨g, 0, none⟩) m cap) E2 [x] A48 1 c48 rfl rfl HO.out HL48.out HB.out HB.out.size (by rw [← HM3.out]; have := HMZ.out; omega) ?_; intro v49 w10 ho hb; rw [← HE3.out] at ho; obtain ⟨A49, c49, rfl, hn49, hC49⟩ := Kd.R_reads ho; have HC9 := Aside0.mk hC49; have HN9 := Aside0.mk hn49; have n2_ := Aside0.mk hb; clear HO HB ho hb HL48 hn49 hC49; have HB := n2_; clear n2_)
    | (go_at_call 25; (with_reducible refine (law_tells rfl HC9.out HN9.out HEB3.out HL9.out).mono ?_); rintro e w11 ⟨rfl, hb⟩; have n1_ := Aside0.mk (below_step HB.out hb); clear HB; have HB := n1_; clear n1_; clear hb))
  go_ret
  exact ⟨rfl, HB.out⟩
theorem SortedAny.walk (P : True) (a0 : Option Addr) (len0 cap0 : Nat) (z0 : List Int) (a1 : Option Addr) (len1 cap1 : Nat) (z1 : List S27) (a x : Int) (w : World) (w0 : (a0 = none ∧ len0 = 0 ∧ cap0 = 0 ∧ z0 = []) ∨ ∃ x, a0 = some x ∧ len0 ≤ cap0 ∧ cap0 ≤ maxLen ∧ z0.length = cap0 ∧ (∀ i, i < z0.length → w.cell? (x.add i) = some (.int .u8 (z0.getD i 0))) ∧ ∀ n ∈ z0, (Lit.int .u8 n).wf = true) (y0 : len0 * 1 ≤ 140737488351232) (w1 : O.IsRows k27 O.ok27 w a1 len1 cap1 z1) (w2 : (Lit.int .i64 a).wf = true) (w3 : (Lit.int .u8 x).wf = true) :
    Calls Try.prog 8 #[.slice a0 len0 cap0, .slice a1 len1 cap1, .int .i64 a, .int .u8 x] w fun e w' => e = .returned (.bool true) ∧ Below w.heap.size w w' := by
  obtain ⟨l0, rfl, hr0, hm0, hw0, hc0⟩ := ReadsInt.ofRowC w0
  obtain ⟨rfl, g1, g2, g3, g4⟩ := w1
  exact SortedAny.core a x rfl (Kd.C_of_reads (d := (0 : Int)) (h1 := fun _ => rfl) hr0) (by omega) (fun z hz => wfU8 (hw0 z hz)) rfl g3 g1 (fun y hy => ⟨wfI64 (g4 y hy).2.2.1, wfI64 (g4 y hy).2.2.2.1⟩) (wfI64 w2) (wfU8 w3)
end Go.Proofs.Ytkhcmddeeodbkaa.GL
namespace Go.Proofs.YtkhcmddeeodbkaaW.PrintWords
open Go.ChangeShapes Go.WideShapes
theorem sized_ints {H : Type} {enc : TypeId × Value → H} {P : Program} {W : World} {base : Nat} {spare : Nat → Bool} {held : Bool} {t e : TypeId} {k : IntKind} {a : Option Addr} {len cap : Nat} {d : DataW H} {ps : List MemPlace} {ts : List TypeId} {ds : List (DataW H)} {j : Nat}
    (hsz : (DataW.weightsEach P ts ds).all (· ≤ reachBytes) = true) (ht : ts[j]? = some t) (hd : ds[j]? = some d) (hu : P.underlying t = some (.slice e)) (he : P.underlying e = some (.int k)) (hc : P.cellsOf e = 1) {B : Nat} (hB : P.bytesOf e = B)
    (h : DataW.Trod enc P W base spare held t (.slice a len cap) d ps) : len * B ≤ 140737488351232 := by
  obtain ⟨fuel, hf⟩ := h
  rcases open_ints hu he hc hf with ⟨hcs, _⟩ | ⟨x, l, c, zs, hcs, _, hl, _, hz, hx, _, _⟩
  · simp [Value.cells] at hcs
    obtain ⟨rfl, rfl, rfl⟩ := hcs
    simp
  · simp [Value.cells] at hcs
    obtain ⟨rfl, rfl, rfl⟩ := hcs
    obtain ⟨hx, _⟩ := Prod.mk.inj hx
    subst hx
    have z := sized_slice hsz ht hd hu
    rw [hB] at z
    have hl2 : len ≤ zs.length := by
      rw [hz]
      split
      · exact hl
      · exact Nat.le_refl _
    have h1 : (lits (H := H) k (zs.take len)).length + (lits (H := H) k (zs.drop len)).length = zs.length := by
      simp [lits]
      omega
    rw [h1] at z
    exact Nat.le_trans (Nat.mul_le_mul_right _ hl2) z
end Go.Proofs.YtkhcmddeeodbkaaW.PrintWords
