/- The law TrieMany, walked by hand. -/
import Derived.Test.YtobdfehpbgcloaaGTrieLaw
import Derived.Test.YtobdfehpbgcloaaQTrieLaw
import Derived.Test.YtobdfehpbgcloaaQOpen
import Derived.Deep.QuietTactic
import Derived.BigQuiet
namespace Go.Proofs.Ytobdfehpbgcloaa.GL
open Go.RowKit Go.Proofs.YtobdfehpbgcloaaW.PrintWords Go.Proofs.YtobdfehpbgcloaaW.PrintLast Go.Proofs.YtobdfehpbgcloaaW.PrintMore Go.Proofs.Ytobdfehpbgcloaa.Q Go.Proofs.Ytobdfehpbgcloaa.XTri Go.Proofs.Ytobdfehpbgcloaa.G
set_option linter.unusedVariables false
set_option linter.unusedSimpArgs false
/-- The row while it is filled. -/
def rowI (N : Nat) (s : Int) (i : Nat) : List Int := (List.range N).map fun j => if j < i then (j : Int) * s else 0
theorem rowI_len (N : Nat) (s : Int) (i : Nat) : (rowI N s i).length = N := by simp [rowI]
theorem rowI_get {N : Nat} {s : Int} {i j : Nat} (hj : j < N) : (rowI N s i)[j]'(by rw [rowI_len]; exact hj) = if j < i then (j : Int) * s else 0 := by simp [rowI]
theorem rowI_zero (N : Nat) (s : Int) : rowI N s 0 = List.replicate N 0 := by
  refine List.ext_getElem (by rw [rowI_len, List.length_replicate]) (fun j h1 h2 => ?_)
  rw [rowI_len] at h1
  rw [rowI_get h1, if_neg (by omega), List.getElem_replicate]
theorem rowI_set {N : Nat} {s : Int} {i : Nat} (hi : i < N) : (rowI N s i).set i ((i : Int) * s) = rowI N s (i + 1) := by
  refine List.ext_getElem (by rw [List.length_set, rowI_len, rowI_len]) (fun j h1 h2 => ?_)
  rw [rowI_len] at h2
  rw [List.getElem_set, rowI_get (i := i + 1) h2]
  by_cases h : i = j
  · subst h
    rw [if_pos rfl, if_pos (by omega)]
  · rw [if_neg h, rowI_get (i := i) h2]
    by_cases hlt : j < i
    · rw [if_pos hlt, if_pos (by omega)]
    · rw [if_neg hlt, if_neg (by omega)]
theorem mul_bd {j : Nat} {s : Int} (hj : j ≤ 4200) (h0 : 1 ≤ s) (h1 : s ≤ 1125899906842624) : 0 ≤ (j : Int) * s ∧ (j : Int) * s < 18446744073709551616 := by
  have a1 : (0 : Int) ≤ (j : Int) * s := Int.mul_nonneg (by omega) (by omega)
  have a2 : (j : Int) * s ≤ (4200 : Int) * s := Int.mul_le_mul_of_nonneg_right (by omega) (by omega)
  have a3 : (4200 : Int) * s ≤ 4200 * 1125899906842624 := by omega
  omega
theorem rowI_u {N : Nat} {s : Int} (hN : N ≤ 4200) (h0 : 1 ≤ s) (h1 : s ≤ 1125899906842624) : U64s (rowI N s N) := by
  intro x hx
  obtain ⟨j, hj, rfl⟩ := List.getElem_of_mem hx
  rw [rowI_len] at hj
  rw [rowI_get hj, if_pos hj]
  exact mul_bd (by omega) h0 h1
theorem rowI_rise {N : Nat} {s : Int} (h0 : 1 ≤ s) : (rowI N s N).Pairwise (· < ·) := by
  rw [List.pairwise_iff_getElem]
  intro i j hi hj hij
  rw [rowI_len] at hi hj
  rw [rowI_get hi, rowI_get hj, if_pos hi, if_pos hj]
  exact Int.mul_lt_mul_of_pos_right (by omega) (by omega)
theorem rowI_found {N : Nat} {s : Int} {i : Nat} (hi : i < N) (hN : N ≤ 4096) (h0 : 1 ≤ s) (h1 : s ≤ 1125899906842624) : rankI (treeG 64 (rowI N s N)) ((i : Int) * s) (N : Int) = some (i : Int) := by
  have h3 : (rowI N s N)[i]? = some ((i : Int) * s) := by rw [List.getElem?_eq_getElem (by rw [rowI_len]; exact hi), rowI_get hi, if_pos hi]
  have h4 := rank_tree 64 (rowI N s N) [] [] i 0 _ h3 (by rw [rowI_len]; exact hN) (OkT.all (rowI_rise h0) (rowI_u (by omega) h0 h1))
  rw [rowI_len] at h4
  unfold rankI
  rw [if_neg (by omega)]
  simpa using h4
set_option maxRecDepth 1000000 in
set_option maxHeartbeats 8000000 in
theorem TrieMany.in (N : Nat) (s : Int) (w : World) (hN0 : 4000 ≤ N) (hN1 : N ≤ 4200) (hs0 : 1 ≤ s) (hs1 : s ≤ 1125899906842624) :
    Calls Try.prog 6 #[.int .i64 N, .int .u64 s] w fun e w' => e = .returned (.bool true) ∧ Below w.heap.size w w' := by
  have HB := Aside0.mk (Below.refl w.heap.size w)
  have HS := Aside0.mk (And.intro hs0 hs1)
  have HN := Aside0.mk hN1
  have HN0 := Aside0.mk hN0
  have c1 : decide ((N : Int) < 4000) = false := decide_eq_false (by omega)
  have c2 : decide ((4200 : Int) < (N : Int)) = false := decide_eq_false (by omega)
  have c3 : decide (s < 1) = false := decide_eq_false (by omega)
  have c4 : decide (1125899906842624 < s) = false := decide_eq_false (by omega)
  have c1n : decide (N < 4000) = false := decide_eq_false (by omega)
  have c2n : decide (4200 < N) = false := decide_eq_false (by omega)
  have hNz : (N : Int) ≤ 4200 := by omega
  have hMK0 := Aside0.mk (show (0 : Int) ≤ (N : Int) by omega)
  have hMK1 := Aside0.mk (show (N : Int).toNat * 8 ≤ 281474976710656 by omega)
  have HR0 := Aside0.mk (rowI_zero N s)
  clear hs0 hs1 hN1 hN0
  go_enter Try.func6, Try.ntmps6
  go_wp2_with (first
    | (go_at_call 8; refine (law21_begun _).mono ?_; rintro e w11 ⟨rfl, hb⟩; have m2_ := Aside0.mk (below_step HB.out hb); clear HB; have HB := m2_; clear m2_ hb)
    | ((with_reducible refine gate_dst (N := 32) rfl ?_); refine Kd.R_make (Kd.int .u64) _ 23 rfl (N := 32) rfl 33 _ _ rfl (N : Int) rfl rfl Try.underlying33 (.int .u64 0) 8 info23 rfl (by decide) (by omega) 0 (ok := fun _ => True) (okp := fun _ => True) rfl (fun _ hk => hk) trivial hMK0.out hMK1.out (Below.refl _ _) (Nat.le_refl _) ?_; intro v8 w8 ho hb hg hnew; clear hg hnew; rw [Int.toNat_natCast, ← HR0.out] at ho; obtain ⟨g8, c8, hv8, hg8, hl8, hc8⟩ := Kd.R_form ho (by rw [rowI_len]; have := HN0.out; omega); rw [rowI_len] at hv8; subst hv8; have n0_ := Aside0.mk (Kd.R_lower ho HB.out.size); have n2_ := Aside0.mk (Nat.le_trans HB.out.size hg8); have n1_ := Aside0.mk (below_step HB.out hb); clear HB; have HO := n0_; have HB := n1_; have HG8 := n2_; clear n0_ n1_ n2_; clear hb ho hg8 hl8 hc8))
  go_loopw [7, 35] (fun v7 v35 wr => ∃ (i : Nat), v35 = .int .i64 i ∧ i ≤ N ∧ Aside0 (Kd.R (Kd.int .u64) 23 wr w.heap.size (fun _ => True) (.slice (some ⟨g8, 0, none⟩) N c8) (rowI N s i)) ∧ Aside0 (Below w.heap.size w wr)) (fun _ v _ => N - (intOf v).toNat)
  case atStart => exact ⟨0, by first | rfl | go_num, Nat.zero_le _, HO, HB⟩
  case round =>
    clear HO HB
    obtain ⟨i, rfl, hi, HO, HB⟩ := hrel
    by_cases hlt : i < N
    · have hlz : (i : Int) < (N : Int) := by omega
      have hl1 := decide_eq_true hlz
      have hl2 := decide_eq_true hlt
      obtain ⟨hx, hf⟩ := Kd.R_celln 0 HO.out (i : Int) (Int.natCast_nonneg _) hlz
      obtain ⟨y, hy⟩ : ∃ y, y = (i : Int) * s := ⟨_, rfl⟩
      have hyb := mul_bd (j := i) (by have := HN.out; omega) HS.out.1 HS.out.2
      rw [← hy] at hyb
      have hym : (i : Int) * s = y := hy.symm
      have hyw : IntKind.u64.wrap ((i : Int) * s) = y := by rw [hym]; exact u64 hyb.1 hyb.2
      have hyw2 : IntKind.u64.wrap y = y := u64 hyb.1 hyb.2
      have HP := (Kd.R_putg HO.out (i : Int) y).1
      rw [Int.toNat_natCast, hy, rowI_set hlt, ← hy] at HP
      have HPP := Aside0.mk HP
      have HLT := Aside0.mk hlt
      obtain ⟨z0, hz0⟩ : ∃ z0, z0 = rdOf (0 : Int) (rowI N s i) (i : Int) := ⟨_, rfl⟩
      rw [← hz0, Int.toNat_natCast] at hx
      rw [Int.toNat_natCast] at hf
      clear hz0 hy hlt hi HP hyb
      go_wp2_with (first | ((with_reducible refine gate_store (t := 23) (p := 44) rfl ?_); refine store_event (t := 23) (p := 44) (v := ?vo_w20) (w1 := (wr.setCell ⟨g8, i, none⟩ (.int .u64 y))) ?hg ?ho ?hn ?hr ?_; (case ho => rfl); (case hg => rfl); (case hn => rfl); (case hr => first | (go_simp; done) | (go_simp; rfl)); intro w20 hw; subst hw; have n1_ := Aside0.mk (below_set HB.out HG8.out : Below w.heap.size w (wr.setCell ⟨g8, i, none⟩ (.int .u64 y))); clear HO HB; have HB := n1_; have HO := HPP; clear n1_))
      refine ⟨⟨i + 1, by first | rfl | go_num, HLT.out, HO, HB⟩, ?_⟩
      have := HLT.out
      simp [intOf]
      omega
    · obtain rfl : i = N := by omega
      have hl1 : decide ((i : Int) < (i : Int)) = false := decide_eq_false (by omega)
      have hl2 : decide (i < i) = false := decide_eq_false (by omega)
      have hC := (Kd.R_reads' HO.out).2.2
      have HLC := Aside0.mk (Kd.R_reads' HO.out).2.1
      (try rw [rowI_len] at hC)
      have HC := Aside0.mk hC
      have HML := Aside0.mk (rowI_len i s i).symm
      have HU := Aside0.mk (rowI_u HN.out HS.out.1 HS.out.2)
      have HMB := Aside0.mk (show i < 1000000000 by have := HN.out; omega)
      clear hlt hi hC HO
      by_cases hm : i ≤ 4096
      · have HBT := Aside0.mk (show buildT (rowI i s i) = some (treeG 64 (rowI i s i)) from if_pos ⟨by rw [rowI_len]; exact hm, rowI_rise HS.out.1⟩)
        obtain ⟨q, hq⟩ : ∃ q, q = i - 1 := ⟨_, rfl⟩
        obtain ⟨h, hh⟩ : ∃ h, h = i / 2 := ⟨_, rfl⟩
        have hqi : q < i := by have := HN0.out; omega
        have hhi : h < i := by have := HN0.out; omega
        have hqz : (q : Int) < (i : Int) := by omega
        have hhz : (h : Int) < (i : Int) := by omega
        have hsub : (i : Int) - 1 = (q : Int) := by have := HN0.out; omega
        have hdiv : Int.tdiv (i : Int) 2 = (h : Int) := by rw [hh]; rfl
        have hsw : IntKind.i64.wrap ((i : Int) - 1) = (q : Int) := by rw [hsub]; exact (i64_w _).trans (w64 (by omega) (by omega))
        have hdw : IntKind.i64.wrap (Int.tdiv (i : Int) 2) = (h : Int) := by rw [hdiv]; exact (i64_w _).trans (w64 (by omega) (by omega))
        obtain ⟨yq, hyq⟩ : ∃ y, y = (q : Int) * s := ⟨_, rfl⟩
        obtain ⟨yh, hyh⟩ : ∃ y, y = (h : Int) * s := ⟨_, rfl⟩
        have HYQ := Aside0.mk (show 0 ≤ yq ∧ yq < 18446744073709551616 by rw [hyq]; exact mul_bd (by have := HN.out; omega) HS.out.1 HS.out.2)
        have HYH := Aside0.mk (show 0 ≤ yh ∧ yh < 18446744073709551616 by rw [hyh]; exact mul_bd (by have := HN.out; omega) HS.out.1 HS.out.2)
        have HRQ := Aside0.mk (show rankI (treeG 64 (rowI i s i)) yq (i : Int) = some (q : Int) by rw [hyq]; exact rowI_found hqi hm HS.out.1 HS.out.2)
        have HRH := Aside0.mk (show rankI (treeG 64 (rowI i s i)) yh (i : Int) = some (h : Int) by rw [hyh]; exact rowI_found hhi hm HS.out.1 HS.out.2)
        have HXQ := Aside0.mk (fun (W : World) (hb : Kd.C (Kd.int .u64) W (some ⟨g8, 0, none⟩) i (rowI i s i)) => (show W.cell? ⟨g8, q, none⟩ = some (.int .u64 yq) by
          obtain ⟨ad, e, hx⟩ := Kd.at_int hb (q : Int) (Int.natCast_nonneg _) hqz
          cases e
          rw [Int.toNat_natCast] at hx
          unfold rd at hx
          rw [Int.toNat_natCast, List.getD_eq_getElem?_getD, List.getElem?_eq_getElem (by rw [rowI_len]; exact hqi), Option.getD_some, rowI_get hqi, if_pos hqi, ← hyq] at hx
          simp only [add_plain] at hx
          exact hx))
        have HXH := Aside0.mk (fun (W : World) (hb : Kd.C (Kd.int .u64) W (some ⟨g8, 0, none⟩) i (rowI i s i)) => (show W.cell? ⟨g8, h, none⟩ = some (.int .u64 yh) by
          obtain ⟨ad, e, hx⟩ := Kd.at_int hb (h : Int) (Int.natCast_nonneg _) hhz
          cases e
          rw [Int.toNat_natCast] at hx
          unfold rd at hx
          rw [Int.toNat_natCast, List.getD_eq_getElem?_getD, List.getElem?_eq_getElem (by rw [rowI_len]; exact hhi), Option.getD_some, rowI_get hhi, if_pos hhi, ← hyh] at hx
          simp only [add_plain] at hx
          exact hx))
        have HTL := Aside0.mk (show (treeG 64 (rowI i s i)).length < 100000000000 by
          have := treeG_le 64 (rowI i s i) (by rw [rowI_len]; exact hm)
          rw [rowI_len] at this
          omega)
        have hm1 : decide ((4096 : Int) < (i : Int)) = false := decide_eq_false (by omega)
        have hm2 : decide ((i : Int) ≤ 4096) = true := decide_eq_true (by omega)
        have hm3 : decide (i ≤ 4096) = true := decide_eq_true hm
        have hqq : ((q : Int) == (q : Int)) = true := beq_self_eq_true _
        have hh2 : ((h : Int) == (h : Int)) = true := beq_self_eq_true _
        clear hyq hyh hqi hhi hq hh hm
        go_wp2_with (first
          | (go_at_call 14; refine (trie_Build HML.out HC.out HLC.out HMB.out HU.out).mono ?_; rw [HBT.out]; rintro e w3 ⟨hb, p, rfl, hO⟩; have HBO := Aside0.mk hO.toP; have hxq := HXQ.out w3 (Kd.C_below HC.out hb); have hxh := HXH.out w3 (Kd.C_below HC.out hb); have n1_ := Aside0.mk (below_step HB.out hb); clear HB hO hb; have HB := n1_; clear n1_)
          | (go_at_call 10; (first
  | ((with_reducible refine (trie_Rank (h := yq) _ HBO.out HTL.out HYQ.out.1 HYQ.out.2).mono ?_); rw [HRQ.out])
  | ((with_reducible refine (trie_Rank (h := yh) _ HBO.out HTL.out HYH.out.1 HYH.out.2).mono ?_); rw [HRH.out])); rintro e w' ⟨rfl, rfl⟩; simp only [skipR]))
        go_ret
        exact ⟨rfl, HB.out⟩
      · have HBT := Aside0.mk (show buildT (rowI i s i) = none from if_neg (fun h => hm (by have := h.1; rw [rowI_len] at this; exact this)))
        have hm1 : decide ((4096 : Int) < (i : Int)) = true := decide_eq_true (by omega)
        have hm3 : decide (4096 < i) = true := decide_eq_true (by omega)
        clear hm
        go_wp2_with (first
          | (go_at_call 14; refine (trie_Build HML.out HC.out HLC.out HMB.out HU.out).mono ?_; rw [HBT.out]; rintro e w3 ⟨hb, rfl⟩; have n1_ := Aside0.mk (below_step HB.out hb); clear HB hb; have HB := n1_; clear n1_))
        go_ret
        exact ⟨rfl, HB.out⟩
set_option maxRecDepth 1000000 in
set_option maxHeartbeats 8000000 in
theorem TrieMany.walk (P : True) (n s : Int) (w : World) (w0 : (Lit.int .i64 n).wf = true) (w1 : (Lit.int .u64 s).wf = true) :
    Calls Try.prog 6 #[.int .i64 n, .int .u64 s] w fun e w' => e = .returned (.bool true) ∧ Below w.heap.size w w' := by
  by_cases h : 4000 ≤ n ∧ n ≤ 4200 ∧ 1 ≤ s ∧ s ≤ 1125899906842624
  · obtain ⟨N, rfl⟩ := Int.eq_ofNat_of_zero_le (show 0 ≤ n by omega)
    exact TrieMany.in N s w (by omega) (by omega) h.2.2.1 h.2.2.2
  · have HB := Aside0.mk (Below.refl w.heap.size w)
    have hc : decide (n < 4000) = true ∨ (decide (n < 4000) = false ∧ decide (4200 < n) = true) ∨ (decide (n < 4000) = false ∧ decide (4200 < n) = false ∧ decide (s < 1) = true) ∨ (decide (n < 4000) = false ∧ decide (4200 < n) = false ∧ decide (s < 1) = false ∧ decide (1125899906842624 < s) = true) := by
      by_cases h1 : n < 4000
      · exact .inl (decide_eq_true h1)
      · by_cases h2 : 4200 < n
        · exact .inr (.inl ⟨decide_eq_false h1, decide_eq_true h2⟩)
        · by_cases h3 : s < 1
          · exact .inr (.inr (.inl ⟨decide_eq_false h1, decide_eq_false h2, decide_eq_true h3⟩))
          · exact .inr (.inr (.inr ⟨decide_eq_false h1, decide_eq_false h2, decide_eq_false h3, decide_eq_true (by omega)⟩))
    clear h w0 w1
    rcases hc with h1 | ⟨h1, h2⟩ | ⟨h1, h2, h3⟩ | ⟨h1, h2, h3, h4⟩
    all_goals
      go_enter Try.func6, Try.ntmps6
      go_wp2_with (first
        | (go_at_call 8; refine (law21_begun _).mono ?_; rintro e w11 ⟨rfl, hb⟩; have m2_ := Aside0.mk (below_step HB.out hb); clear HB; have HB := m2_; clear m2_ hb))
      go_ret
      exact ⟨rfl, HB.out⟩
end Go.Proofs.Ytobdfehpbgcloaa.GL
