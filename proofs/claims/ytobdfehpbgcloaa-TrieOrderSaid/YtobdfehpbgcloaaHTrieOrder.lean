/- The law TrieOrder, walked by hand. -/
import Derived.Test.YtobdfehpbgcloaaGSorted
import Derived.Test.YtobdfehpbgcloaaQTrieLaw
import Derived.Test.YtobdfehpbgcloaaQOpen
namespace Go.Proofs.Ytobdfehpbgcloaa.GL
open Go.RowKit Go.Proofs.YtobdfehpbgcloaaW.PrintWords Go.Proofs.YtobdfehpbgcloaaW.PrintLast Go.Proofs.YtobdfehpbgcloaaW.PrintMore Go.Proofs.Ytobdfehpbgcloaa.Q Go.Proofs.Ytobdfehpbgcloaa.XTri Go.Proofs.Ytobdfehpbgcloaa.G
set_option linter.unusedVariables false
set_option linter.unusedSimpArgs false
theorem rankI_mono {L : List Bool} {x y n r q : Int} (hx : 0 ≤ x ∧ x < 18446744073709551616) (hy : 0 ≤ y ∧ y < 18446744073709551616) (hxy : x ≤ y) (hr : rankI L x n = some r) (hq : rankI L y n = some q) : r ≤ q := by
  unfold rankI at hr hq
  split at hr
  · cases hr
  · rename_i hn
    rw [if_neg hn] at hq
    refine rank_mono 64 0 n 0 r q (by omega) ?_ hr hq
    have e : (2 : Int) ^ 64 = 18446744073709551616 := rfl
    rw [e]
    omega
set_option maxRecDepth 1000000 in
set_option maxHeartbeats 8000000 in
theorem TrieOrder.core (A0 : Option Addr) (len0 c0 : Nat) (l : List Int) (near : Bool) (x y : Int) (w : World) (hlen : len0 = l.length) (hC0 : Kd.C (Kd.int .u64) w A0 len0 l) (hcm : len0 < 100000000000000) (hU0 : U64s l) (hx : 0 ≤ x ∧ x < 18446744073709551616) (hy : 0 ≤ y ∧ y < 18446744073709551616) :
    Calls Try.prog 5 #[.slice A0 len0 c0, .bool near, .int .u64 x, .int .u64 y] w fun e w' => e = .returned (.bool true) ∧ Below w.heap.size w w' := by
  have HB := Aside0.mk (Below.refl w.heap.size w)
  have HLEN := Aside0.mk hlen
  have HC := Aside0.mk hC0
  have HCM := Aside0.mk hcm
  have HU := Aside0.mk hU0
  have HXB := Aside0.mk hx
  have HYB := Aside0.mk hy
  clear hlen hC0 hcm hU0 hx hy
  go_enter Try.func5, Try.ntmps5
  go_wp2_with (first | (go_at_call 8; refine (law21_begun _).mono ?_; rintro e w11 ⟨rfl, hb⟩; have m2_ := Aside0.mk (below_step HB.out hb); clear HB; have HB := m2_; clear m2_ hb))
  (first | go_at_call 16 | skip)
  refine (law_Sorted near HLEN.out (Kd.C_below HC.out HB.out) HCM.out HU.out).mono ?_
  rintro e w2 ⟨v, S, rfl, hR, hS, hl, hb⟩
  obtain ⟨A, c, rfl, hnc, hC⟩ := Kd.R_reads hR
  have HB2 := Aside0.mk (below_step HB.out hb)
  clear HB
  have HB := HB2
  clear HB2
  have HCS := Aside0.mk hC
  have HNC := Aside0.mk hnc
  have HUS := Aside0.mk hS.2
  have HMB := Aside0.mk (show S.length < 1000000000 by omega)
  have HBT := Aside0.mk (show buildT S = some (treeG 64 S) from if_pos ⟨by omega, hS.1⟩)
  have HTL := Aside0.mk (show (treeG 64 S).length < 100000000000 by
    have := treeG_le 64 S (by omega)
    omega)
  by_cases hxy : y < x
  · have hd := decide_eq_true hxy
    clear hR hS hl hb hnc hC hxy
    go_wp2_with (first
      | (go_at_call 14; refine (trie_Build rfl HCS.out HNC.out HMB.out HUS.out).mono ?_; rw [HBT.out]; rintro e w3 ⟨hb, p, rfl, hO⟩; have HBO := Aside0.mk hO.toP; have n1_ := Aside0.mk (below_step HB.out hb); clear HB hO hb; have HB := n1_; clear n1_)
      | (go_at_call 10; (first
  | ((with_reducible refine (trie_Rank (h := x) _ HBO.out HTL.out HXB.out.1 HXB.out.2).mono ?_); rw [HRX.out])
  | ((with_reducible refine (trie_Rank (h := y) _ HBO.out HTL.out HYB.out.1 HYB.out.2).mono ?_); rw [HRY.out])); rintro e w' ⟨rfl, rfl⟩; simp only [skipR]))
    go_ret
    exact ⟨rfl, HB.out⟩
  · have hd := decide_eq_false hxy
    obtain ⟨rx, hrx⟩ : ∃ r, r = rankI (treeG 64 S) x (S.length : Int) := ⟨_, rfl⟩
    obtain ⟨ry, hry⟩ : ∃ r, r = rankI (treeG 64 S) y (S.length : Int) := ⟨_, rfl⟩
    have HRX := Aside0.mk hrx.symm
    have HRY := Aside0.mk hry.symm
    rcases rx with _ | r <;> rcases ry with _ | q
    · clear hR hS hl hb hnc hC hxy hrx hry
      go_wp2_with (first
        | (go_at_call 14; refine (trie_Build rfl HCS.out HNC.out HMB.out HUS.out).mono ?_; rw [HBT.out]; rintro e w3 ⟨hb, p, rfl, hO⟩; have HBO := Aside0.mk hO.toP; have n1_ := Aside0.mk (below_step HB.out hb); clear HB hO hb; have HB := n1_; clear n1_)
        | (go_at_call 10; (first
  | ((with_reducible refine (trie_Rank (h := x) _ HBO.out HTL.out HXB.out.1 HXB.out.2).mono ?_); rw [HRX.out])
  | ((with_reducible refine (trie_Rank (h := y) _ HBO.out HTL.out HYB.out.1 HYB.out.2).mono ?_); rw [HRY.out])); rintro e w' ⟨rfl, rfl⟩; simp only [skipR]))
      go_ret
      exact ⟨rfl, HB.out⟩
    · clear hR hS hl hb hnc hC hxy hrx hry
      go_wp2_with (first
        | (go_at_call 14; refine (trie_Build rfl HCS.out HNC.out HMB.out HUS.out).mono ?_; rw [HBT.out]; rintro e w3 ⟨hb, p, rfl, hO⟩; have HBO := Aside0.mk hO.toP; have n1_ := Aside0.mk (below_step HB.out hb); clear HB hO hb; have HB := n1_; clear n1_)
        | (go_at_call 10; (first
  | ((with_reducible refine (trie_Rank (h := x) _ HBO.out HTL.out HXB.out.1 HXB.out.2).mono ?_); rw [HRX.out])
  | ((with_reducible refine (trie_Rank (h := y) _ HBO.out HTL.out HYB.out.1 HYB.out.2).mono ?_); rw [HRY.out])); rintro e w' ⟨rfl, rfl⟩; simp only [skipR]))
      go_ret
      exact ⟨rfl, HB.out⟩
    · clear hR hS hl hb hnc hC hxy hrx hry
      go_wp2_with (first
        | (go_at_call 14; refine (trie_Build rfl HCS.out HNC.out HMB.out HUS.out).mono ?_; rw [HBT.out]; rintro e w3 ⟨hb, p, rfl, hO⟩; have HBO := Aside0.mk hO.toP; have n1_ := Aside0.mk (below_step HB.out hb); clear HB hO hb; have HB := n1_; clear n1_)
        | (go_at_call 10; (first
  | ((with_reducible refine (trie_Rank (h := x) _ HBO.out HTL.out HXB.out.1 HXB.out.2).mono ?_); rw [HRX.out])
  | ((with_reducible refine (trie_Rank (h := y) _ HBO.out HTL.out HYB.out.1 HYB.out.2).mono ?_); rw [HRY.out])); rintro e w' ⟨rfl, rfl⟩; simp only [skipR]))
      go_ret
      exact ⟨rfl, HB.out⟩
    · have hle := decide_eq_true (rankI_mono HXB.out HYB.out (by omega) hrx.symm hry.symm)
      clear hR hS hl hb hnc hC hxy hrx hry
      go_wp2_with (first
        | (go_at_call 14; refine (trie_Build rfl HCS.out HNC.out HMB.out HUS.out).mono ?_; rw [HBT.out]; rintro e w3 ⟨hb, p, rfl, hO⟩; have HBO := Aside0.mk hO.toP; have n1_ := Aside0.mk (below_step HB.out hb); clear HB hO hb; have HB := n1_; clear n1_)
        | (go_at_call 10; (first
  | ((with_reducible refine (trie_Rank (h := x) _ HBO.out HTL.out HXB.out.1 HXB.out.2).mono ?_); rw [HRX.out])
  | ((with_reducible refine (trie_Rank (h := y) _ HBO.out HTL.out HYB.out.1 HYB.out.2).mono ?_); rw [HRY.out])); rintro e w' ⟨rfl, rfl⟩; simp only [skipR]))
      go_ret
      exact ⟨rfl, HB.out⟩
theorem TrieOrder.walk (P : True) (a0 : Option Addr) (len0 cap0 : Nat) (z0 : List Int) (near : Bool) (x y : Int) (w : World) (w0 : (a0 = none ∧ len0 = 0 ∧ cap0 = 0 ∧ z0 = []) ∨ ∃ x, a0 = some x ∧ len0 ≤ cap0 ∧ cap0 ≤ maxLen ∧ z0.length = cap0 ∧ (∀ i, i < z0.length → w.cell? (x.add i) = some (.int .u64 (z0.getD i 0))) ∧ ∀ n ∈ z0, (Lit.int .u64 n).wf = true) (y0 : len0 * 8 ≤ 140737488351232) (w2 : (Lit.int .u64 x).wf = true) (w3 : (Lit.int .u64 y).wf = true) :
    Calls Try.prog 5 #[.slice a0 len0 cap0, .bool near, .int .u64 x, .int .u64 y] w fun e w' => e = .returned (.bool true) ∧ Below w.heap.size w w' := by
  obtain ⟨l0, rfl, hr0, hm0, hw0, hc0⟩ := ReadsInt.ofRowC w0
  exact TrieOrder.core _ _ _ l0 near x y w rfl (Kd.C_of_reads (d := (0 : Int)) (h1 := fun _ => rfl) hr0) (by omega) (fun x hx => wfU64 (hw0 x hx)) (wfU64 w2) (wfU64 w3)
end Go.Proofs.Ytobdfehpbgcloaa.GL
