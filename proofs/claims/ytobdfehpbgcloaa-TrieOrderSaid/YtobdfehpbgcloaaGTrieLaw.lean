/- loesslaw21.begun by hand. -/
import Derived.Test.YtobdfehpbgcloaaGTrieBd
namespace Go.Proofs.Ytobdfehpbgcloaa.GL
open Go.RowKit Go.Proofs.YtobdfehpbgcloaaW.PrintWords Go.Proofs.YtobdfehpbgcloaaW.PrintLast Go.Proofs.YtobdfehpbgcloaaW.PrintMore Go.Proofs.Ytobdfehpbgcloaa.Q Go.Proofs.Ytobdfehpbgcloaa.XTri Go.Proofs.Ytobdfehpbgcloaa.G
set_option linter.unusedVariables false
set_option linter.unusedSimpArgs false
def T3 : List Bool := treeG 64 [1, 2, 9223372036854775808]
set_option maxRecDepth 100000 in
theorem T3_build : buildT [1, 2, 9223372036854775808] = some T3 := if_pos (by decide)
theorem T3_none : buildT [2, 1] = none := if_neg (by decide)
theorem T3_len : T3.length < 100000000000 := by decide +kernel
theorem T3_r2 : rankI T3 2 3 = some 1 := by decide +kernel
theorem T3_r3 : rankI T3 9223372036854775808 3 = some 2 := by decide +kernel
theorem T3_r5 : rankI T3 5 0 = none := by decide +kernel
theorem T3_c3 : checkT T3 3 = true := by decide +kernel
theorem T3_c1 : checkT T3 1 = false := by decide +kernel
set_option maxRecDepth 1000000 in
set_option maxHeartbeats 8000000 in
theorem law21_begun (w : World) : Calls Try.prog 8 #[] w fun e w' => e = .returned (.bool true) ∧ Below w.heap.size w w' := by
  have HB := Aside0.mk (Below.refl w.heap.size w)
  have h3 : 3 = [(1 : Int), 2, 9223372036854775808].length := rfl
  have h2 : 2 = [(2 : Int), 1].length := rfl
  have HH3 := Aside0.mk h3
  have HH2 := Aside0.mk h2
  clear h3 h2
  have HU1 := Aside0.mk (show U64s [1, 2, 9223372036854775808] by intro x hx; simp at hx; omega)
  have HU2 := Aside0.mk (show U64s [2, 1] by intro x hx; simp at hx; omega)
  go_enter Try.func8, Try.ntmps8
  go_wp2_with (first
    | ((with_reducible refine gate_dst (N := 12) rfl ?_); refine Kd.R_lit (Kd.int .u64) (w0 := w) w.heap.size 23 rfl (N := 12) rfl (xs := [(1 : Int), 2, 9223372036854775808]) (inner := [.int .u64 1, .int .u64 2, .int .u64 9223372036854775808]) (ok := fun _ => True) (okp := fun _ => True) ?aR (Kd.reps_scalar (enc := Value.int .u64) [(1 : Int), 2, 9223372036854775808]) (fun _ h => h) trivial HB.out (below_size HB.out) (by decide) ?_; (case aR => first | (go_simp; done) | (go_simp; rfl)); intro v1 w1 ho hb hg hat; obtain ⟨A1, c1, rfl, _, hC1⟩ := Kd.R_reads ho; have HC1 : Aside0 (Kd.C (Kd.int .u64) w1 A1 3 [1, 2, 9223372036854775808]) := ⟨hC1⟩; have HL1 : Aside0 (3 ≤ c1) := ⟨(Kd.R_reads' ho).2.1⟩; have n1_ := Aside0.mk hb; clear HB ho hb hg hat hC1; have HB := n1_; clear n1_)
    | ((with_reducible refine gate_dst (N := 17) rfl ?_); refine Kd.R_lit (Kd.int .u64) (w0 := w) w.heap.size 23 rfl (N := 17) rfl (xs := [(2 : Int), 1]) (inner := [.int .u64 2, .int .u64 1]) (ok := fun _ => True) (okp := fun _ => True) ?aR (Kd.reps_scalar (enc := Value.int .u64) [(2 : Int), 1]) (fun _ h => h) trivial HB.out (below_size HB.out) (by decide) ?_; (case aR => first | (go_simp; done) | (go_simp; rfl)); intro v2 w2 ho hb0 hg hat; obtain ⟨A2, c2, rfl, _, hC2⟩ := Kd.R_reads ho; have HC2 : Aside0 (Kd.C (Kd.int .u64) w2 A2 2 [2, 1]) := ⟨hC2⟩; have HL2 : Aside0 (2 ≤ c2) := ⟨(Kd.R_reads' ho).2.1⟩; have hb := below_of_grown_none hg; have m1_ := Aside0.mk (HBP.out.below hb); have n1_ := Aside0.mk (below_step HB.out hb); clear HB HBP ho hb hb0 hg hat hC2; have HB := n1_; have HBP := m1_; clear n1_ m1_)
    | (go_at_call 14; (first
        | ((with_reducible refine (trie_Build (ls := [1, 2, 9223372036854775808]) HH3.out HC1.out HL1.out (by decide) HU1.out).mono ?_); rw [T3_build]; rintro e w3 ⟨hb, p, rfl, hO⟩; have HBP := Aside0.mk hO.toP; have n1_ := Aside0.mk (below_step HB.out hb); clear HB hO hb; have HB := n1_; clear n1_)
        | ((with_reducible refine (trie_Build (ls := [2, 1]) HH2.out HC2.out HL2.out (by decide) HU2.out).mono ?_); rw [T3_none]; rintro e w4 ⟨hb, rfl⟩; have m1_ := Aside0.mk (HBP.out.below hb); have n1_ := Aside0.mk (below_step HB.out hb); clear HB HBP hb; have HB := n1_; have HBP := m1_; clear n1_ m1_)))
    | (go_at_call 10; refine (trie_Rank _ HBP.out T3_len (by decide) (by decide)).mono ?_; (first | rw [T3_r2] | rw [T3_r3] | rw [T3_r5]); rintro e w' ⟨rfl, rfl⟩; simp only [skipR])
    | (go_at_call 13; refine (trie_Check _ HBP.out T3_len).mono ?_; (first | rw [T3_c3] | rw [T3_c1]); rintro e w' ⟨rfl, rfl⟩))
  go_ret
  exact ⟨rfl, HB.out⟩
end Go.Proofs.Ytobdfehpbgcloaa.GL
