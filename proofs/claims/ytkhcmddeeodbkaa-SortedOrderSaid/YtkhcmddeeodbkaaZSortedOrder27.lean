import Derived.Test.YtkhcmddeeodbkaaZSortedOrder26
-- Own texts and, of the words that the kit's print program wrote for this claim, those that are needed here: put together by wip/prune.py.
set_option linter.unusedSimpArgs false
set_option linter.unusedVariables false
namespace Go.Proofs.Ytkhcmddeeodbkaa.GL
open Go.RowKit Go.Proofs.YtkhcmddeeodbkaaW.PrintWords Go.Proofs.YtkhcmddeeodbkaaW.PrintLast Go.Proofs.YtkhcmddeeodbkaaW.PrintMore Go.Proofs.Ytkhcmddeeodbkaa.Q Go.Proofs.Ytkhcmddeeodbkaa.XSor Go.Proofs.Ytkhcmddeeodbkaa.G
theorem less_p {a b : ByteArray} {v : Bool} (w : World) (ha : a.size < 17592186044416) (hb : b.size < 17592186044416) (h : ltK a b = v) :
    Calls Try.prog 15 #[.string a, .string b] w fun e w' => e = .returned (.bool v) ∧ Below w.heap.size w w' := by
  obtain ⟨k, hk⟩ := (less_ev ha hb).rounds
  rw [h] at hk
  exact sorted_Less.calls k a b _ _ hk
theorem refLess_p {a b : ByteArray} {v : Bool} (w : World) (ha : a.size < 17592186044416) (hb : b.size < 17592186044416) (h : ltK a b = v) :
    Calls Try.prog 16 #[.string a, .string b] w fun e w' => e = .returned (.bool v) ∧ Below w.heap.size w w' := by
  obtain ⟨k, hk⟩ := (refLess_ev ha hb).rounds
  rw [h] at hk
  exact loessref22_Less.calls k a b _ _ hk
set_option maxRecDepth 1000000 in
set_option maxHeartbeats 8000000 in
theorem SortedOrder.core (a b c : ByteArray) (w : World) :
    Calls Try.prog 6 #[.string a, .string b, .string c] w fun e w' => e = .returned (.bool true) ∧ Below w.heap.size w w' := by
  have he : (16 < (a.size : Int)) ∨ (16 < (b.size : Int)) ∨ (16 < (c.size : Int)) ∨ ((a.size : Int) ≤ 16 ∧ (b.size : Int) ≤ 16 ∧ (c.size : Int) ≤ 16) := by omega
  go_enter Try.func6, Try.ntmps6
  rcases he with h0 | h0 | h0 | ⟨h0, h1, h2⟩
  · go_wp2_with (first | (go_at_call 10; (with_reducible refine (st_begun _).mono ?_); rintro e w1 ⟨rfl, hb⟩; have HB := Aside0.mk hb; clear hb))
    go_ret
    exact ⟨rfl, HB.out⟩
  · go_wp2_with (first | (go_at_call 10; (with_reducible refine (st_begun _).mono ?_); rintro e w1 ⟨rfl, hb⟩; have HB := Aside0.mk hb; clear hb))
    all_goals (go_ret; exact ⟨rfl, HB.out⟩)
  · go_wp2_with (first | (go_at_call 10; (with_reducible refine (st_begun _).mono ?_); rintro e w1 ⟨rfl, hb⟩; have HB := Aside0.mk hb; clear hb))
    all_goals (go_ret; exact ⟨rfl, HB.out⟩)
  · have A16 := Aside0.mk (show a.size < 17592186044416 by omega)
    have B16 := Aside0.mk (show b.size < 17592186044416 by omega)
    have C16 := Aside0.mk (show c.size < 17592186044416 by omega)
    have Haa := Aside0.mk (ltK_irr a)
    by_cases e : a = b
    · subst e
      have Hab := Haa
      have Hba := Haa
      have hne : (a.toList == a.toList) = true := beq_self_eq_true _
      obtain ⟨v, hv⟩ : ∃ v, ltK a c = v := ⟨_, rfl⟩
      have Hac := Aside0.mk hv
      have Hbc := Hac
      clear hv
      cases v
      · skip
        go_wp2_with (first
          | (go_at_call 10; (with_reducible refine (st_begun _).mono ?_); rintro e w1 ⟨rfl, hb⟩; have HB := Aside0.mk hb; clear hb)
          | (go_at_call 15; (with_reducible refine (less_p _ A16.out A16.out Haa.out).mono ?_); rintro e w2 ⟨rfl, hb⟩; have n1_ := Aside0.mk (below_step HB.out hb); clear HB hb; have HB := n1_; clear n1_)
          | (go_at_call 15; (with_reducible refine (less_p _ A16.out B16.out Hab.out).mono ?_); rintro e w2 ⟨rfl, hb⟩; have n1_ := Aside0.mk (below_step HB.out hb); clear HB hb; have HB := n1_; clear n1_)
          | (go_at_call 15; (with_reducible refine (less_p _ B16.out A16.out Hba.out).mono ?_); rintro e w2 ⟨rfl, hb⟩; have n1_ := Aside0.mk (below_step HB.out hb); clear HB hb; have HB := n1_; clear n1_)
          | (go_at_call 15; (with_reducible refine (less_p _ B16.out C16.out Hbc.out).mono ?_); rintro e w2 ⟨rfl, hb⟩; have n1_ := Aside0.mk (below_step HB.out hb); clear HB hb; have HB := n1_; clear n1_)
          | (go_at_call 15; (with_reducible refine (less_p _ A16.out C16.out Hac.out).mono ?_); rintro e w2 ⟨rfl, hb⟩; have n1_ := Aside0.mk (below_step HB.out hb); clear HB hb; have HB := n1_; clear n1_)
          | (go_at_call 16; (with_reducible refine (refLess_p _ A16.out C16.out Hac.out).mono ?_); rintro e w2 ⟨rfl, hb⟩; have n1_ := Aside0.mk (below_step HB.out hb); clear HB hb; have HB := n1_; clear n1_))
        go_ret
        exact ⟨rfl, HB.out⟩
      · skip
        go_wp2_with (first
          | (go_at_call 10; (with_reducible refine (st_begun _).mono ?_); rintro e w1 ⟨rfl, hb⟩; have HB := Aside0.mk hb; clear hb)
          | (go_at_call 15; (with_reducible refine (less_p _ A16.out A16.out Haa.out).mono ?_); rintro e w2 ⟨rfl, hb⟩; have n1_ := Aside0.mk (below_step HB.out hb); clear HB hb; have HB := n1_; clear n1_)
          | (go_at_call 15; (with_reducible refine (less_p _ A16.out B16.out Hab.out).mono ?_); rintro e w2 ⟨rfl, hb⟩; have n1_ := Aside0.mk (below_step HB.out hb); clear HB hb; have HB := n1_; clear n1_)
          | (go_at_call 15; (with_reducible refine (less_p _ B16.out A16.out Hba.out).mono ?_); rintro e w2 ⟨rfl, hb⟩; have n1_ := Aside0.mk (below_step HB.out hb); clear HB hb; have HB := n1_; clear n1_)
          | (go_at_call 15; (with_reducible refine (less_p _ B16.out C16.out Hbc.out).mono ?_); rintro e w2 ⟨rfl, hb⟩; have n1_ := Aside0.mk (below_step HB.out hb); clear HB hb; have HB := n1_; clear n1_)
          | (go_at_call 15; (with_reducible refine (less_p _ A16.out C16.out Hac.out).mono ?_); rintro e w2 ⟨rfl, hb⟩; have n1_ := Aside0.mk (below_step HB.out hb); clear HB hb; have HB := n1_; clear n1_)
          | (go_at_call 16; (with_reducible refine (refLess_p _ A16.out C16.out Hac.out).mono ?_); rintro e w2 ⟨rfl, hb⟩; have n1_ := Aside0.mk (below_step HB.out hb); clear HB hb; have HB := n1_; clear n1_))
        go_ret
        exact ⟨rfl, HB.out⟩
    · have hne : (a.toList == b.toList) = false := beq_eq_false_iff_ne.mpr (fun h => e (toList_inj h))
      obtain ⟨v1, g1⟩ : ∃ v, ltK a b = v := ⟨_, rfl⟩
      obtain ⟨v2, g2⟩ : ∃ v, ltK b a = v := ⟨_, rfl⟩
      obtain ⟨v3, g3⟩ : ∃ v, ltK b c = v := ⟨_, rfl⟩
      obtain ⟨v4, g4⟩ : ∃ v, ltK a c = v := ⟨_, rfl⟩
      have Hab := Aside0.mk g1
      have Hba := Aside0.mk g2
      have Hbc := Aside0.mk g3
      have Hac := Aside0.mk g4
      cases v1 <;> cases v2
      · exact absurd (ltK_tri g1 g2) e
      · clear g1 g2 g3 g4 e
        go_wp2_with (first
          | (go_at_call 10; (with_reducible refine (st_begun _).mono ?_); rintro e w1 ⟨rfl, hb⟩; have HB := Aside0.mk hb; clear hb)
          | (go_at_call 15; (with_reducible refine (less_p _ A16.out A16.out Haa.out).mono ?_); rintro e w2 ⟨rfl, hb⟩; have n1_ := Aside0.mk (below_step HB.out hb); clear HB hb; have HB := n1_; clear n1_)
          | (go_at_call 15; (with_reducible refine (less_p _ A16.out B16.out Hab.out).mono ?_); rintro e w2 ⟨rfl, hb⟩; have n1_ := Aside0.mk (below_step HB.out hb); clear HB hb; have HB := n1_; clear n1_)
          | (go_at_call 15; (with_reducible refine (less_p _ B16.out A16.out Hba.out).mono ?_); rintro e w2 ⟨rfl, hb⟩; have n1_ := Aside0.mk (below_step HB.out hb); clear HB hb; have HB := n1_; clear n1_)
          | (go_at_call 15; (with_reducible refine (less_p _ B16.out C16.out Hbc.out).mono ?_); rintro e w2 ⟨rfl, hb⟩; have n1_ := Aside0.mk (below_step HB.out hb); clear HB hb; have HB := n1_; clear n1_)
          | (go_at_call 15; (with_reducible refine (less_p _ A16.out C16.out Hac.out).mono ?_); rintro e w2 ⟨rfl, hb⟩; have n1_ := Aside0.mk (below_step HB.out hb); clear HB hb; have HB := n1_; clear n1_)
          | (go_at_call 16; (with_reducible refine (refLess_p _ A16.out C16.out Hac.out).mono ?_); rintro e w2 ⟨rfl, hb⟩; have n1_ := Aside0.mk (below_step HB.out hb); clear HB hb; have HB := n1_; clear n1_))
        go_ret
        exact ⟨rfl, HB.out⟩
      · cases v3
        · clear g1 g2 g3 g4 e
          go_wp2_with (first
            | (go_at_call 10; (with_reducible refine (st_begun _).mono ?_); rintro e w1 ⟨rfl, hb⟩; have HB := Aside0.mk hb; clear hb)
            | (go_at_call 15; (with_reducible refine (less_p _ A16.out A16.out Haa.out).mono ?_); rintro e w2 ⟨rfl, hb⟩; have n1_ := Aside0.mk (below_step HB.out hb); clear HB hb; have HB := n1_; clear n1_)
            | (go_at_call 15; (with_reducible refine (less_p _ A16.out B16.out Hab.out).mono ?_); rintro e w2 ⟨rfl, hb⟩; have n1_ := Aside0.mk (below_step HB.out hb); clear HB hb; have HB := n1_; clear n1_)
            | (go_at_call 15; (with_reducible refine (less_p _ B16.out A16.out Hba.out).mono ?_); rintro e w2 ⟨rfl, hb⟩; have n1_ := Aside0.mk (below_step HB.out hb); clear HB hb; have HB := n1_; clear n1_)
            | (go_at_call 15; (with_reducible refine (less_p _ B16.out C16.out Hbc.out).mono ?_); rintro e w2 ⟨rfl, hb⟩; have n1_ := Aside0.mk (below_step HB.out hb); clear HB hb; have HB := n1_; clear n1_)
            | (go_at_call 15; (with_reducible refine (less_p _ A16.out C16.out Hac.out).mono ?_); rintro e w2 ⟨rfl, hb⟩; have n1_ := Aside0.mk (below_step HB.out hb); clear HB hb; have HB := n1_; clear n1_)
            | (go_at_call 16; (with_reducible refine (refLess_p _ A16.out C16.out Hac.out).mono ?_); rintro e w2 ⟨rfl, hb⟩; have n1_ := Aside0.mk (below_step HB.out hb); clear HB hb; have HB := n1_; clear n1_))
          go_ret
          exact ⟨rfl, HB.out⟩
        · obtain rfl : v4 = true := g4.symm.trans (ltK_trans g1 g3)
          clear g1 g2 g3 g4 e
          go_wp2_with (first
            | (go_at_call 10; (with_reducible refine (st_begun _).mono ?_); rintro e w1 ⟨rfl, hb⟩; have HB := Aside0.mk hb; clear hb)
            | (go_at_call 15; (with_reducible refine (less_p _ A16.out A16.out Haa.out).mono ?_); rintro e w2 ⟨rfl, hb⟩; have n1_ := Aside0.mk (below_step HB.out hb); clear HB hb; have HB := n1_; clear n1_)
            | (go_at_call 15; (with_reducible refine (less_p _ A16.out B16.out Hab.out).mono ?_); rintro e w2 ⟨rfl, hb⟩; have n1_ := Aside0.mk (below_step HB.out hb); clear HB hb; have HB := n1_; clear n1_)
            | (go_at_call 15; (with_reducible refine (less_p _ B16.out A16.out Hba.out).mono ?_); rintro e w2 ⟨rfl, hb⟩; have n1_ := Aside0.mk (below_step HB.out hb); clear HB hb; have HB := n1_; clear n1_)
            | (go_at_call 15; (with_reducible refine (less_p _ B16.out C16.out Hbc.out).mono ?_); rintro e w2 ⟨rfl, hb⟩; have n1_ := Aside0.mk (below_step HB.out hb); clear HB hb; have HB := n1_; clear n1_)
            | (go_at_call 15; (with_reducible refine (less_p _ A16.out C16.out Hac.out).mono ?_); rintro e w2 ⟨rfl, hb⟩; have n1_ := Aside0.mk (below_step HB.out hb); clear HB hb; have HB := n1_; clear n1_)
            | (go_at_call 16; (with_reducible refine (refLess_p _ A16.out C16.out Hac.out).mono ?_); rintro e w2 ⟨rfl, hb⟩; have n1_ := Aside0.mk (below_step HB.out hb); clear HB hb; have HB := n1_; clear n1_))
          go_ret
          exact ⟨rfl, HB.out⟩
      · have := (ltK_asym g1).symm.trans g2
        cases this
theorem SortedOrder.walk (P : True) (a b c : ByteArray) (w : World) (w0 : a.size ≤ 140737488351232) (w1 : b.size ≤ 140737488351232) (w2 : c.size ≤ 140737488351232) :
    Calls Try.prog 6 #[.string a, .string b, .string c] w fun e w' => e = .returned (.bool true) ∧ Below w.heap.size w w' := SortedOrder.core a b c w
end Go.Proofs.Ytkhcmddeeodbkaa.GL
