/- The law HashPairs, walked by hand: eight buckets in an array. -/
import Derived.Test.YtoachfoaknlemaaQHashBegun
import Derived.Test.YtoachfoaknlemaaXHashx7
import Derived.Test.YtoachfoaknlemaaXHashx8
set_option linter.unusedVariables false
set_option linter.unusedSimpArgs false
namespace Go.Proofs.Ytoachfoaknlemaa.H
open Go.RowKit Go.Proofs.YtoachfoaknlemaaW.PrintWords Go.Proofs.YtoachfoaknlemaaW.PrintLast Go.Proofs.YtoachfoaknlemaaW.PrintMore Go.Proofs.Ytoachfoaknlemaa.G Go.Proofs.Ytoachfoaknlemaa.XHash Go.Proofs.Ytoachfoaknlemaa.Q
set_option maxRecDepth 1000000 in
set_option maxHeartbeats 8000000 in
theorem loesslaw9_HashPairs.walk (P : True) (a0 : Int) (w : World) (w0 : (Lit.int .i64 a0).wf = true) :
    Calls Try.prog 6 #[.int .i64 a0] w fun e w' => e = .returned (.bool true) ∧ Below w.heap.size w w' := by
  have HB := Aside0.mk (Below.refl w.heap.size w)
  obtain ⟨kb, hb0⟩ := Ev.rounds hash_begun
  have A3 := Aside0.mk hb0
  clear hb0
  by_cases h1 : a0 < 0
  · have h1b : decide (a0 < 0) = true := decide_eq_true h1
    have A4 := Aside0.mk (other_eq 3 a0)
    have e4 : oth 3 a0 = -1 := by unfold oth; rw [if_pos (by omega)]
    rw [e4] at A4
    clear h1
    go_enter Try.func6, Try.ntmps6
    go_wp2_with (first
      | (go_at_call 9; (with_reducible refine (loesslaw9_begun.calls kb true _ A3.out).mono ?_); rintro e w8 ⟨rfl, hb⟩; have n0_ := Aside0.mk (below_step HB.out hb); clear HB; have HB := n0_; clear n0_; clear hb)
      | (go_at_call 17; (with_reducible refine (hash_Other.calls 3 a0 _ _ A4.out).mono ?_); rintro e w9 ⟨rfl, hb⟩; have n0_ := Aside0.mk (below_step HB.out hb.below); clear HB; have HB := n0_; clear n0_; clear hb))
    go_ret
    exact ⟨rfl, HB.out⟩
  · have h1b : decide (a0 < 0) = false := decide_eq_false h1
    by_cases h2 : a0 > 32767
    · have h2b : decide (32767 < a0) = true := decide_eq_true h2
      have A4 := Aside0.mk (other_eq 3 a0)
      have e4 : oth 3 a0 = -1 := by unfold oth; rw [if_pos (by omega)]
      rw [e4] at A4
      clear h1 h2
      go_enter Try.func6, Try.ntmps6
      go_wp2_with (first
        | (go_at_call 9; (with_reducible refine (loesslaw9_begun.calls kb true _ A3.out).mono ?_); rintro e w8 ⟨rfl, hb⟩; have n0_ := Aside0.mk (below_step HB.out hb); clear HB; have HB := n0_; clear n0_; clear hb)
        | (go_at_call 17; (with_reducible refine (hash_Other.calls 3 a0 _ _ A4.out).mono ?_); rintro e w9 ⟨rfl, hb⟩; have n0_ := Aside0.mk (below_step HB.out hb.below); clear HB; have HB := n0_; clear n0_; clear hb))
      go_ret
      exact ⟨rfl, HB.out⟩
    · have h2b : decide (32767 < a0) = false := decide_eq_false h2
      go_enter Try.func6, Try.ntmps6
      go_wp2_with (first
        | (go_at_call 9; (with_reducible refine (loesslaw9_begun.calls kb true _ A3.out).mono ?_); rintro e w8 ⟨rfl, hb⟩; have n0_ := Aside0.mk (below_step HB.out hb); clear HB; have HB := n0_; clear n0_; clear hb))
      have hg8 : w8.heap.size < (w8.alloc (.cells #[Value.int .i64 0, .int .i64 0, .int .i64 0, .int .i64 0, .int .i64 0, .int .i64 0, .int .i64 0, .int .i64 0] 32)).heap.size := by simp
      have hBa := Aside0.mk (HB.out.alloc HB.out.size (.cells #[Value.int .i64 0, .int .i64 0, .int .i64 0, .int .i64 0, .int .i64 0, .int .i64 0, .int .i64 0, .int .i64 0] 32))
      have hw8 := HB.out.size
      clear HB
      go_loopw [5] (fun v wr => ∃ (b : Nat) (cur : Array Value), v = .int .i64 b ∧ b ≤ 8 ∧ Aside0 (wr.heap[w8.heap.size]? = some (.cells cur 32 (0, 0))) ∧ cur.size = 8 ∧ Aside0 (∀ j : Nat, j < b → cur[j]? = some (.int .i64 (oth j a0))) ∧ Aside0 (Below w.heap.size w wr)) (fun v _ => match v with | .int _ i => 8 - i.toNat | _ => 0)
      case atStart => exact ⟨0, _, rfl, by omega, ⟨heap_alloc_new w8 _⟩, rfl, ⟨fun j hj => absurd hj (by omega)⟩, hBa⟩
      case round =>
        obtain ⟨b, cur, rfl, hb, H1, hcs, H2, HB⟩ := hrel
        by_cases hb8 : b < 8
        · have hlt : decide ((b : Int) < 8) = true := decide_eq_true (by omega)
          have A5 := Aside0.mk (other_eq b a0)
          obtain ⟨o0, o1, o2, o3⟩ := oth_back (b := (b : Int)) (t := a0) (by omega) (by omega) (by omega) (by omega)
          obtain ⟨x, hx⟩ : ∃ x, x = oth b a0 := ⟨_, rfl⟩
          rw [← hx] at A5 o0 o1 o2
          have HX := Aside0.mk hx
          clear hx o3
          have x1 : decide (x < 0) = false := decide_eq_false (by omega)
          have x2 : decide (7 < x) = false := decide_eq_false (by omega)
          have x3 : (x == (b : Int)) = false := beq_eq_false_iff_ne.mpr o2
          go_wp2_with (first
            | (go_at_call 17; (with_reducible refine (hash_Other.calls b a0 _ _ A5.out).mono ?_); rintro e w9 ⟨rfl, hd⟩
               have H1' : Aside0 (w9.heap[w8.heap.size]? = some (.cells cur 32 (0, 0))) := ⟨(hd.below.block _ (Array.getElem?_eq_some_iff.1 H1.out).1).trans H1.out⟩
               have HB' := Aside0.mk (below_step HB.out hd.below)
               have hcell : w9.cell? ⟨w8.heap.size, b, none⟩ = some (cur[b]'(by omega)) := by rw [cell_of_row w9 _ b cur _ _ H1'.out]; exact Array.getElem?_eq_getElem _
               have hhot : w9.frozen? ⟨w8.heap.size, b, none⟩ = false := by simp [World.frozen?, H1'.out]
               clear hd H1 HB))
          go_roundw
          case rel =>
            refine ⟨b + 1, cur.setIfInBounds b (.int .i64 x), by go_num, by omega, ⟨heap_setCell_same w9 _ b cur _ _ H1'.out⟩, by simp [hcs], ⟨fun j hj => ?_⟩, ⟨HB'.out.setCell (p := ⟨w8.heap.size, b, none⟩) hw8 _⟩⟩
            by_cases hjb : b = j
            · subst hjb
              rw [Array.getElem?_setIfInBounds_self, if_pos (by omega), HX.out]
            · rw [Array.getElem?_setIfInBounds_ne hjb]
              exact H2.out j (by omega)
          case measure => simp; omega
        · have hlt : decide ((b : Int) < 8) = false := decide_eq_false (by omega)
          obtain rfl : b = 8 := by omega
          go_wp2
          go_loopw [6] (fun v wr2 => ∃ (c : Nat), v = .int .i64 c ∧ c ≤ 8 ∧ wr2 = wr) (fun v _ => match v with | .int _ i => 8 - i.toNat | _ => 0)
          case atStart => exact ⟨0, rfl, by omega, rfl⟩
          case round =>
            obtain ⟨c, rfl, hc, rfl⟩ := hrel
            by_cases hc8 : c < 8
            · have hlt2 : decide ((c : Int) < 8) = true := decide_eq_true (by omega)
              obtain ⟨o0, o1, o2, o3⟩ := oth_back (b := (c : Int)) (t := a0) (by omega) (by omega) (by omega) (by omega)
              obtain ⟨x, hx⟩ : ∃ x : Nat, (x : Int) = oth c a0 := ⟨(oth c a0).toNat, by omega⟩
              have hx8 : x < 8 := by omega
              have h1 := H2.out c hc8
              have h2 := H2.out x hx8
              rw [← hx] at h1
              rw [hx, o3] at h2
              have hcell1 : wr.cell? ⟨w8.heap.size, c, none⟩ = some (.int .i64 x) := by rw [cell_of_row wr _ c cur _ _ H1.out]; exact h1
              have hcell2 : wr.cell? ⟨w8.heap.size, x, none⟩ = some (.int .i64 c) := by rw [cell_of_row wr _ x cur _ _ H1.out]; exact h2
              clear hx o0 o1 o2 o3 h1 h2
              have hxi : (x : Int) < 8 := by omega
              go_wp2
              go_roundw
              case rel => exact ⟨c + 1, by go_num, by omega, by first | trivial | rfl⟩
              case measure => simp; omega
            · have hlt2 : decide ((c : Int) < 8) = false := decide_eq_false (by omega)
              go_wp2
              go_ret
              exact ⟨rfl, HB.out⟩
end Go.Proofs.Ytoachfoaknlemaa.H
