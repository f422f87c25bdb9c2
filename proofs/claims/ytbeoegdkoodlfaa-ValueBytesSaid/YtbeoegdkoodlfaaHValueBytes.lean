/- The law ValueBytes, walked by hand. -/
import Derived.Test.YtbeoegdkoodlfaaQValPut
import Derived.Test.YtbeoegdkoodlfaaQNumRef
import Derived.Test.YtbeoegdkoodlfaaPureValueCutV
import Derived.Test.YtbeoegdkoodlfaaQOpenRaw
import Derived.Deep.QuietTactic
import Derived.BigQuiet
import Derived.Deep.RegionWith
import Derived.Deep.RegionHeld3
import Derived.Deep.DeepCutAuto
import Derived.Deep.RegionHeld
import Derived.Test.YtbeoegdkoodlfaaXVabx5
import Derived.Test.YtbeoegdkoodlfaaXVabx8
import Derived.Test.YtbeoegdkoodlfaaXVabx7
import Derived.Test.YtbeoegdkoodlfaaXVabx14
import Derived.Test.YtbeoegdkoodlfaaXVabx13
import Derived.Test.YtbeoegdkoodlfaaXVabx11
import Derived.Test.YtbeoegdkoodlfaaXVabx2
import Derived.Test.YtbeoegdkoodlfaaXVabx4
namespace Go.Proofs.Ytbeoegdkoodlfaa.GL
open Go.RowKit Go.Proofs.YtbeoegdkoodlfaaW.PrintWords Go.Proofs.YtbeoegdkoodlfaaW.PrintLast Go.Proofs.YtbeoegdkoodlfaaW.PrintMore Go.Proofs.Ytbeoegdkoodlfaa.Q Go.Proofs.Ytbeoegdkoodlfaa.XVab Go.Proofs.Ytbeoegdkoodlfaa.G
set_option linter.unusedVariables false
set_option linter.unusedSimpArgs false
/-- Ten bytes at most. -/
theorem short_c {w : World} {A : Option Addr} {c M : Nat} {l : List Int} (hM : M = (l.take 10).length) (hc : l.length ≤ c) : Calls Try.prog 24 #[.slice A l.length c, .int .i64 10] w fun e w' => e = .returned (.slice A M c) ∧ w = w' := by
  by_cases h : 10 < l.length
  · obtain ⟨i0, hi, hi1, hi2, hi3⟩ := info_parts info5
    have hrun : ∀ W : World, (Instr.slice 40 (.slice A l.length c) none (some (.int .i64 10)) none).run Try.prog W = .ok (.slice A M c) W := by
      intro W
      rw [hM, List.length_take, Nat.min_eq_left (by omega)]
      exact cut_to (P := Try.prog) 40 5 .i64 Try.underlying40 hi A l.length c 10 (by decide) (by omega) hc W
    have hd : decide ((10 : Int) < (l.length : Int)) = true := decide_eq_true (by omega)
    have hd2 : decide (10 < l.length) = true := decide_eq_true h
    clear hM h hi
    go_enter Try.func24, Try.ntmps24
    go_wp2
    go_ret
    exact ⟨rfl, rfl⟩
  · have hML : M = l.length := by rw [hM, List.length_take]; omega
    rw [hML]
    have hd : decide ((10 : Int) < (l.length : Int)) = false := decide_eq_false (by omega)
    have hd2 : decide (10 < l.length) = false := decide_eq_false h
    clear hM hML h
    go_enter Try.func24, Try.ntmps24
    go_wp2
    go_ret
    exact ⟨rfl, rfl⟩
theorem take10 {w : World} {A : Option Addr} {l : List Int} (h : Kd.C (Kd.int .u8) w A l.length l) : Kd.C (Kd.int .u8) w A (l.take 10).length (l.take 10) := by
  by_cases h1 : 10 ≤ l.length
  · exact Kd.C_take h h1
  · rw [List.take_of_length_le (by omega)]; exact h
/-- A raw value's three cells. -/
def raw3 (a b : Int) (s : ByteArray) : Array Value := #[.int .i64 a, .int .i64 b, .string s]
theorem put3 {W : World} {g : Nat} {a b a' b' : Int} {s s' : ByteArray} (h : W.heap[g]? = some (.cells (raw3 a b s) 23 (0, 0))) : (((W.setCell ⟨g, 0, none⟩ (.int .i64 a')).setCell ⟨g, 1, none⟩ (.int .i64 b')).setCell ⟨g, 2, none⟩ (.string s')).heap[g]? = some (.cells (raw3 a' b' s') 23 (0, 0)) :=
  blk_put (blk_put (blk_put h 0 _ rfl) 1 _ rfl) 2 _ rfl
theorem far3 {W : World} {g k : Nat} {t : TypeId} {cs : Array Value} {x y z : Value} (h : W.heap[g]? = some (.cells cs t (0, 0))) (hne : g ≠ k) : (((W.setCell ⟨k, 0, none⟩ x).setCell ⟨k, 1, none⟩ y).setCell ⟨k, 2, none⟩ z).heap[g]? = some (.cells cs t (0, 0)) :=
  blk_far (blk_far (blk_far h hne _) hne _) hne _
theorem bel3 {w W : World} {k : Nat} {x y z : Value} (h : Below w.heap.size w W) (hk : w.heap.size ≤ k) : Below w.heap.size w (((W.setCell ⟨k, 0, none⟩ x).setCell ⟨k, 1, none⟩ y).setCell ⟨k, 2, none⟩ z) := below_set (below_set (below_set h hk) hk) hk
theorem cell3 {W : World} {g : Nat} {a b : Int} {s : ByteArray} (h : W.heap[g]? = some (.cells (raw3 a b s) 23 (0, 0))) : W.cell? ⟨g, 0, none⟩ = some (.int .i64 a) ∧ W.cell? ⟨g, 1, none⟩ = some (.int .i64 b) ∧ W.cell? ⟨g, 2, none⟩ = some (.string s) := ⟨(blk_cell h 0).trans rfl, (blk_cell h 1).trans rfl, (blk_cell h 2).trans rfl⟩
theorem app8_ {ops : Array Oper} {o : Oper} {a : Act} {Q : Exit → Act → World → Prop} {Kc : Act → World → Prop} {w0 W : World} (hw : Region.wanted o (yielded ops a.tmps) = true) (s x : Operand)
    (ho : o.op = .call { callee := .builtin .append, args := #[s, x], argTypes := #[40, 40] }) (v : Value) (xs ys : List Int) (A : Option Addr) (m c : Nat) (hs : a.eval s = v) (hx : a.eval x = .slice A m c)
    (HO : Kd.R (Kd.int .u8) 5 W w0.heap.size (fun _ => True) v xs) (HR : Kd.C (Kd.int .u8) W A m ys) (HB : Below w0.heap.size w0 W) (hl : xs.length + m ≤ 1000000)
    (h : ∀ v1 w1, Kd.R (Kd.int .u8) 5 w1 w0.heap.size (fun _ => True) v1 (xs ++ ys) → Below w0.heap.size w0 w1 → Kc (a.put o.dst v1) w1) :
    if Region.wanted o (yielded ops a.tmps) = true then Oper.wp Try.prog o a W Kc Q else Kc (a.put o.dst undef) W :=
  Kd.R_append_rows_step (Kd.int .u8) (w0 := w0) w0.heap.size hw s x 40 5 (.int .u8 0) 1 ho Try.underlying40 info5 (by rfl) (by decide) (by omega) v xs ys A m c (fun _ => True) (fun _ => False) hs hx HO HR (fun _ _ h => h) (fun _ h => h.elim) (fun _ _ => trivial) HB HB.size (by omega) (fun v1 w1 h1 h2 _ _ => h v1 w1 h1 h2)
theorem app8p {ops : Array Oper} {rest : List Oper} {o : Oper} {a : Act} {Q : Exit → Act → World → Prop} {w0 W : World} (hgd : o.guard = none) (s x : Operand)
    (ho : o.op = .call { callee := .builtin .append, args := #[s, x], argTypes := #[40, 40] }) (v : Value) (xs ys : List Int) (A : Option Addr) (m c : Nat) (hs : a.eval s = v) (hx : a.eval x = .slice A m c)
    (HO : Kd.R (Kd.int .u8) 5 W w0.heap.size (fun _ => True) v xs) (HR : Kd.C (Kd.int .u8) W A m ys) (HB : Below w0.heap.size w0 W) (hl : xs.length + m ≤ 1000000)
    (h : ∀ v1 w1, Kd.R (Kd.int .u8) 5 w1 w0.heap.size (fun _ => True) v1 (xs ++ ys) → Below w0.heap.size w0 w1 → wpList Try.prog ops Q rest (a.put o.dst v1) w1) : wpList Try.prog ops Q (o :: rest) a W :=
  Kd.R_append_rows (Kd.int .u8) (w0 := w0) w0.heap.size hgd s x 40 5 (.int .u8 0) 1 ho Try.underlying40 info5 (by rfl) (by decide) (by omega) v xs ys A m c (fun _ => True) (fun _ => False) hs hx HO HR (fun _ _ h => h) (fun _ h => h.elim) (fun _ _ => trivial) HB HB.size (by omega) (fun v1 w1 h1 h2 _ _ => h v1 w1 h1 h2)
theorem of_ok {a b : Int} {s : ByteArray} (h : mayV a b s = true) : (ofV a b s).2 = 0 := by
  unfold ofV
  rcases mayV_cases h with ⟨h1, h2⟩ | ⟨h1, h2, h3, h4⟩
  · rw [if_pos ⟨h1, by rw [h2]; rfl⟩]
  · rw [if_neg (fun h => by omega), if_pos ⟨h1, h2, h3, h4⟩]
theorem of_bad {a b : Int} {s : ByteArray} (h : mayV a b s = false) : (ofV a b s).2 = 1 := by
  unfold ofV
  have h := of_decide_eq_false h
  rw [if_neg (fun g => h (.inl g)), if_neg (fun g => h (.inr g))]
theorem of_val {a b : Int} {s : ByteArray} (h : mayV a b s = true) : (ofV a b s).1.k = a ∧ (ofV a b s).1.n = (if a = 1 then b else 0) ∧ (ofV a b s).1.s = (if a = 1 then ⟨#[]⟩ else s) := by
  unfold ofV
  rcases mayV_cases h with ⟨h1, h2⟩ | ⟨h1, h2, h3, h4⟩
  · rw [if_pos ⟨h1, by rw [h2]; rfl⟩, if_pos h1, if_pos h1]
    exact ⟨h1.symm, rfl, rfl⟩
  · rw [if_neg (fun h => by omega), if_pos ⟨h1, h2, h3, h4⟩, if_neg (by omega), if_neg (by omega)]
    exact ⟨h1.symm, rfl, rfl⟩
theorem eq_of {a b a' b' : Int} {s s' : ByteArray} (h : mayV a b s = true) (h' : mayV a' b' s' = true) : value_Eq.f (ofV a b s).1 (ofV a' b' s').1 = some (decide (a = a' ∧ b = b' ∧ s = s')) := by
  obtain ⟨h1, h2, h3⟩ := of_val h
  obtain ⟨g1, g2, g3⟩ := of_val h'
  rw [eq_eq, h1, h2, h3, g1, g2, g3]
  congr 1
  rw [Bool.eq_iff_iff]
  simp only [Bool.and_eq_true, beq_iff_eq, decide_eq_true_eq, toList_iff]
  rcases mayV_cases h with ⟨e1, e2⟩ | ⟨e1, e2, _⟩ <;> rcases mayV_cases h' with ⟨f1, f2⟩ | ⟨f1, f2, _⟩
  · rw [if_pos e1, if_pos f1, if_pos e1, if_pos f1, e2, f2]
  · rw [e1, f1]; simp
  · rw [e1, f1]; simp
  · rw [if_neg (by omega), if_neg (by omega), if_neg (by omega), if_neg (by omega), e2, f2]
theorem put_cmp {a b a' b' : Int} {s s' : ByteArray} (h' : mayV a' b' s' = true) (hb' : I64 b') (h : mayV a b s = true) (hb : I64 b) : ((strOfNums (putV a' b' s')).toList == (strOfNums (putV a b s)).toList) = decide (a = a' ∧ b = b' ∧ s = s') := by
  rw [Bool.eq_iff_iff]
  simp only [beq_iff_eq, decide_eq_true_eq, toList_iff]
  constructor
  · intro e
    have e2 := str_inj (putV_byt _ _ _) (putV_byt _ _ _) e
    have g1 := getV_put h' hb' []
    have g2 := getV_put h hb []
    rw [e2, g2] at g1
    simp only [Prod.mk.injEq] at g1
    exact ⟨g1.1, g1.2.1, g1.2.2.1⟩
  · rintro ⟨rfl, rfl, rfl⟩
    rfl
theorem conv_C {W : World} {A : Option Addr} {n c : Nat} {xs : List Int} {t : ByteArray} (h : Kd.C (Kd.int .u8) W A n xs) (ht : strOfNums xs = t) : (convert 40 9 (.slice A n c)).run Try.prog W = .ok (.string t) W := by
  rw [← ht]
  exact Kd.C_string (P := Try.prog) (c := c) Try.underlying40 Try.underlying5 Try.underlying9 h
theorem putVal_ev {a b : Int} {s : ByteArray} (ha : I64 a) (hb : I64 b) (h : s.size ≤ 30) : Ev (fun k => loessref1_PutVal.f k a b s) (putV a b s) := by
  have h1 := putN_len ha
  have h2 := putN_len hb
  have h3 := putT_len h (by decide)
  unfold loessref1_PutVal.f putV
  refine Ev.bind (ref_Put_ev ha) ?_
  by_cases e : a = 1
  · refine Ev.congr (fun k => if_pos e) ?_
    rw [if_pos e]
    exact Ev.bind (ref_Put_ev hb) (Ev.congr (fun k => if_pos (by omega)) (Ev.now _))
  · refine Ev.congr (fun k => if_neg e) ?_
    rw [if_neg e]
    exact Ev.bind (ref_PutText_ev (s := s) (by omega)) (Ev.congr (fun k => if_pos (by omega)) (Ev.now _))
theorem keep15 {W : World} {g4 g5 g14 g16 : Nat} {a b a' b' : Int} {s s' : ByteArray} {x y : VX} {A : Option Addr} {n c : Nat} {xs : List Int} {t : ByteArray} (h4 : W.heap[g4]? = some (.cells (raw3 a b s) 23 (0, 0))) (h5 : W.heap[g5]? = some (.cells (raw3 a' b' s') 23 (0, 0))) (h14 : W.heap[g14]? = some (.cells #[VX.val x] 27 (0, 0))) (h16 : W.heap[g16]? = some (.cells #[VX.val y] 27 (0, 0))) (h : Kd.C (Kd.int .u8) W A n xs) (ht : strOfNums xs = t) :
    W.cell? ⟨g4, 0, none⟩ = some (.int .i64 a) ∧ W.cell? ⟨g4, 1, none⟩ = some (.int .i64 b) ∧ W.cell? ⟨g4, 2, none⟩ = some (.string s) ∧ W.cell? ⟨g5, 0, none⟩ = some (.int .i64 a') ∧ W.cell? ⟨g5, 1, none⟩ = some (.int .i64 b') ∧ W.cell? ⟨g5, 2, none⟩ = some (.string s') ∧ W.cell? ⟨g14, 0, none⟩ = some (VX.val x) ∧ W.cell? ⟨g16, 0, none⟩ = some (VX.val y) ∧ (convert 40 9 (.slice A n c)).run Try.prog W = .ok (.string t) W :=
  ⟨(cell3 h4).1, (cell3 h4).2.1, (cell3 h4).2.2, (cell3 h5).1, (cell3 h5).2.1, (cell3 h5).2.2, (blk_cell h14 0).trans rfl, (blk_cell h16 0).trans rfl, conv_C h ht⟩
set_option maxRecDepth 1000000 in
set_option maxHeartbeats 8000000 in
theorem ValueBytes.in (a b : Int) (s s1 : ByteArray) (a' b' : Int) (s' s2 : ByteArray) (A2 : Option Addr) (c2 : Nat) (l2 : List Int) (A3 : Option Addr) (c3 : Nat) (l3 : List Int) (w : World) (hb : I64 b) (ha' : I64 a') (hb' : I64 b') (hcut : loesslaw4_Cut.f a b s = some (a, b, s1)) (hs1 : s1.size ≤ 30) (hcut' : loesslaw4_Cut.f a' b' s' = some (a', b', s2)) (hs2 : s2.size ≤ 30)
    (hC2 : Kd.C (Kd.int .u8) w A2 l2.length l2) (hl2 : l2.length ≤ c2) (hy2 : Byt l2) (hC3 : Kd.C (Kd.int .u8) w A3 l3.length l3) (hl3 : l3.length ≤ c3) (hy3 : Byt l3) :
    Calls Try.prog 8 #[.agg #[.int .i64 a, .int .i64 b, .string s], .agg #[.int .i64 a', .int .i64 b', .string s'], .slice A2 l2.length c2, .slice A3 l3.length c3] w fun e w' => e = .returned (.bool true) ∧ Below w.heap.size w w' := by
  have HB := Aside0.mk (Below.refl w.heap.size w)
  have HI := Aside0.mk (And.intro hb (And.intro ha' hb'))
  have HCU := Aside0.mk hcut
  have HCU' := Aside0.mk hcut'
  have HS1 := Aside0.mk hs1
  have HS2 := Aside0.mk hs2
  have HL2 := Aside0.mk hl2
  have HL3 := Aside0.mk hl3
  obtain ⟨L2, hL2⟩ : ∃ L, L = l2.take 10 := ⟨_, rfl⟩
  obtain ⟨L3, hL3⟩ : ∃ L, L = l3.take 10 := ⟨_, rfl⟩
  obtain ⟨m2, hm2⟩ : ∃ m, m = L2.length := ⟨_, rfl⟩
  obtain ⟨m3, hm3⟩ : ∃ m, m = L3.length := ⟨_, rfl⟩
  have HC2 := Aside0.mk (show Kd.C (Kd.int .u8) w A2 m2 L2 by rw [hm2, hL2]; exact take10 hC2)
  have HC3 := Aside0.mk (show Kd.C (Kd.int .u8) w A3 m3 L3 by rw [hm3, hL3]; exact take10 hC3)
  have HY2 := Aside0.mk (show Byt L2 by rw [hL2]; exact hy2.take 10)
  have HY3 := Aside0.mk (show Byt L3 by rw [hL3]; exact hy3.take 10)
  have HM2 := Aside0.mk hm2
  have HM3 := Aside0.mk hm3
  have HE2 := Aside0.mk (show m2 = (l2.take 10).length by rw [hm2, hL2])
  have HE3 := Aside0.mk (show m3 = (l3.take 10).length by rw [hm3, hL3])
  have hm2z : (m2 : Int) ≤ 10 := by rw [hm2, hL2, List.length_take]; omega
  have hm3z : (m3 : Int) ≤ 10 := by rw [hm3, hL3, List.length_take]; omega
  have HN2 := Aside0.mk (show m2 ≤ c2 by rw [hm2, hL2, List.length_take]; omega)
  have HN3 := Aside0.mk (show m3 ≤ c3 by rw [hm3, hL3, List.length_take]; omega)
  obtain ⟨k1, hk1⟩ := Ev.rounds val_begun
  have HK1 := Aside0.mk hk1
  have hu := Try.underlying23
  clear hm2 hm3 hL2 hL3 hk1 hC2 hC3 hl2 hl3 hy2 hy3 hb ha' hb' hcut hcut' hs1 hs2
  go_enter Try.func8, Try.ntmps8
  go_upto_region 4 with (first
    | ((with_reducible refine gate_dst (N := 4) rfl ?_); refine box_event ?hg (N := 4) ?hd (cs := raw3 a b s) (t := 23) ?hr ?_; (case hd => rfl); (case hg => rfl); (case hr => first | (go_simp; done) | (go_simp; rfl)); intro g4 hg w1 hbox hb; have G4 := Aside0.mk (show w.heap.size ≤ g4 by omega); have n0_ := Aside0.mk (hb : Below w.heap.size w w1); have B4 := Aside0.mk hbox; clear HB; have HB := n0_; clear n0_; clear hbox hg hb)
    | ((with_reducible refine gate_dst (N := 5) rfl ?_); refine box_event ?hg (N := 5) ?hd (cs := raw3 a' b' s') (t := 23) ?hr ?_; (case hd => rfl); (case hg => rfl); (case hr => first | (go_simp; done) | (go_simp; rfl)); intro g5 hg w2 hbox hb; have G5 := Aside0.mk (show w.heap.size ≤ g5 by rw [hg]; exact HB.out.size); have GN : g4 ≠ g5 := (by have h2 := blk_lt B4.out; omega); have n0_ := Aside0.mk (below_step HB.out hb); have n1_ := Aside0.mk (blk_below B4.out hb); have B5 := Aside0.mk hbox; clear HB B4; have HB := n0_; have B4 := n1_; clear n0_ n1_; clear hbox hg hb; have hc40 : w2.cell? ⟨g4, 0, none⟩ = some (.int .i64 a) := (blk_cell B4.out 0).trans rfl; have hc41 : w2.cell? ⟨g4, 1, none⟩ = some (.int .i64 b) := (blk_cell B4.out 1).trans rfl; have hc42 : w2.cell? ⟨g4, 2, none⟩ = some (.string s) := (blk_cell B4.out 2).trans rfl; have hf40 := blk_frozen B4.out 0; have hf41 := blk_frozen B4.out 1; have hf42 := blk_frozen B4.out 2; have hc50 : w2.cell? ⟨g5, 0, none⟩ = some (.int .i64 a') := (blk_cell B5.out 0).trans rfl; have hc51 : w2.cell? ⟨g5, 1, none⟩ = some (.int .i64 b') := (blk_cell B5.out 1).trans rfl; have hc52 : w2.cell? ⟨g5, 2, none⟩ = some (.string s') := (blk_cell B5.out 2).trans rfl; have hf50 := blk_frozen B5.out 0; have hf51 := blk_frozen B5.out 1; have hf52 := blk_frozen B5.out 2)
    | (go_at_call 11; (with_reducible refine (loesslaw4_begun.calls k1 true _ HK1.out).mono ?_); rintro e w3 ⟨rfl, hb⟩; have n1_ := Aside0.mk (below_step (by first | exact HB.out | exact HB.out.drew) hb); have n2_ := Aside0.mk (blk_below (by first | exact B4.out | exact B4.out) hb); have n3_ := Aside0.mk (blk_below (by first | exact B5.out | exact B5.out) hb); clear HB B4 B5 hb; have HB := n1_; have B4 := n2_; have B5 := n3_; clear n1_ n2_ n3_; clear hc40 hc41 hc42 hf40 hf41 hf42 hc50 hc51 hc52 hf50 hf51 hf52; have hc40 : w3.cell? ⟨g4, 0, none⟩ = some (.int .i64 a) := (blk_cell B4.out 0).trans rfl; have hc41 : w3.cell? ⟨g4, 1, none⟩ = some (.int .i64 b) := (blk_cell B4.out 1).trans rfl; have hc42 : w3.cell? ⟨g4, 2, none⟩ = some (.string s) := (blk_cell B4.out 2).trans rfl; have hf40 := blk_frozen B4.out 0; have hf41 := blk_frozen B4.out 1; have hf42 := blk_frozen B4.out 2; have hc50 : w3.cell? ⟨g5, 0, none⟩ = some (.int .i64 a') := (blk_cell B5.out 0).trans rfl; have hc51 : w3.cell? ⟨g5, 1, none⟩ = some (.int .i64 b') := (blk_cell B5.out 1).trans rfl; have hc52 : w3.cell? ⟨g5, 2, none⟩ = some (.string s') := (blk_cell B5.out 2).trans rfl; have hf50 := blk_frozen B5.out 0; have hf51 := blk_frozen B5.out 1; have hf52 := blk_frozen B5.out 2))
  go_cut [2, 3] (fun v2 v3 wx => v2 = .slice A2 m2 c2 ∧ v3 = .slice A3 m3 c3 ∧ Below w.heap.size w wx ∧ wx.heap[g4]? = some (.cells (raw3 a b s1) 23 (0, 0)) ∧ wx.heap[g5]? = some (.cells (raw3 a' b' s2) 23 (0, 0)))
  case first =>
    go_region_with (first
      | (go_at_call 12; (first
        | ((with_reducible refine (loesslaw4_Cut.calls a b s a b s1 _ HCU.out).mono ?_); rintro e w4 ⟨rfl, hb⟩; have n1_ := Aside0.mk (below_step (by first | exact HB.out | exact HB.out.drew) hb); have n2_ := Aside0.mk (blk_below (by first | exact B4.out | exact B4.out) hb); have n3_ := Aside0.mk (blk_below (by first | exact B5.out | exact B5.out) hb); clear HB B4 B5 hb; have HB := n1_; have B4 := n2_; have B5 := n3_; clear n1_ n2_ n3_; clear hc40 hc41 hc42 hf40 hf41 hf42 hc50 hc51 hc52 hf50 hf51 hf52; have hc40 : w4.cell? ⟨g4, 0, none⟩ = some (.int .i64 a) := (blk_cell B4.out 0).trans rfl; have hc41 : w4.cell? ⟨g4, 1, none⟩ = some (.int .i64 b) := (blk_cell B4.out 1).trans rfl; have hc42 : w4.cell? ⟨g4, 2, none⟩ = some (.string s) := (blk_cell B4.out 2).trans rfl; have hf40 := blk_frozen B4.out 0; have hf41 := blk_frozen B4.out 1; have hf42 := blk_frozen B4.out 2; have hc50 : w4.cell? ⟨g5, 0, none⟩ = some (.int .i64 a') := (blk_cell B5.out 0).trans rfl; have hc51 : w4.cell? ⟨g5, 1, none⟩ = some (.int .i64 b') := (blk_cell B5.out 1).trans rfl; have hc52 : w4.cell? ⟨g5, 2, none⟩ = some (.string s') := (blk_cell B5.out 2).trans rfl; have hf50 := blk_frozen B5.out 0; have hf51 := blk_frozen B5.out 1; have hf52 := blk_frozen B5.out 2)
        | ((with_reducible refine (loesslaw4_Cut.calls a' b' s' a' b' s2 _ HCU'.out).mono ?_); rintro e w5 ⟨rfl, hb⟩; have n1_ := Aside0.mk (below_step (by first | exact HB.out | exact HB.out.drew) hb); have n2_ := Aside0.mk (blk_below (by first | exact B4.out | exact B4.out) hb); have n3_ := Aside0.mk (blk_below (by first | exact B5.out | exact B5.out) hb); clear HB B4 B5 hb; have HB := n1_; have B4 := n2_; have B5 := n3_; clear n1_ n2_ n3_; clear hc40 hc41 hc42 hf40 hf41 hf42 hc50 hc51 hc52 hf50 hf51 hf52; have hc40 : w5.cell? ⟨g4, 0, none⟩ = some (.int .i64 a) := (blk_cell B4.out 0).trans rfl; have hc41 : w5.cell? ⟨g4, 1, none⟩ = some (.int .i64 b) := (blk_cell B4.out 1).trans rfl; have hc42 : w5.cell? ⟨g4, 2, none⟩ = some (.string s) := (blk_cell B4.out 2).trans rfl; have hf40 := blk_frozen B4.out 0; have hf41 := blk_frozen B4.out 1; have hf42 := blk_frozen B4.out 2; have hc50 : w5.cell? ⟨g5, 0, none⟩ = some (.int .i64 a') := (blk_cell B5.out 0).trans rfl; have hc51 : w5.cell? ⟨g5, 1, none⟩ = some (.int .i64 b') := (blk_cell B5.out 1).trans rfl; have hc52 : w5.cell? ⟨g5, 2, none⟩ = some (.string s') := (blk_cell B5.out 2).trans rfl; have hf50 := blk_frozen B5.out 0; have hf51 := blk_frozen B5.out 1; have hf52 := blk_frozen B5.out 2)))
      | (go_at_call 24; (first
        | ((with_reducible refine (short_c (l := l2) HE2.out HL2.out).mono ?_); rintro e w6 ⟨rfl, rfl⟩)
        | ((with_reducible refine (short_c (l := l3) HE3.out HL3.out).mono ?_); rintro e w7 ⟨rfl, rfl⟩))))
    all_goals
      simp only [Act.put, List.getElem_toArray, List.getElem_cons_succ, List.getElem_cons_zero, List.setIfInBounds_toArray, List.set_cons_zero, List.set_cons_succ]
      obtain ⟨w6, hw6⟩ : ∃ w6, w6 = ((((((w5.setCell ⟨g4, 0, none⟩ (.int .i64 a)).setCell ⟨g4, 1, none⟩ (.int .i64 b)).setCell ⟨g4, 2, none⟩ (.string s1)).setCell ⟨g5, 0, none⟩ (.int .i64 a')).setCell ⟨g5, 1, none⟩ (.int .i64 b')).setCell ⟨g5, 2, none⟩ (.string s2)) := ⟨_, rfl⟩
      rw [← hw6]
      have n1_ := Aside0.mk (show Below w.heap.size w w6 by rw [hw6]; exact bel3 (bel3 HB.out G4.out) G5.out)
      have n2_ := Aside0.mk (show w6.heap[g4]? = some (.cells (raw3 a b s1) 23 (0, 0)) by rw [hw6]; exact far3 (put3 B4.out) GN)
      have n3_ := Aside0.mk (show w6.heap[g5]? = some (.cells (raw3 a' b' s2) 23 (0, 0)) by rw [hw6]; exact put3 (far3 B5.out (Ne.symm GN)))
      clear HB B4 B5 hw6 hc40 hc41 hc42 hf40 hf41 hf42 hc50 hc51 hc52 hf50 hf51 hf52
      have HB := n1_
      have B4 := n2_
      have B5 := n3_
      clear n1_ n2_ n3_
      go_wp2_with fail
      go_meet
      exact ⟨rfl, rfl, HB.out, B4.out, B5.out⟩
  case rest =>
    obtain ⟨rfl, rfl, hbw, hb4, hb5⟩ := hcut
    clear HB B4 B5 hc40 hc41 hc42 hf40 hf41 hf42 hc50 hc51 hc52 hf50 hf51 hf52
    have HB := Aside0.mk hbw
    have B4 := Aside0.mk hb4
    have B5 := Aside0.mk hb5
    clear hbw hb4 hb5
    obtain ⟨w6, hw6⟩ : ∃ w6, w6 = wc := ⟨_, rfl⟩
    subst hw6
    have HC2' := Aside0.mk (Kd.C_below HC2.out HB.out)
    have HC3' := Aside0.mk (Kd.C_below HC3.out HB.out)
    have hc40 : w6.cell? ⟨g4, 0, none⟩ = some (.int .i64 a) := (blk_cell B4.out 0).trans rfl; have hc41 : w6.cell? ⟨g4, 1, none⟩ = some (.int .i64 b) := (blk_cell B4.out 1).trans rfl; have hc42 : w6.cell? ⟨g4, 2, none⟩ = some (.string s1) := (blk_cell B4.out 2).trans rfl; have hf40 := blk_frozen B4.out 0; have hf41 := blk_frozen B4.out 1; have hf42 := blk_frozen B4.out 2
    have hc50 : w6.cell? ⟨g5, 0, none⟩ = some (.int .i64 a') := (blk_cell B5.out 0).trans rfl; have hc51 : w6.cell? ⟨g5, 1, none⟩ = some (.int .i64 b') := (blk_cell B5.out 1).trans rfl; have hc52 : w6.cell? ⟨g5, 2, none⟩ = some (.string s2) := (blk_cell B5.out 2).trans rfl; have hf50 := blk_frozen B5.out 0; have hf51 := blk_frozen B5.out 1; have hf52 := blk_frozen B5.out 2
    obtain ⟨k2, hk2⟩ := Ev.rounds (may_ev a b (s := s1) (by have := HS1.out; omega))
    have HK2 := Aside0.mk hk2
    clear hk2
    cases hm : mayV a b s1 with
    | false =>
      rw [hm] at HK2
      clear hm
      go_wp2_with (first | (go_at_call 15; (with_reducible refine (loessref1_MayVal.calls k2 a b s1 _ _ HK2.out).mono ?_); rintro e w7 ⟨rfl, hb⟩; have n4_ := Aside0.mk (Kd.C_below HC2'.out hb); have n5_ := Aside0.mk (Kd.C_below HC3'.out hb); clear HC2' HC3'; have HC2' := n4_; have HC3' := n5_; clear n4_ n5_; have n1_ := Aside0.mk (below_step (by first | exact HB.out | exact HB.out.drew) hb); have n2_ := Aside0.mk (blk_below (by first | exact B4.out | exact B4.out) hb); have n3_ := Aside0.mk (blk_below (by first | exact B5.out | exact B5.out) hb); clear HB B4 B5 hb; have HB := n1_; have B4 := n2_; have B5 := n3_; clear n1_ n2_ n3_; clear hc40 hc41 hc42 hf40 hf41 hf42 hc50 hc51 hc52 hf50 hf51 hf52; have hc40 : w7.cell? ⟨g4, 0, none⟩ = some (.int .i64 a) := (blk_cell B4.out 0).trans rfl; have hc41 : w7.cell? ⟨g4, 1, none⟩ = some (.int .i64 b) := (blk_cell B4.out 1).trans rfl; have hc42 : w7.cell? ⟨g4, 2, none⟩ = some (.string s1) := (blk_cell B4.out 2).trans rfl; have hf40 := blk_frozen B4.out 0; have hf41 := blk_frozen B4.out 1; have hf42 := blk_frozen B4.out 2; have hc50 : w7.cell? ⟨g5, 0, none⟩ = some (.int .i64 a') := (blk_cell B5.out 0).trans rfl; have hc51 : w7.cell? ⟨g5, 1, none⟩ = some (.int .i64 b') := (blk_cell B5.out 1).trans rfl; have hc52 : w7.cell? ⟨g5, 2, none⟩ = some (.string s2) := (blk_cell B5.out 2).trans rfl; have hf50 := blk_frozen B5.out 0; have hf51 := blk_frozen B5.out 1; have hf52 := blk_frozen B5.out 2))
      go_ret
      exact ⟨rfl, HB.out⟩
    | true =>
      rw [hm] at HK2
      have HM := Aside0.mk hm
      clear hm
      go_wp2_with (first | (go_at_call 15; (with_reducible refine (loessref1_MayVal.calls k2 a b s1 _ _ HK2.out).mono ?_); rintro e w7 ⟨rfl, hb⟩; have n4_ := Aside0.mk (Kd.C_below HC2'.out hb); have n5_ := Aside0.mk (Kd.C_below HC3'.out hb); clear HC2' HC3'; have HC2' := n4_; have HC3' := n5_; clear n4_ n5_; have n1_ := Aside0.mk (below_step (by first | exact HB.out | exact HB.out.drew) hb); have n2_ := Aside0.mk (blk_below (by first | exact B4.out | exact B4.out) hb); have n3_ := Aside0.mk (blk_below (by first | exact B5.out | exact B5.out) hb); clear HB B4 B5 hb; have HB := n1_; have B4 := n2_; have B5 := n3_; clear n1_ n2_ n3_; clear hc40 hc41 hc42 hf40 hf41 hf42 hc50 hc51 hc52 hf50 hf51 hf52; have hc40 : w7.cell? ⟨g4, 0, none⟩ = some (.int .i64 a) := (blk_cell B4.out 0).trans rfl; have hc41 : w7.cell? ⟨g4, 1, none⟩ = some (.int .i64 b) := (blk_cell B4.out 1).trans rfl; have hc42 : w7.cell? ⟨g4, 2, none⟩ = some (.string s1) := (blk_cell B4.out 2).trans rfl; have hf40 := blk_frozen B4.out 0; have hf41 := blk_frozen B4.out 1; have hf42 := blk_frozen B4.out 2; have hc50 : w7.cell? ⟨g5, 0, none⟩ = some (.int .i64 a') := (blk_cell B5.out 0).trans rfl; have hc51 : w7.cell? ⟨g5, 1, none⟩ = some (.int .i64 b') := (blk_cell B5.out 1).trans rfl; have hc52 : w7.cell? ⟨g5, 2, none⟩ = some (.string s2) := (blk_cell B5.out 2).trans rfl; have hf50 := blk_frozen B5.out 0; have hf51 := blk_frozen B5.out 1; have hf52 := blk_frozen B5.out 2))
      have hi := mayV_i64 HM.out
      obtain ⟨P, hP⟩ : ∃ P, P = putV a b s1 := ⟨_, rfl⟩
      have HPL := Aside0.mk (show P.length ≤ 50 by rw [hP]; exact putV_len hi HI.out.1 HS1.out (by decide))
      have HPY := Aside0.mk (show Byt P by rw [hP]; exact putV_byt a b s1)
      obtain ⟨k3, hk3⟩ := Ev.rounds (value_Put_ev hi HI.out.1 (s := s1) (by have := HS1.out; omega) L2 (by have := HM2.out; omega))
      rw [← hP] at hk3
      have HK3 := Aside0.mk hk3
      have HPE := Aside0.mk hP
      have HB7 := Aside0.mk (Below.refl w7.heap.size w7)
      have H40 := Aside0.mk B4.out
      have H50 := Aside0.mk B5.out
      have HI4 := Aside0.mk hi
      have HM10 := Aside0.mk (show m2 ≤ 10 by omega)
      clear hk3 hP hi
      go_region_held3 (fun w' => w'.cell? ⟨g4, 0, none⟩ = some (.int .i64 a) ∧ w'.cell? ⟨g4, 1, none⟩ = some (.int .i64 b) ∧ w'.cell? ⟨g4, 2, none⟩ = some (.string s1))
        (first | exact cell3 H40.out | exact cell3 (blk_below H40.out HB7.out))
        (first
          | ((refine app8_ (w0 := w7) (by simp [Region.wanted]) (.const (.slice none 0 0)) (.tmp 32) (by rfl) (.slice none 0 0) [] L2 A2 m2 c2 (by rfl) (by rfl) (Kd.R_nil _ _ _ _ _) HC2'.out HB7.out.drew (by have := HM10.out; simp; omega) ?_); intro v8 w8 ho hb; rw [List.nil_append] at ho; have HO := Aside0.mk ho; have n1_ := Aside0.mk hb; clear HB7; have HB7 := n1_; clear n1_ ho hb)
          | (go_at_call 27; (with_reducible refine (value_Put.calls k3 (fun _ => True) v8 L2 a b s1 (L2 ++ P) w7 w8 HB7.out HO.out HK3.out).mono ?_); rintro e w9 ⟨v9, rfl, hR, hb, _⟩; have HR := Aside0.mk hR; have n1_ := Aside0.mk hb; clear HB7 HO; have HB7 := n1_; clear n1_ hR hb))
      obtain ⟨Ab, cb, rfl, hnb, hCb⟩ := Kd.R_reads HR.out
      obtain ⟨Bs, hBs⟩ : ∃ B, B = L2 ++ P := ⟨_, rfl⟩
      rw [← hBs] at hnb hCb ⊢
      obtain ⟨nb, hnbe⟩ : ∃ n, n = Bs.length := ⟨_, rfl⟩
      rw [← hnbe] at hnb hCb ⊢
      have HCB := Aside0.mk hCb
      have HNB := Aside0.mk hnb
      have HBS := Aside0.mk hBs
      have HNE := Aside0.mk hnbe
      have HBL := Aside0.mk (show nb = m2 + P.length by rw [hnbe, hBs, List.length_append, HM2.out])
      have hm2b : (m2 : Int) ≤ (nb : Int) := by have := HBL.out; omega
      have hnbz : (nb : Int) ≤ 60 := by have := HBL.out; have := HPL.out; omega
      have n1_ := Aside0.mk (below_step HB.out HB7.out)
      have n2_ := Aside0.mk (blk_below B4.out HB7.out)
      have n3_ := Aside0.mk (blk_below B5.out HB7.out)
      have n4_ := Aside0.mk (Kd.C_below HC2'.out HB7.out)
      have n5_ := Aside0.mk (Kd.C_below HC3'.out HB7.out)
      clear HB B4 B5 HC2' HC3' HB7 HR hCb hnb hBs hnbe H40 H50 hc40 hc41 hc42 hf40 hf41 hf42 hc50 hc51 hc52 hf50 hf51 hf52
      have HB := n1_
      have B4 := n2_
      have B5 := n3_
      have HC2' := n4_
      have HC3' := n5_
      clear n1_ n2_ n3_ n4_ n5_
      obtain ⟨t2, ht2⟩ : ∃ t, t = strOfNums L2 := ⟨_, rfl⟩
      obtain ⟨tp, htp⟩ : ∃ t, t = strOfNums P := ⟨_, rfl⟩
      have HT2 := Aside0.mk ht2
      have HTP := Aside0.mk htp
      have HTB := Aside0.mk (show strOfNums Bs = t2 ++ tp by rw [HBS.out, str_append, ht2, htp])
      obtain ⟨k4, hk4⟩ := Ev.rounds (putVal_ev HI4.out HI.out.1 HS1.out)
      rw [← HPE.out] at hk4
      have HK4 := Aside0.mk hk4
      have hz2 : t2.size ≤ 10 := by rw [size_of_bytes, ht2, bytesOf_str HY2.out, ← HM2.out]; exact HM10.out
      have hzp : tp.size ≤ 50 := by rw [size_of_bytes, htp, bytesOf_str HPY.out]; exact HPL.out
      have hzz : (9223372036854775807 < t2.size + tp.size) = False := eq_false (by omega)
      clear ht2 htp hk4
      go_wp2
      go_region_held (fun w' => w'.cell? ⟨g4, 0, none⟩ = some (.int .i64 a) ∧ w'.cell? ⟨g4, 1, none⟩ = some (.int .i64 b) ∧ w'.cell? ⟨g4, 2, none⟩ = some (.string s1) ∧ (convert 40 9 (.slice Ab nb cb)).run Try.prog w' = .ok (.string (t2 ++ tp)) w' ∧ (convert 40 9 (.slice A2 m2 c2)).run Try.prog w' = .ok (.string t2) w')
        (first | exact ⟨(cell3 B4.out).1, (cell3 B4.out).2.1, (cell3 B4.out).2.2, conv_C HCB.out HTB.out, conv_C HC2'.out HT2.out.symm⟩ | exact ⟨(cell3 B4.out).1, (cell3 B4.out).2.1, (cell3 B4.out).2.2, conv_C (Kd.C_drew HCB.out) HTB.out, conv_C (Kd.C_drew HC2'.out) HT2.out.symm⟩)
        (first
          | (go_at_call 28; (with_reducible refine (loessref1_PutVal.calls k4 a b s1 P _ HK4.out).mono ?_); rintro e w10 ⟨v10, rfl, hR, hb⟩; obtain ⟨A10, c10, rfl, _, hC10⟩ := Kd.R_reads hR; have hcv := conv_C (c := c10) hC10 HTP.out.symm; have n4_ := Aside0.mk (Kd.C_below (Kd.C_drew HC2'.out) hb); have n5_ := Aside0.mk (Kd.C_below (Kd.C_drew HC3'.out) hb); have n6_ := Aside0.mk (Kd.C_below (Kd.C_drew HCB.out) hb); clear HC2' HC3' HCB hR hC10; have HC2' := n4_; have HC3' := n5_; have HCB := n6_; clear n4_ n5_ n6_; have n1_ := Aside0.mk (below_step (by first | exact HB.out | exact HB.out.drew) hb); have n2_ := Aside0.mk (blk_below (by first | exact B4.out | exact B4.out) hb); have n3_ := Aside0.mk (blk_below (by first | exact B5.out | exact B5.out) hb); clear HB B4 B5 hb; have HB := n1_; have B4 := n2_; have B5 := n3_; clear n1_ n2_ n3_))
      all_goals
        clear hcv hz2 hzp hzz
        obtain ⟨p, hp⟩ : ∃ p, p = P.length := ⟨_, rfl⟩
        have HPP := Aside0.mk hp
        have HP50 := Aside0.mk (show p ≤ 50 by rw [hp]; exact HPL.out)
        have hpz : (p : Int) ≤ 50 := by have := HP50.out; omega
        obtain ⟨i0, hi0, _, hsz0, _⟩ := info_parts info5
        have hr2 := cut_from (P := Try.prog) 40 5 .i64 Try.underlying40 hi0 1 hsz0 Ab nb cb (m2 : Int) (by omega) hm2b
        rw [Int.toNat_natCast] at hr2
        obtain ⟨Ac, hAc⟩ : ∃ A, A = (if cb = m2 then Ab else Ab.map (·.add (m2 * 1))) := ⟨_, rfl⟩
        obtain ⟨cc, hcc⟩ : ∃ c, c = cb - m2 := ⟨_, rfl⟩
        rw [← hAc, ← hcc, show nb - m2 = p by have := HBL.out; omega] at hr2
        have HCC := Aside0.mk (show ∀ W, Kd.C (Kd.int .u8) W Ab nb Bs → Kd.C (Kd.int .u8) W Ac p P by
          intro W h
          rw [HNE.out] at h
          have := Kd.C_drop (c := cb) (m := m2) h (by rw [← HNE.out]; have := HBL.out; omega) (by rw [← HNE.out]; exact HNB.out)
          rw [show Bs.drop m2 = P by rw [HBS.out, HM2.out, List.drop_left]] at this
          rw [hAc, hp]
          exact this)
        have hm2z0 : (0 : Int) ≤ (m2 : Int) := by omega
        have HPC := Aside0.mk (HCC.out _ HCB.out)
        have hwr : IntKind.i64.wrap ((nb : Int) - (m2 : Int)) = (p : Int) := by rw [i64_w, w64 (by omega) (by omega)]; have := HBL.out; omega
        have hrun := (get_ev (HPY.out.append HY3.out) (by rw [List.length_append, ← HM3.out, ← hp]; omega)).rounds
        rw [show getV (P ++ L3) = (a, b, s1, (p : Int), 0) by rw [hp, HPE.out]; exact getV_put HM.out HI.out.1 L3] at hrun
        obtain ⟨k5, hk5⟩ := hrun
        have HK5 := Aside0.mk hk5
        have HBX := Aside0.mk (Below.refl w10.heap.size w10)
        have HM10' := Aside0.mk (show m3 ≤ 10 by omega)
        have HWR := Aside0.mk hwr
        have HEQ := Aside0.mk (show loessref1_EqVal.f a b s1 a b s1 = some true by rw [eqVal_eq, decide_eq_true ⟨rfl, rfl, rfl⟩])
        obtain ⟨x1, hx1⟩ : ∃ x, x = (ofV a b s1).1 := ⟨_, rfl⟩
        obtain ⟨x2, hx2⟩ : ∃ x, x = (ofV a' b' s2).1 := ⟨_, rfl⟩
        obtain ⟨e2, he2⟩ : ∃ x, x = (ofV a' b' s2).2 := ⟨_, rfl⟩
        have hrun7 := (value_Of_ev a b (s := s1) (by have := HS1.out; omega)).rounds
        rw [show ofV a b s1 = (x1, 0) by rw [hx1, ← of_ok HM.out]] at hrun7
        obtain ⟨k6, hk6⟩ := hrun7
        have hrun8 := (value_Of_ev a' b' (s := s2) (by have := HS2.out; omega)).rounds
        rw [show ofV a' b' s2 = (x2, e2) by rw [hx2, he2]] at hrun8
        obtain ⟨k7, hk7⟩ := hrun8
        have HK6 := Aside0.mk hk6
        have HK7 := Aside0.mk hk7
        have HX1 := Aside0.mk hx1
        have HX2 := Aside0.mk hx2
        have HE2' := Aside0.mk he2
        clear hx1 hx2 he2 hk6 hk7
        clear hk5 hp hAc hcc hi0 hsz0 hwr
        go_wp2_with (first
          | ((with_reducible refine gate_builtin (b := .append) (xs := #[.const (.slice none 0 0), .tmp 49]) rfl ?_); at_builtin; refine app8p (w0 := w10) rfl (.const (.slice none 0 0)) (.tmp 49) rfl (.slice none 0 0) [] P Ac p cc rfl rfl (Kd.R_nil _ _ _ _ _) HPC.out HBX.out (by have := HP50.out; simp; omega) ?_; intro v11 w11 ho hb; rw [List.nil_append] at ho; have HO := Aside0.mk ho; have n1_ := Aside0.mk hb; clear HBX; have HBX := n1_; clear n1_ ho hb)
          | ((with_reducible refine gate_builtin (b := .append) (xs := #[.tmp 50, .tmp 51]) rfl ?_); at_builtin; refine app8p (w0 := w10) rfl (.tmp 50) (.tmp 51) rfl v11 P L3 A3 m3 c3 rfl rfl HO.out (Kd.C_below HC3'.out HBX.out) HBX.out (by have := HP50.out; have := HM10'.out; rw [← HPP.out]; omega) ?_; intro v12 w12 ho hb; clear HO; have n1_ := Aside0.mk hb; clear HBX; have HBX := n1_; clear n1_ hb; obtain ⟨A12, c12, rfl, hn12, hC12⟩ := Kd.R_reads ho; obtain ⟨X, hX⟩ : ∃ X, X = P ++ L3 := ⟨_, rfl⟩; rw [← hX] at hn12 hC12 HK5 ⊢; have HC12 := Aside0.mk hC12; have HN12 := Aside0.mk hn12; clear ho hn12 hC12 hX)
          | (go_at_call 25; (with_reducible refine (value_Get.calls k5 A12 c12 X a b s1 (p : Int) 0 _ HC12.out HN12.out HK5.out).mono ?_); rintro e w13 ⟨rfl, hb⟩; have n1_ := Aside0.mk (below_step HBX.out hb); clear HBX HC12 hb; have HBX := n1_; clear n1_)
          | ((with_reducible refine gate_dst (N := 11) rfl ?_); refine box_event ?hg (N := 11) ?hd (cs := raw3 0 0 ⟨#[]⟩) (t := 23) ?hr ?_; (case hd => rfl); (case hg => rfl); (case hr => first | (go_simp; done) | (go_simp; rfl)); intro g11 hg w14 hbox hb; have GX := Aside0.mk (show w10.heap.size ≤ g11 by rw [hg]; exact HBX.out.size); have n1_ := Aside0.mk (below_step HBX.out hb); have BX := Aside0.mk hbox; clear HBX; have HBX := n1_; clear n1_ hbox hg hb; have hx0 : w14.cell? ⟨g11, 0, none⟩ = some (.int .i64 0) := (blk_cell BX.out 0).trans rfl; have hx1 : w14.cell? ⟨g11, 1, none⟩ = some (.int .i64 0) := (blk_cell BX.out 1).trans rfl; have hx2 : w14.cell? ⟨g11, 2, none⟩ = some (.string ⟨#[]⟩) := (blk_cell BX.out 2).trans rfl; have hxf0 := blk_frozen BX.out 0; have hxf1 := blk_frozen BX.out 1; have hxf2 := blk_frozen BX.out 2)
          | ((with_reducible refine gate_store (t := 23) (p := 11) rfl ?_); refine store_event (t := 23) (p := 11) (v := ?vo1) (w1 := (((w14.setCell ⟨g11, 0, none⟩ (.int .i64 a)).setCell ⟨g11, 1, none⟩ (.int .i64 b)).setCell ⟨g11, 2, none⟩ (.string s1))) ?hg ?ho ?hn ?hr ?_; (case ho => rfl); (case hg => rfl); (case hn => rfl); (case hr => first | (go_simp; done) | (go_simp; rfl)); intro w15 hw; have n1_ : Aside0 (Below w10.heap.size w10 w15) := ⟨by rw [hw]; exact bel3 HBX.out GX.out⟩; have n2_ : Aside0 (w15.heap[g11]? = some (.cells (raw3 a b s1) 23 (0, 0))) := ⟨by rw [hw]; exact put3 BX.out⟩; clear HBX BX hx0 hx1 hx2 hxf0 hxf1 hxf2 hw; have HBX := n1_; have BX := n2_; clear n1_ n2_; have n1_ := Aside0.mk (below_step HB.out HBX.out); have n2_ := Aside0.mk (blk_below B4.out HBX.out); have n3_ := Aside0.mk (blk_below B5.out HBX.out); have n4_ := Aside0.mk (Kd.C_below HC2'.out HBX.out); have n5_ := Aside0.mk (Kd.C_below HCB.out HBX.out); have n6_ := Aside0.mk (Kd.C_below HPC.out HBX.out); clear HB B4 B5 HC2' HC3' HCB HPC; have HB := n1_; have B4 := n2_; have B5 := n3_; have HC2' := n4_; have HCB := n5_; have HPC := n6_; clear n1_ n2_ n3_ n4_ n5_ n6_; have HW := Aside0.mk (Below.refl w15.heap.size w15); have hwr := HWR.out; have hc40 : w15.cell? ⟨g4, 0, none⟩ = some (.int .i64 a) := (blk_cell (blk_below B4.out HW.out) 0).trans rfl; have hc41 : w15.cell? ⟨g4, 1, none⟩ = some (.int .i64 b) := (blk_cell (blk_below B4.out HW.out) 1).trans rfl; have hc42 : w15.cell? ⟨g4, 2, none⟩ = some (.string s1) := (blk_cell (blk_below B4.out HW.out) 2).trans rfl; have hx0 : w15.cell? ⟨g11, 0, none⟩ = some (.int .i64 a) := (blk_cell BX.out 0).trans rfl; have hx1 : w15.cell? ⟨g11, 1, none⟩ = some (.int .i64 b) := (blk_cell BX.out 1).trans rfl; have hx2 : w15.cell? ⟨g11, 2, none⟩ = some (.string s1) := (blk_cell BX.out 2).trans rfl)
          | (go_at_call 20; (with_reducible refine (loessref1_EqVal.calls a b s1 a b s1 true _ HEQ.out).mono ?_); rintro e w16 ⟨rfl, hb⟩; clear hx0 hx1 hx2 hwr hc40 hc41 hc42; have n1_ := Aside0.mk (below_step HW.out hb); clear HW hb; have HW := n1_; clear n1_; have hc40 : w16.cell? ⟨g4, 0, none⟩ = some (.int .i64 a) := (blk_cell (blk_below B4.out HW.out) 0).trans rfl; have hc41 : w16.cell? ⟨g4, 1, none⟩ = some (.int .i64 b) := (blk_cell (blk_below B4.out HW.out) 1).trans rfl; have hc42 : w16.cell? ⟨g4, 2, none⟩ = some (.string s1) := (blk_cell (blk_below B4.out HW.out) 2).trans rfl)
          | (go_at_call 13; (with_reducible refine (value_Of.calls k6 a b s1 x1 0 _ HK6.out).mono ?_); rintro e w17 ⟨rfl, hb⟩; clear hc40 hc41 hc42; have n1_ := Aside0.mk (below_step HW.out hb); clear HW hb; have HW := n1_; clear n1_)
          | ((with_reducible refine gate_dst (N := 14) rfl ?_); refine box_event ?hg (N := 14) ?hd (cs := #[VX.val .none]) (t := 27) ?hr ?_; (case hd => rfl); (case hg => rfl); (case hr => first | (go_simp; done) | (go_simp; rfl)); intro g14 hg w18 hbox hb; have G14 := Aside0.mk (show w15.heap.size ≤ g14 by rw [hg]; exact HW.out.size); have BV14 := Aside0.mk hbox; have n1_ := Aside0.mk (below_step HW.out hb); clear HW hb; have HW := n1_; clear n1_; clear hbox hg; have hv0 : w18.cell? ⟨g14, 0, none⟩ = some (VX.val .none) := (blk_cell BV14.out 0).trans rfl; have hvf := blk_frozen BV14.out 0)
          | ((with_reducible refine gate_store (t := 27) (p := 14) rfl ?_); refine store_event (t := 27) (p := 14) (v := ?vo14) (w1 := (w18.setCell ⟨g14, 0, none⟩ (VX.val x1))) ?hg ?ho ?hn ?hr ?_; (case ho => rfl); (case hg => rfl); (case hn => rfl); (case hr => first | (go_simp; done) | (go_simp; rfl)); intro w19 hw; have n1_ : Aside0 (Below w15.heap.size w15 w19) := ⟨by rw [hw]; exact below_set HW.out G14.out⟩; have n2_ : Aside0 (w19.heap[g14]? = some (.cells #[VX.val x1] 27 (0, 0))) := ⟨by rw [hw]; exact blk_put BV14.out 0 _ rfl⟩; clear HW BV14 hv0 hvf hw; have HW := n1_; have BV14 := n2_; clear n1_ n2_; have hc50 : w19.cell? ⟨g5, 0, none⟩ = some (.int .i64 a') := (blk_cell (blk_below B5.out HW.out) 0).trans rfl; have hc51 : w19.cell? ⟨g5, 1, none⟩ = some (.int .i64 b') := (blk_cell (blk_below B5.out HW.out) 1).trans rfl; have hc52 : w19.cell? ⟨g5, 2, none⟩ = some (.string s2) := (blk_cell (blk_below B5.out HW.out) 2).trans rfl)
          | (go_at_call 13; (with_reducible refine (value_Of.calls k7 a' b' s2 x2 e2 _ HK7.out).mono ?_); rintro e w20 ⟨rfl, hb⟩; clear hc50 hc51 hc52; have n8_ := Aside0.mk (blk_below BV14.out hb); clear BV14; have BV14 := n8_; clear n8_; have n1_ := Aside0.mk (below_step HW.out hb); clear HW hb; have HW := n1_; clear n1_)
          | ((with_reducible refine gate_dst (N := 16) rfl ?_); refine box_event ?hg (N := 16) ?hd (cs := #[VX.val .none]) (t := 27) ?hr ?_; (case hd => rfl); (case hg => rfl); (case hr => first | (go_simp; done) | (go_simp; rfl)); intro g16 hg w21 hbox hb; have G16 := Aside0.mk (show w15.heap.size ≤ g16 by rw [hg]; exact HW.out.size); have BV16 := Aside0.mk hbox; have GV : g14 ≠ g16 := (by have h2 := blk_lt BV14.out; omega); have n8_ := Aside0.mk (blk_below BV14.out hb); clear BV14; have BV14 := n8_; clear n8_; have n1_ := Aside0.mk (below_step HW.out hb); clear HW hb; have HW := n1_; clear n1_; clear hbox hg; have hv0 : w21.cell? ⟨g16, 0, none⟩ = some (VX.val .none) := (blk_cell BV16.out 0).trans rfl; have hvf := blk_frozen BV16.out 0)
          | ((with_reducible refine gate_store (t := 27) (p := 16) rfl ?_); refine store_event (t := 27) (p := 16) (v := ?vo16) (w1 := (w21.setCell ⟨g16, 0, none⟩ (VX.val x2))) ?hg ?ho ?hn ?hr ?_; (case ho => rfl); (case hg => rfl); (case hn => rfl); (case hr => first | (go_simp; done) | (go_simp; rfl)); intro w22 hw; have n1_ : Aside0 (Below w15.heap.size w15 w22) := ⟨by rw [hw]; exact below_set HW.out G16.out⟩; have n2_ : Aside0 (w22.heap[g16]? = some (.cells #[VX.val x2] 27 (0, 0))) := ⟨by rw [hw]; exact blk_put BV16.out 0 _ rfl⟩; have n8_ : Aside0 (w22.heap[g14]? = some (.cells #[VX.val x1] 27 (0, 0))) := ⟨by rw [hw]; exact blk_far BV14.out GV _⟩; clear BV14; have BV14 := n8_; clear n8_; clear HW BV16 hv0 hvf hw; have HW := n1_; have BV16 := n2_; clear n1_ n2_))
        have n1_ := Aside0.mk (below_step HB.out HW.out)
        have n2_ := Aside0.mk (blk_below B4.out HW.out)
        have n3_ := Aside0.mk (blk_below B5.out HW.out)
        have n4_ := Aside0.mk (Kd.C_below HPC.out HW.out)
        clear HB B4 B5 HPC HC2' HCB BX HBX HW HCU HCU' HC2 HC3 HK2 HK3 HK4 HK5 HK6 HK7 HCC HEQ
        have HB := n1_
        have B4 := n2_
        have B5 := n3_
        have HPC := n4_
        clear n1_ n2_ n3_ n4_
        have HZ := Aside0.mk (Below.refl w22.heap.size w22)
        have hnb2 : (0 : Int) ≤ (m2 : Int) := hm2z0
        cases hq : mayV a' b' s2 with
        | false =>
          obtain rfl : e2 = 1 := by rw [HE2'.out]; exact of_bad hq
          clear hq
          go_quiet (fail)
          go_wp2
          go_ret
          exact ⟨rfl, by first | exact HB.out.drew | exact pw_below_drewN HB.out _⟩
        | true =>
          obtain rfl : e2 = 0 := by rw [HE2'.out]; exact of_ok hq
          obtain ⟨d, hd⟩ : ∃ d, d = decide (a = a' ∧ b = b' ∧ s1 = s2) := ⟨_, rfl⟩
          have HD1 := Aside0.mk (show value_Eq.f x1 x2 = some d by rw [HX1.out, HX2.out, hd]; exact eq_of HM.out hq)
          have HD2 := Aside0.mk (show value_Eq.f x2 x1 = some d by rw [HX1.out, HX2.out, eq_of hq HM.out, hd]; exact congrArg some (decide_eq_decide.2 ⟨fun h => ⟨h.1.symm, h.2.1.symm, h.2.2.symm⟩, fun h => ⟨h.1.symm, h.2.1.symm, h.2.2.symm⟩⟩))
          have HD3 := Aside0.mk (show loessref1_EqVal.f a b s1 a' b' s2 = some d by rw [eqVal_eq, hd])
          obtain ⟨k8, hk8⟩ := Ev.rounds (value_Put_ev (mayV_i64 hq) HI.out.2.2 (s := s2) (by have := HS2.out; omega) [] (by simp))
          obtain ⟨Z, hZ⟩ : ∃ Z, Z = putV a' b' s2 := ⟨_, rfl⟩
          rw [List.nil_append, ← hZ] at hk8
          have HK8 := Aside0.mk hk8
          obtain ⟨tz, htz⟩ : ∃ t, t = strOfNums Z := ⟨_, rfl⟩
          have HTZ := Aside0.mk htz
          have hcmp : (tz.toList == tp.toList) = d := by
            rw [htz, HTP.out, hZ, HPE.out, hd]
            exact put_cmp hq HI.out.2.2 HM.out HI.out.1
          clear hk8 hZ htz hd hq
          cases d with
          | false =>
            skip
            go_region_held (fun w' => w'.cell? ⟨g4, 0, none⟩ = some (.int .i64 a) ∧ w'.cell? ⟨g4, 1, none⟩ = some (.int .i64 b) ∧ w'.cell? ⟨g4, 2, none⟩ = some (.string s1) ∧ w'.cell? ⟨g5, 0, none⟩ = some (.int .i64 a') ∧ w'.cell? ⟨g5, 1, none⟩ = some (.int .i64 b') ∧ w'.cell? ⟨g5, 2, none⟩ = some (.string s2) ∧ w'.cell? ⟨g14, 0, none⟩ = some (VX.val x1) ∧ w'.cell? ⟨g16, 0, none⟩ = some (VX.val x2) ∧ (convert 40 9 (.slice Ac p cc)).run Try.prog w' = .ok (.string tp) w')
              (first | exact keep15 (blk_below B4.out HZ.out) (blk_below B5.out HZ.out) (blk_below BV14.out HZ.out) (blk_below BV16.out HZ.out) (Kd.C_below HPC.out HZ.out) HTP.out.symm | exact keep15 (blk_below B4.out HZ.out.drew) (blk_below B5.out HZ.out.drew) (blk_below BV14.out HZ.out.drew) (blk_below BV16.out HZ.out.drew) (Kd.C_below HPC.out HZ.out.drew) HTP.out.symm)
              (first
                | (go_at_call 23; (with_reducible refine (value_Eq.calls x1 x2 _ _ HD1.out).mono ?_); rintro e w23 ⟨rfl, hb⟩; (try (have m1_ := Aside0.mk (Kd.C_below HV26.out hb); clear hcv HV26; have HV26 := m1_; have hcv := conv_C (c := c26) HV26.out HTZ.out.symm; clear m1_)); have n1_ := Aside0.mk (below_step (by first | exact HZ.out | exact HZ.out.drew) hb); clear HZ hb; have HZ := n1_; clear n1_)
                | (go_at_call 23; (with_reducible refine (value_Eq.calls x2 x1 _ _ HD2.out).mono ?_); rintro e w24 ⟨rfl, hb⟩; (try (have m1_ := Aside0.mk (Kd.C_below HV26.out hb); clear hcv HV26; have HV26 := m1_; have hcv := conv_C (c := c26) HV26.out HTZ.out.symm; clear m1_)); have n1_ := Aside0.mk (below_step (by first | exact HZ.out | exact HZ.out.drew) hb); clear HZ hb; have HZ := n1_; clear n1_)
                | (go_at_call 20; (with_reducible refine (loessref1_EqVal.calls a b s1 a' b' s2 _ _ HD3.out).mono ?_); rintro e w25 ⟨rfl, hb⟩; have n1_ := Aside0.mk (below_step (by first | exact HZ.out | exact HZ.out.drew) hb); clear HZ hb; have HZ := n1_; clear n1_)
                | (go_at_call 27; (with_reducible refine (value_Put.calls k8 (fun _ => True) (.slice none 0 0) [] a' b' s2 Z _ _ (Below.refl _ _) (Kd.R_nil _ _ _ _ _) HK8.out).mono ?_); rintro e w26 ⟨v26, rfl, hR, hb, _⟩; obtain ⟨A26, c26, rfl, _, hC26⟩ := Kd.R_reads hR; have hcv := conv_C (c := c26) hC26 HTZ.out.symm; have HV26 := Aside0.mk hC26; clear hR hC26; have n1_ := Aside0.mk (below_step (by first | exact HZ.out | exact HZ.out.drew) hb); clear HZ hb; have HZ := n1_; clear n1_))
            all_goals
              go_wp2
              go_ret
              exact ⟨rfl, below_step HB.out (by first | exact HZ.out | exact HZ.out.drew)⟩
          | true =>
            have hte : tp = tz := (toList_inj (eq_of_beq hcmp)).symm
            subst hte
            clear hcmp
            go_region_held (fun w' => w'.cell? ⟨g4, 0, none⟩ = some (.int .i64 a) ∧ w'.cell? ⟨g4, 1, none⟩ = some (.int .i64 b) ∧ w'.cell? ⟨g4, 2, none⟩ = some (.string s1) ∧ w'.cell? ⟨g5, 0, none⟩ = some (.int .i64 a') ∧ w'.cell? ⟨g5, 1, none⟩ = some (.int .i64 b') ∧ w'.cell? ⟨g5, 2, none⟩ = some (.string s2) ∧ w'.cell? ⟨g14, 0, none⟩ = some (VX.val x1) ∧ w'.cell? ⟨g16, 0, none⟩ = some (VX.val x2) ∧ (convert 40 9 (.slice Ac p cc)).run Try.prog w' = .ok (.string tp) w')
              (first | exact keep15 (blk_below B4.out HZ.out) (blk_below B5.out HZ.out) (blk_below BV14.out HZ.out) (blk_below BV16.out HZ.out) (Kd.C_below HPC.out HZ.out) HTP.out.symm | exact keep15 (blk_below B4.out HZ.out.drew) (blk_below B5.out HZ.out.drew) (blk_below BV14.out HZ.out.drew) (blk_below BV16.out HZ.out.drew) (Kd.C_below HPC.out HZ.out.drew) HTP.out.symm)
              (first
                | (go_at_call 23; (with_reducible refine (value_Eq.calls x1 x2 _ _ HD1.out).mono ?_); rintro e w23 ⟨rfl, hb⟩; (try (have m1_ := Aside0.mk (Kd.C_below HV26.out hb); clear hcv HV26; have HV26 := m1_; have hcv := conv_C (c := c26) HV26.out HTZ.out.symm; clear m1_)); have n1_ := Aside0.mk (below_step (by first | exact HZ.out | exact HZ.out.drew) hb); clear HZ hb; have HZ := n1_; clear n1_)
                | (go_at_call 23; (with_reducible refine (value_Eq.calls x2 x1 _ _ HD2.out).mono ?_); rintro e w24 ⟨rfl, hb⟩; (try (have m1_ := Aside0.mk (Kd.C_below HV26.out hb); clear hcv HV26; have HV26 := m1_; have hcv := conv_C (c := c26) HV26.out HTZ.out.symm; clear m1_)); have n1_ := Aside0.mk (below_step (by first | exact HZ.out | exact HZ.out.drew) hb); clear HZ hb; have HZ := n1_; clear n1_)
                | (go_at_call 20; (with_reducible refine (loessref1_EqVal.calls a b s1 a' b' s2 _ _ HD3.out).mono ?_); rintro e w25 ⟨rfl, hb⟩; have n1_ := Aside0.mk (below_step (by first | exact HZ.out | exact HZ.out.drew) hb); clear HZ hb; have HZ := n1_; clear n1_)
                | (go_at_call 27; (with_reducible refine (value_Put.calls k8 (fun _ => True) (.slice none 0 0) [] a' b' s2 Z _ _ (Below.refl _ _) (Kd.R_nil _ _ _ _ _) HK8.out).mono ?_); rintro e w26 ⟨v26, rfl, hR, hb, _⟩; obtain ⟨A26, c26, rfl, _, hC26⟩ := Kd.R_reads hR; have hcv := conv_C (c := c26) hC26 HTZ.out.symm; have HV26 := Aside0.mk hC26; clear hR hC26; have n1_ := Aside0.mk (below_step (by first | exact HZ.out | exact HZ.out.drew) hb); clear HZ hb; have HZ := n1_; clear n1_))
            all_goals
              go_wp2
              go_ret
              exact ⟨rfl, below_step HB.out (by first | exact HZ.out | exact HZ.out.drew)⟩
theorem ValueBytes.walk (P : True) (x y : O.S23) (a2 : Option Addr) (len2 cap2 : Nat) (z2 : List Int) (a3 : Option Addr) (len3 cap3 : Nat) (z3 : List Int) (w : World) (w0 : O.ok23 x) (w1 : O.ok23 y)
    (w2 : (a2 = none ∧ len2 = 0 ∧ cap2 = 0 ∧ z2 = []) ∨ ∃ x, a2 = some x ∧ len2 ≤ cap2 ∧ cap2 ≤ maxLen ∧ z2.length = cap2 ∧ (∀ i, i < z2.length → w.cell? (x.add i) = some (.int .u8 (z2.getD i 0))) ∧ ∀ n ∈ z2, (Lit.int .u8 n).wf = true) (y2 : len2 * 1 ≤ 140737488351232)
    (w3 : (a3 = none ∧ len3 = 0 ∧ cap3 = 0 ∧ z3 = []) ∨ ∃ x, a3 = some x ∧ len3 ≤ cap3 ∧ cap3 ≤ maxLen ∧ z3.length = cap3 ∧ (∀ i, i < z3.length → w.cell? (x.add i) = some (.int .u8 (z3.getD i 0))) ∧ ∀ n ∈ z3, (Lit.int .u8 n).wf = true) (y3 : len3 * 1 ≤ 140737488351232) :
    Calls Try.prog 8 #[O.v23 x, O.v23 y, .slice a2 len2 cap2, .slice a3 len3 cap3] w fun e w' => e = .returned (.bool true) ∧ Below w.heap.size w w' := by
  obtain ⟨l2, rfl, hr2, hm2, hw2, hc2⟩ := ReadsInt.ofRowC w2
  obtain ⟨l3, rfl, hr3, hm3, hw3, hc3⟩ := ReadsInt.ofRowC w3
  obtain ⟨t1, h1, h2, _⟩ := Pure.cutV x.f0 x.f1 x.f2
  obtain ⟨t2, g1, g2, _⟩ := Pure.cutV y.f0 y.f1 y.f2
  exact ValueBytes.in x.f0 x.f1 x.f2 t1 y.f0 y.f1 y.f2 t2 a2 cap2 l2 a3 cap3 l3 w (wfI64 w0.2.1) (wfI64 w1.1) (wfI64 w1.2.1) h1 h2 g1 g2 (Kd.C_of_reads (d := (0 : Int)) (h1 := fun _ => rfl) hr2) hc2 (Byt.of_wf hw2) (Kd.C_of_reads (d := (0 : Int)) (h1 := fun _ => rfl) hr3) hc3 (Byt.of_wf hw3)
end Go.Proofs.Ytbeoegdkoodlfaa.GL
