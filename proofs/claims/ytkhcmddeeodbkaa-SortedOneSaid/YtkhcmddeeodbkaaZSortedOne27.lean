import Derived.Deep.Slices
import Derived.Lib.SmallJoins
import Derived.ChangeArms
import Derived.Test.YtkhcmddeeodbkaaZSortedOne26
-- Own texts and, of the words that the kit's print program wrote for this claim, those that are needed here: put together by wip/prune.py.
set_option linter.unusedSimpArgs false
set_option linter.unusedVariables false
namespace Go.Proofs.Ytkhcmddeeodbkaa.O
open Go.RowKit Go.ChangeShapes Go.WideShapes Go.Deep Go.Proofs.YtkhcmddeeodbkaaW.PrintWords Go.Proofs.YtkhcmddeeodbkaaW.PrintMore
section
variable {H : Type} {enc : TypeId × Value → H} {P : Program}
def El (enc : TypeId × Value → H) (P : Program) (e : TypeId) {α : Type} (d : Kd α) (ok : α → Prop) : Prop :=
  ∀ (w : World) (base : Nat) (spare : Nat → Bool) (held : Bool) (n : Nat) (cs : List Value) (x : DataW H × List MemPlace), DataW.trod enc P w base spare held n e cs = some x → ∃ a, d.K w a cs ∧ ok a
theorem el_int {k : IntKind} {e : TypeId} (he : P.underlying e = some (.int k)) : El enc P e (Kd.int k) (fun n => (Lit.int k n).wf = true) := by
  intro w base spare held n cs x h
  obtain ⟨m, h1, h2, h3⟩ := DataW.trod_int he h
  exact ⟨m, h1, h3⟩
theorem el_bool {e : TypeId} (he : P.underlying e = some .bool) : El enc P e Kd.bool (fun _ => True) := by
  intro w base spare held n cs x h
  obtain ⟨m, h1, h2⟩ := DataW.trod_bool he h
  exact ⟨m, h1, trivial⟩
theorem el_string {e : TypeId} (he : P.underlying e = some .string) : El enc P e Kd.string (fun s => s.size ≤ 9223372036854775807) := by
  intro w base spare held n cs x h
  obtain ⟨m, h1, h2, h3⟩ := DataW.trod_string he h
  exact ⟨m, h1, h3⟩
theorem el_struct3 {e : TypeId} {f0 f1 f2 : Field} {α β γ : Type} {a : Kd α} {b : Kd β} {c : Kd γ} {oka : α → Prop} {okb : β → Prop} {okc : γ → Prop} (he : P.underlying e = some (.struct #[f0, f1, f2])) (hc : P.cellsOf e = a.sz + (b.sz + c.sz))
    (o0 : f0.offset = 0) (o1 : f1.offset = a.sz) (o2 : f2.offset = a.sz + b.sz) (c0 : P.cellsOf f0.type = a.sz) (c1 : P.cellsOf f1.type = b.sz) (c2 : P.cellsOf f2.type = c.sz)
    (h0 : El enc P f0.type a oka) (h1 : El enc P f1.type b okb) (h2 : El enc P f2.type c okc) : El enc P e (Kd.pair a (Kd.pair b c)) (fun x => oka x.1 ∧ okb x.2.1 ∧ okc x.2.2) := by
  intro w base spare held n cs x h
  obtain ⟨y0, y1, y2, m, hx, hl, g0, g1, g2⟩ := trod_struct3 he h
  obtain ⟨x0, k0, q0⟩ := h0 _ _ _ _ _ _ _ g0
  obtain ⟨x1, k1, q1⟩ := h1 _ _ _ _ _ _ _ g1
  obtain ⟨x2, k2, q2⟩ := h2 _ _ _ _ _ _ _ g2
  refine ⟨(x0, x1, x2), ⟨_, _, ?_, k0, _, _, rfl, k1, k2⟩, q0, q1, q2⟩
  rw [o0, o1, o2, c0, c1, c2, List.drop_zero, ← List.drop_drop]
  rw [List.take_of_length_le (l := (cs.drop a.sz).drop b.sz) (by rw [List.length_drop, List.length_drop]; omega), List.take_append_drop, List.take_append_drop]
theorem el_iso {e : TypeId} {α β : Type} {d : Kd α} {ok : α → Prop} (f : β → α) (g : α → β) (hfg : ∀ x, f (g x) = x) (h : El enc P e d ok) : El enc P e (Kd.iso d f) (fun x => ok (f x)) := by
  intro w base spare held n cs x hx
  obtain ⟨a, h1, h2⟩ := h _ _ _ _ _ _ _ hx
  refine ⟨g a, ?_, ?_⟩
  · show d.K w (f (g a)) cs
    rw [hfg]; exact h1
  · show ok (f (g a))
    rw [hfg]; exact h2
def IsRows {α : Type} (d : Kd α) (ok : α → Prop) (w : World) (A : Option Addr) (len cap : Nat) (xs : List α) : Prop :=
  xs.length = len ∧ len ≤ cap ∧ cap ≤ 9223372036854775807 ∧ d.C w A len xs ∧ ∀ a ∈ xs, ok a
theorem open_rows {t e : TypeId} {α : Type} [Inhabited α] {d : Kd α} {ok : α → Prop} {w : World} {base : Nat} {spare : Nat → Bool} {held : Bool} {fuel : Nat} {A : Option Addr} {len cap : Nat} {x : DataW H × List MemPlace} (ht : P.underlying t = some (.slice e)) (hc : P.cellsOf e = d.sz)
    (hE : El enc P e d ok) (h : DataW.trod enc P w base spare held fuel t (Value.slice A len cap).cells.toList = some x) :
    ∃ xs : List α, IsRows d ok w A len cap xs := by
  have hcs : (Value.slice A len cap).cells.toList = [.slice A len cap] := rfl
  rw [hcs] at h
  rcases open_slice ht h with ⟨h1, _⟩ | ⟨a, l, c, m, n, D, Pl, h1, hb, hl, hm, hmm, _, hx⟩
  · simp at h1
    obtain ⟨rfl, rfl, rfl⟩ := h1
    exact ⟨[], rfl, by omega, by omega, Kd.C_nil d w, by simp⟩
  · simp at h1
    obtain ⟨rfl, rfl, rfl⟩ := h1
    have hlm : len ≤ m := by rw [hmm]; split <;> omega
    have each : ∀ i, i < len → ∃ y : α, (∃ cs', w.cells? base (a.add (i * P.cellsOf e)) (P.cellsOf e) = some cs' ∧ d.K w y cs') ∧ ok y := fun i hi => by
      obtain ⟨cs', h2, h3⟩ := hx i (by omega)
      obtain ⟨y, h4, h5⟩ := hE _ _ _ _ _ _ _ h3
      exact ⟨y, ⟨cs', h2, h4⟩, h5⟩
    obtain ⟨f, hf⟩ := choose_lt each
    have hmax : maxLen = 9223372036854775807 := rfl
    refine ⟨(List.range len).map f, by simp, hl, by omega, ⟨by simp, by omega, fun _ => ⟨a, rfl, fun j p hj => ?_⟩⟩, fun y hy => ?_⟩
    · obtain ⟨h6, h7⟩ := List.getElem?_eq_some_iff.1 hj
      simp at h6 h7
      subst h7
      obtain ⟨cs', h2, h4⟩ := (hf j h6).1
      obtain ⟨_, hlen, hcell⟩ := World.cells?_some h2
      refine ⟨cs', by rw [hlen, hc], h4, fun i u hu => ?_⟩
      have hi : i < P.cellsOf e := by rw [← hlen]; exact (List.getElem?_eq_some_iff.1 hu).1
      have h8 := hcell i hi
      rw [hu] at h8
      rw [← h8, ← hc]
      congr 1
      exact (Go.Deep.add_add _ _ _).symm
    · simp at hy
      obtain ⟨i, hi, rfl⟩ := hy
      exact (hf i hi).2
end
end Go.Proofs.Ytkhcmddeeodbkaa.O
namespace Go.Proofs.Ytkhcmddeeodbkaa.O
open Go.RowKit Go.ChangeShapes Go.WideShapes Go.Deep Go.Proofs.YtkhcmddeeodbkaaW.PrintWords Go.Proofs.YtkhcmddeeodbkaaW.PrintMore Go.Proofs.Ytkhcmddeeodbkaa.XSor
instance : Inhabited S27 := ⟨⟨ByteArray.empty, false, ⟨0, 0, ByteArray.empty⟩⟩⟩
def ok25 (x : S25) : Prop := (Lit.int .i64 x.f0).wf = true ∧ (Lit.int .i64 x.f1).wf = true ∧ x.f2.size ≤ 9223372036854775807
theorem el25 {H : Type} {enc : TypeId × Value → H} : El enc Try.prog 25 k25 ok25 :=
  el_iso (fun x : S25 => (x.f0, x.f1, x.f2)) (fun p => ⟨p.1, p.2.1, p.2.2⟩) (fun _ => rfl)
    (el_struct3 Try.underlying25 (by kernel_rfl) rfl rfl rfl (by kernel_rfl) (by kernel_rfl) (by kernel_rfl) (el_int Try.underlying3) (el_int Try.underlying2) (el_string Try.underlying9))
def ok27 (x : S27) : Prop := x.f0.size ≤ 9223372036854775807 ∧ True ∧ ok25 x.f2
theorem el27 {H : Type} {enc : TypeId × Value → H} : El enc Try.prog 27 k27 ok27 :=
  el_iso (fun x : S27 => (x.f0, x.f1, x.f2)) (fun p => ⟨p.1, p.2.1, p.2.2⟩) (fun _ => rfl)
    (el_struct3 Try.underlying27 (by kernel_rfl) rfl rfl rfl (by kernel_rfl) (by kernel_rfl) (by kernel_rfl) (el_string Try.underlying9) (el_bool Try.underlying4) el25)
end Go.Proofs.Ytkhcmddeeodbkaa.O
namespace Go.Proofs.Ytkhcmddeeodbkaa.O
open Go.RowKit Go.ChangeShapes Go.WideShapes Go.Deep Go.Proofs.YtkhcmddeeodbkaaW.PrintWords Go.Proofs.YtkhcmddeeodbkaaW.PrintMore Go.Proofs.Ytkhcmddeeodbkaa.XSor
def v27 (x : S27) : Value := .agg #[.string x.f0, .bool x.f1, .int .i64 x.f2.f0, .int .i64 x.f2.f1, .string x.f2.f2]
set_option maxRecDepth 100000 in
theorem st27 {H : Type} {enc : TypeId × Value → H} {w : World} {base : Nat} {spare : Nat → Bool} {held : Bool} {r : Reach} {b0 : Nat} {v : Value} {d : DataW H} {p : List MemPlace} (hv : Value.okWide Try.prog w r b0 27 v) (h : DataW.Trod enc Try.prog w base spare held 27 v d p) : ∃ x, v = v27 x ∧ ok27 x := by
  obtain ⟨cs, rfl, hs⟩ := okWide_struct Try.underlying27 hv
  obtain ⟨n, hn⟩ := h
  obtain ⟨a, ha, ho⟩ := el27 _ _ _ _ _ _ _ hn
  refine ⟨a, ?_, ho⟩
  have e2 : cs.toList = [.string a.f0, .bool a.f1, .int .i64 a.f2.f0, .int .i64 a.f2.f1, .string a.f2.f2] := k27_open ha
  unfold v27
  rw [← Array.toList_inj.1 (show cs.toList = (#[.string a.f0, .bool a.f1, .int .i64 a.f2.f0, .int .i64 a.f2.f1, .string a.f2.f2] : Array Value).toList from e2)]
end Go.Proofs.Ytkhcmddeeodbkaa.O
namespace Go.Proofs.Ytkhcmddeeodbkaa.GL
open Go.RowKit Go.Proofs.YtkhcmddeeodbkaaW.PrintWords Go.Proofs.YtkhcmddeeodbkaaW.PrintLast Go.Proofs.YtkhcmddeeodbkaaW.PrintMore Go.Proofs.Ytkhcmddeeodbkaa.Q Go.Proofs.Ytkhcmddeeodbkaa.XSor Go.Proofs.Ytkhcmddeeodbkaa.G
theorem appRc {ops : Array Oper} {rest : List Oper} {o : Oper} {a : Act} {Q : Exit → Act → World → Prop} {w0 W : World} (hgd : o.guard = none) (s x : Operand)
    (ho : o.op = .call { callee := .builtin .append, args := #[s, x], argTypes := #[39, 39] }) (v : Value) (xs ys : List Rc) (A : Option Addr) (m c : Nat) (hs : a.eval s = v) (hx : a.eval x = .slice A m c)
    (HO : Kd.R k27 27 W w0.heap.size (fun _ => True) v xs) (HR : Kd.C k27 W A m ys) (HB : Below w0.heap.size w0 W) (hl : xs.length + m ≤ 1000000)
    (h : ∀ v1 w1, Kd.R k27 27 w1 w0.heap.size (fun _ => True) v1 (xs ++ ys) → Below w0.heap.size w0 w1 → wpList Try.prog ops Q rest (a.put o.dst v1) w1) : wpList Try.prog ops Q (o :: rest) a W :=
  Kd.R_append_rows k27 (w0 := w0) w0.heap.size hgd s x 39 27 (.agg #[(.string ⟨#[]⟩), .bool false, (.int .i64 0), (.int .i64 0), (.string ⟨#[]⟩)]) 56 ho Try.underlying39 info27 (by rfl) (by decide) (by omega) v xs ys A m c (fun _ => True) (fun _ => False) hs hx HO HR (fun _ _ h => h) (fun _ h => h.elim) (fun _ _ => trivial) HB HB.size (by omega) (fun v1 w1 h1 h2 _ _ => h v1 w1 h1 h2)
theorem lit1R (W : World) (base : Nat) (x : Rc) : Reps (Kd.M k27 W base (fun _ => True)) k27.sz [x] [.string x.f0, .bool x.f1, .int .i64 x.f2.f0, .int .i64 x.f2.f1, .string x.f2.f2] := by
  refine ⟨rfl, fun j p hj => ?_⟩
  rcases j with _ | j
  · obtain rfl : x = p := by simpa using hj
    exact k27_mkM W base _ x
  · simp at hj
theorem new_p {w : World} {A : Option Addr} {n c : Nat} {l : List Rc} (hn : n = (pairsL l).length) (hC : Kd.C k30 w A n (pairsL l)) (hc : n ≤ c) :
    Calls Try.prog 13 #[.slice A n c] w fun e w' => ∃ g, e = .returned (.tuple #[.pointer (some ⟨g, 0, none⟩), .int .i64 0]) ∧ SO w' g (pairsL l) ∧ Below w.heap.size w w' := by
  refine (st_New hn hC hc (fun p hp => by have := pairsL_sm (l := l) p hp; omega)).mono ?_
  rintro e w' ⟨hb, ⟨_, g, h, hs⟩ | ⟨h, _⟩⟩
  · exact ⟨g, h, hs, hb⟩
  · exact absurd (pairsL_may l) h
theorem get_v {W : World} {g : Nat} {L : List Pr} {k : ByteArray} {u : Rw} {b : Bool} (h : SO W g L) (hk : k.size < 17592186044416) (hv : valP L k = (u, b)) : Calls Try.prog 19 #[.pointer (some ⟨g, 0, none⟩), .string k] W fun e w' => e = .returned (.tuple #[.agg #[.int .i64 u.f0, .int .i64 u.f1, .string u.f2], .bool b]) ∧ Below W.heap.size W w' := by
  have h1 := st_Get (k := k) h hk
  rw [hv] at h1
  exact h1
set_option maxRecDepth 1000000 in
set_option maxHeartbeats 8000000 in
theorem SortedOne.core {w : World} {A0 : Option Addr} {n0 c0 : Nat} {l : List Rc} (x : Rc) (hn : n0 = l.length) (hC : Kd.C k27 w A0 n0 l) (hc : n0 ≤ c0) :
    Calls Try.prog 5 #[.slice A0 n0 c0, .agg #[.string x.f0, .bool x.f1, .int .i64 x.f2.f0, .int .i64 x.f2.f1, .string x.f2.f2]] w fun e w' => e = .returned (.bool true) ∧ Below w.heap.size w w' := by
  have HB := Aside0.mk (Below.refl w.heap.size w)
  have HC := Aside0.mk hC
  have HCC := Aside0.mk hc
  have HN := Aside0.mk hn
  clear hn hC hc
  go_enter Try.func5, Try.ntmps5
  go_upto_if 22 with (first
    | ((with_reducible refine gate_dst (N := 3) rfl ?_); refine box_event ?hg (N := 3) ?hd (cs := #[.string x.f0, .bool x.f1, .int .i64 x.f2.f0, .int .i64 x.f2.f1, .string x.f2.f2]) (t := 27) ?hr ?_; (case hd => rfl); (case hg => rfl); (case hr => first | (go_simp; done) | (go_simp; rfl)); intro gb hg w1 hbox hb; have n1_ := Aside0.mk (show Below w.heap.size w w1 from hb); have BK := Aside0.mk hbox; clear HB hbox hg hb; have HB := n1_; clear n1_)
    | (go_at_call 10; (with_reducible refine (st_begun _).mono ?_); rintro e w2 ⟨rfl, hb⟩; have n1_ := Aside0.mk (below_step HB.out hb); have n2_ := Aside0.mk (blk_below BK.out hb); clear HB BK; have HB := n1_; have BK := n2_; clear n1_ n2_; clear hb))
  go_cut [0] (fun v0 wx => ∃ (M : Nat) (L : List Rc), v0 = .slice A0 M c0 ∧ M = L.length ∧ M ≤ 25 ∧ M ≤ c0 ∧ Kd.C k27 w2 A0 M L ∧ wx = w2)
  case first =>
    have hC2 := Kd.C_below HC.out HB.out
    by_cases hcut : 25 < n0
    · obtain ⟨i0, hi0, _, hsz, _⟩ := info_parts info27
      have hrun : ∀ W : World, (Instr.slice 39 (.slice A0 n0 c0) none (some (.int .i64 25)) none).run Try.prog W = .ok (.slice A0 25 c0) W := cut_to (P := Try.prog) 39 27 .i64 Try.underlying39 hi0 A0 n0 c0 25 (by decide) (by omega) HCC.out
      have hd : decide ((25 : Int) < (n0 : Int)) = true := decide_eq_true (by omega)
      have hd2 : (25 : Int) < (n0 : Int) := by omega
      have h25 := Kd.C_take (m := 25) (by have := hC2; rw [HN.out] at this; exact this) (by have := HN.out; omega)
      have HM := Aside0.mk (show 25 = (l.take 25).length by rw [List.length_take]; have := HN.out; omega)
      have HM2 := Aside0.mk (show 25 ≤ c0 by have := HCC.out; omega)
      rw [← HM.out] at h25
      have H25 := Aside0.mk h25
      clear h25 hC2 hi0 hsz hcut
      go_wp2
      go_meet
      exact ⟨25, l.take 25, rfl, HM.out, Nat.le_refl _, HM2.out, H25.out, rfl⟩
    · have hd : decide ((25 : Int) < (n0 : Int)) = false := decide_eq_false (by omega)
      have hd2 : (n0 : Int) ≤ 25 := by omega
      have HM := Aside0.mk (show n0 ≤ 25 by omega)
      have H25 := Aside0.mk hC2
      clear hC2 hcut
      go_wp2
      go_meet
      exact ⟨n0, l, rfl, HN.out, HM.out, HCC.out, H25.out, rfl⟩
  case rest =>
    obtain ⟨M, L, rfl, hM, hM25, hMc, hCL, hwc⟩ := hcut
    obtain ⟨w3, hw⟩ : ∃ W, W = wc := ⟨_, rfl⟩
    subst hw
    rw [← hwc] at hCL HB BK
    clear HC HCC HN hwc
    have HCL := Aside0.mk hCL
    have HM := Aside0.mk hM
    have HM25 := Aside0.mk hM25
    have HMC := Aside0.mk hMc
    have HL25 := Aside0.mk (show L.length ≤ 25 by omega)
    clear hM hM25 hMc hCL
    go_upto_region 10 with (first
      | (go_at_call 17; (with_reducible refine (st_Pairs HM.out HCL.out HMC.out).mono ?_); rintro e w4 ⟨v4, rfl, hR, hb⟩; obtain ⟨A4, c4, rfl, hn4, hC4⟩ := Kd.R_reads hR; have HCP := Aside0.mk hC4; have HNP := Aside0.mk hn4; have n1_ := Aside0.mk (Kd.C_below HCL.out hb); clear HCL hR hn4 hC4; have HCL := n1_; clear n1_; have n1_ := Aside0.mk (below_step HB.out hb); have n2_ := Aside0.mk (blk_below BK.out hb); clear HB BK; have HB := n1_; have BK := n2_; clear n1_ n2_; clear hb; have hr0 : w4.cell? ⟨gb, 0, none⟩ = some (.string x.f0) := (blk_cell BK.out 0).trans rfl; have hr1 : w4.cell? ⟨gb, 1, none⟩ = some (.bool x.f1) := (blk_cell BK.out 1).trans rfl; have hr2 : w4.cell? ⟨gb, 2, none⟩ = some (.int .i64 x.f2.f0) := (blk_cell BK.out 2).trans rfl; have hr3 : w4.cell? ⟨gb, 3, none⟩ = some (.int .i64 x.f2.f1) := (blk_cell BK.out 3).trans rfl; have hr4 : w4.cell? ⟨gb, 4, none⟩ = some (.string x.f2.f2) := (blk_cell BK.out 4).trans rfl)
      | ((with_reducible refine gate_dst (N := 28) rfl ?_); refine Kd.R_lit k27 (w0 := w4) w4.heap.size 27 ?hg (N := 28) ?hd (xs := [x]) (inner := [.string x.f0, .bool x.f1, .int .i64 x.f2.f0, .int .i64 x.f2.f1, .string x.f2.f2]) (ok := fun _ => True) (okp := fun _ => True) ?hr (lit1R _ _ x) (fun _ hk => hk) trivial (Below.refl _ _) (Nat.le_refl _) (by simp) ?_; (case hd => rfl); (case hg => rfl); (case hr => first | (go_simp; done) | (go_simp; rfl)); intro v5 w5 ho hb hg hat; have HO := Aside0.mk ho; have HV := Aside0.mk hb; clear ho hb hg hat; clear hr0 hr1 hr2 hr3 hr4)
      | ((with_reducible refine gate_builtin (b := .append) (xs := #[.tmp 28, .tmp 29]) rfl ?_); at_builtin; refine appRc (w0 := w4) rfl (.tmp 28) (.tmp 29) rfl v5 [x] L A0 M c0 rfl rfl HO.out (Kd.C_below HCL.out HV.out) HV.out (by have := HM25.out; simp; omega) ?_; intro v6 w6 ho hb; rw [List.singleton_append] at ho; clear HO HV; obtain ⟨A6, c6, rfl, hn6, hC6⟩ := Kd.R_reads ho; have HO := Aside0.mk hC6; have HNO := Aside0.mk hn6; clear ho hn6 hC6; have n1_ := Aside0.mk (below_step HB.out hb); have n2_ := Aside0.mk (blk_below BK.out hb); clear HB BK; have HB := n1_; have BK := n2_; clear n1_ n2_; have n3_ := Aside0.mk (Kd.C_below HCP.out hb); clear HCP; have HCP := n3_; clear n3_; clear hb HCL)
      | (go_at_call 17; refine (st_Pairs (l := x :: L) rfl HO.out HNO.out).mono ?_; rintro e w7 ⟨v7, rfl, hR, hb⟩; obtain ⟨A7, c7, rfl, hn7, hC7⟩ := Kd.R_reads hR; have HCQ := Aside0.mk hC7; have HNQ := Aside0.mk hn7; clear HO HNO hR hn7 hC7; have n1_ := Aside0.mk (below_step HB.out hb); have n2_ := Aside0.mk (blk_below BK.out hb); clear HB BK; have HB := n1_; have BK := n2_; clear n1_ n2_; have n3_ := Aside0.mk (Kd.C_below HCP.out hb); clear HCP; have HCP := n3_; clear n3_; clear hb)
      | (go_at_call 13; (with_reducible refine (new_p rfl HCP.out HNP.out).mono ?_); rintro e w8 ⟨g8, rfl, hs, hb⟩; have HS := Aside0.mk hs; have n1_ := Aside0.mk (below_step HB.out hb); have n2_ := Aside0.mk (blk_below BK.out hb); clear HB BK; have HB := n1_; have BK := n2_; clear n1_ n2_; have n3_ := Aside0.mk (Kd.C_below HCP.out hb); clear HCP; have HCP := n3_; clear n3_; have n3_ := Aside0.mk (Kd.C_below HCQ.out hb); clear HCQ; have HCQ := n3_; clear n3_; clear hb hs)
      | (go_at_call 13; (with_reducible refine (new_p rfl HCQ.out HNQ.out).mono ?_); rintro e w9 ⟨g9, rfl, hs, hb⟩; have HT := Aside0.mk hs; have n1_ := Aside0.mk (below_step HB.out hb); have n2_ := Aside0.mk (blk_below BK.out hb); clear HB BK; have HB := n1_; have BK := n2_; clear n1_ n2_; have n3_ := Aside0.mk (Kd.C_below HCP.out hb); clear HCP; have HCP := n3_; clear n3_; have n3_ := Aside0.mk (Kd.C_below HCQ.out hb); clear HCQ; have HCQ := n3_; clear n3_; have n3_ := Aside0.mk (HS.out.below hb); clear HS; have HS := n3_; clear n3_; clear hb hs)
      | (fail))
    have HLN := Aside0.mk (one_len L x HL25.out)
    have HPL := Aside0.mk (pairsL_len L)
    have HQL := Aside0.mk (pairsL_len (x :: L))
    have HVAL := Aside0.mk (fun y (hy : y ∈ pairsL (x :: L)) => one_val L x HL25.out hy)
    have HSM := Aside0.mk (fun y (hy : y ∈ pairsL (x :: L)) => pairsL_sm (l := x :: L) y hy)
    obtain ⟨p, hp⟩ : ∃ p, p = pairsL L := ⟨_, rfl⟩
    obtain ⟨q, hq⟩ : ∃ q, q = pairsL (x :: L) := ⟨_, rfl⟩
    rw [← hp] at HLN HPL HVAL HCP HNP HS ⊢
    rw [← hq] at HLN HQL HVAL HSM HCQ HNQ HT ⊢
    clear hp hq
    obtain ⟨n, hn⟩ : ∃ n, n = q.length := ⟨_, rfl⟩
    obtain ⟨m, hm⟩ : ∃ m, m = p.length := ⟨_, rfl⟩
    rw [← hn] at HLN HQL HCQ HNQ ⊢
    rw [← hm] at HLN HPL HCP HNP ⊢
    have HN := Aside0.mk hn
    have hnz : (n : Int) ≤ 30 := by have := HQL.out; omega
    have hmz : (m : Int) ≤ 30 := by have := HPL.out; omega
    have hln := HLN.out
    clear hn hm
    go_cut [62] (fun v62 wx => v62 = .bool false ∧ wx = w9)
    case first =>
      rcases hln with h | h
      · subst h
        go_wp2
        all_goals go_meet
        all_goals exact ⟨by first | rfl | simp, rfl⟩
      · have h1 : IntKind.i64.wrap ((m : Int) + 1) = (n : Int) := by rw [i64_w, w64 (by omega) (by omega)]; omega
        have h2 : ((n : Int) != (m : Int)) = true := by simp; omega
        have h3 : ((n : Int) != (n : Int)) = false := by simp
        have h4 : (n != m) = true := by simp; omega
        clear h
        go_wp2
        all_goals go_meet
        all_goals exact ⟨by first | rfl | simp, rfl⟩
    case rest =>
      obtain ⟨rfl, hwc⟩ := hcut
      obtain ⟨w10, hw⟩ : ∃ W, W = wc := ⟨_, rfl⟩
      subst hw
      rw [← hwc] at HB BK HCP HCQ HS HT
      clear hwc hln
      go_wp2
      have HX0 := Aside0.mk (blk_cell (blk_below BK.out (Below.refl _ _)) 0)
      go_loopw [12] (fun v12 wr => ∃ (i : Nat), v12 = .int .i64 i ∧ i ≤ n ∧ Aside0 (Below w10.heap.size w10 wr)) (fun v _ => n - (intOf v).toNat)
      case atStart => exact ⟨0, by first | rfl | go_num, Nat.zero_le _, ⟨Below.refl _ _⟩⟩
      case round =>
        obtain ⟨i, rfl, hi, HW⟩ := hrel
        by_cases hlt : i < n
        · have hltz : (i : Int) < (q.length : Int) := by rw [← HN.out]; omega
          have hltz2 : (i : Int) < (n : Int) := by omega
          have hl1 : decide ((i : Int) < (n : Int)) = true := decide_eq_true (by omega)
          have hl2 := decide_eq_true hlt
          have HLT := Aside0.mk hlt
          obtain ⟨ad, e, h0, h1, h2, h3⟩ := at_T30 (by have := HCQ.out; rw [HN.out] at this; exact this) (i : Int) (Int.natCast_nonneg _) hltz
          cases e
          simp only [Int.toNat_natCast] at h0
          have hyq : rd_T30 q (i : Int) ∈ q := by
            have e : rd_T30 q (i : Int) = q[i]'(by rw [← HN.out]; exact hlt) := by simp [rd_T30, ← HN.out, hlt]
            rw [e]
            exact List.getElem_mem _
          obtain ⟨y, hy⟩ : ∃ y, y = rd_T30 q (i : Int) := ⟨_, rfl⟩
          rw [← hy] at h0 hyq
          have HQ0 := Aside0.mk h0
          have HKY := Aside0.mk (show y.f0.size < 17592186044416 by have := (HSM.out y hyq).1; omega)
          have hval := HVAL.out y hyq
          have HV1 := Aside0.mk hval.1
          have hval2 := hval.2
          have hq0 : wr.cell? (ad.add (i * 4)) = some (.string y.f0) := (HW.out.cell (World.block_lt_of_cell? w10 _ HQ0.out)).trans HQ0.out
          clear h0 h1 h2 h3 hyq hy hltz hlt hi hval
          by_cases hk : y.f0 = x.f0
          · have hkb : (y.f0.toList == x.f0.toList) = true := beq_iff_eq.mpr (by rw [hk])
            obtain ⟨⟨u, b⟩, hub⟩ : ∃ z, valP p y.f0 = z := ⟨_, rfl⟩
            have HV2 := Aside0.mk hub
            clear hk hub hval2
            go_upto_region 17 with (first
              | (go_at_call 19; (with_reducible refine (get_v (HT.out.below HW.out) HKY.out HV1.out).mono ?_); rintro e w11 ⟨rfl, hb⟩; have n1_ := Aside0.mk (below_step HW.out hb); clear HW; have HW := n1_; clear n1_; clear hb hq0)
              | ((with_reducible refine gate_dst (N := 13) rfl ?_); refine box_event ?hg (N := 13) ?hd (cs := #[.int .i64 0, .int .i64 0, .string ⟨#[]⟩]) (t := 25) ?hr ?_; (case hd => rfl); (case hg => rfl); (case hr => first | (go_simp; done) | (go_simp; rfl)); intro g13 hg w12 hbox hb; have G13 := Aside0.mk (show w10.heap.size ≤ g13 by rw [hg]; exact HW.out.size); skip; have B13 := Aside0.mk hbox; have n1_ := Aside0.mk (below_step HW.out hb); clear HW; have HW := n1_; clear n1_; clear hbox hg hb; have hs0 : w12.cell? ⟨g13, 0, none⟩ = some (.int .i64 0) := (blk_cell B13.out 0).trans rfl; have hs1 : w12.cell? ⟨g13, 1, none⟩ = some (.int .i64 0) := (blk_cell B13.out 1).trans rfl; have hs2 : w12.cell? ⟨g13, 2, none⟩ = some (.string ⟨#[]⟩) := (blk_cell B13.out 2).trans rfl; have hf0 := blk_frozen B13.out 0; have hf1 := blk_frozen B13.out 1; have hf2 := blk_frozen B13.out 2)
              | ((with_reducible refine gate_store (t := 25) (p := 13) rfl ?_); refine store_event (t := 25) (p := 13) (v := ?vo13) (w1 := (((w12.setCell ⟨g13, 0, none⟩ (.int .i64 y.f1.f0)).setCell ⟨g13, 1, none⟩ (.int .i64 y.f1.f1)).setCell ⟨g13, 2, none⟩ (.string y.f1.f2))) ?hg ?ho ?hn ?hr ?_; (case ho => rfl); (case hg => rfl); (case hn => rfl); (case hr => first | (go_simp; done) | (go_simp; rfl)); intro w13 hw; have n1_ := Aside0.mk (show Below w10.heap.size w10 w13 by rw [hw]; exact below_set (below_set (below_set HW.out G13.out) G13.out) G13.out); have n2_ := Aside0.mk (show w13.heap[g13]? = some (.cells #[.int .i64 y.f1.f0, .int .i64 y.f1.f1, .string y.f1.f2] 25 (0, 0)) by rw [hw]; exact blk_put (blk_put (blk_put B13.out 0 _ rfl) 1 _ rfl) 2 _ rfl); skip; clear HW B13 hs0 hs1 hs2 hf0 hf1 hf2 hw; have HW := n1_; have B13 := n2_; clear n1_ n2_; have hq0 : w13.cell? (ad.add (i * 4)) = some (.string y.f0) := (HW.out.cell (World.block_lt_of_cell? w10 _ HQ0.out)).trans HQ0.out)
              | (go_at_call 19; (with_reducible refine (get_v (HS.out.below HW.out) HKY.out HV2.out).mono ?_); rintro e w14 ⟨rfl, hb⟩; have n1_ := Aside0.mk (below_step HW.out hb); clear HW; have HW := n1_; clear n1_; have n2_ := Aside0.mk (blk_below B13.out hb); clear B13; have B13 := n2_; clear n2_; clear hb hq0)
              | ((with_reducible refine gate_dst (N := 15) rfl ?_); refine box_event ?hg (N := 15) ?hd (cs := #[.int .i64 0, .int .i64 0, .string ⟨#[]⟩]) (t := 25) ?hr ?_; (case hd => rfl); (case hg => rfl); (case hr => first | (go_simp; done) | (go_simp; rfl)); intro g15 hg w15 hbox hb; have G15 := Aside0.mk (show w10.heap.size ≤ g15 by rw [hg]; exact HW.out.size); have NE := Aside0.mk (show g13 ≠ g15 by have := blk_lt B13.out; omega); have n2_ := Aside0.mk (blk_below B13.out hb); clear B13; have B13 := n2_; clear n2_; have B15 := Aside0.mk hbox; have n1_ := Aside0.mk (below_step HW.out hb); clear HW; have HW := n1_; clear n1_; clear hbox hg hb; have hs0 : w15.cell? ⟨g15, 0, none⟩ = some (.int .i64 0) := (blk_cell B15.out 0).trans rfl; have hs1 : w15.cell? ⟨g15, 1, none⟩ = some (.int .i64 0) := (blk_cell B15.out 1).trans rfl; have hs2 : w15.cell? ⟨g15, 2, none⟩ = some (.string ⟨#[]⟩) := (blk_cell B15.out 2).trans rfl; have hf0 := blk_frozen B15.out 0; have hf1 := blk_frozen B15.out 1; have hf2 := blk_frozen B15.out 2)
              | ((with_reducible refine gate_store (t := 25) (p := 15) rfl ?_); refine store_event (t := 25) (p := 15) (v := ?vo15) (w1 := (((w15.setCell ⟨g15, 0, none⟩ (.int .i64 u.f0)).setCell ⟨g15, 1, none⟩ (.int .i64 u.f1)).setCell ⟨g15, 2, none⟩ (.string u.f2))) ?hg ?ho ?hn ?hr ?_; (case ho => rfl); (case hg => rfl); (case hn => rfl); (case hr => first | (go_simp; done) | (go_simp; rfl)); intro w16 hw; have n1_ := Aside0.mk (show Below w10.heap.size w10 w16 by rw [hw]; exact below_set (below_set (below_set HW.out G15.out) G15.out) G15.out); have n2_ := Aside0.mk (show w16.heap[g15]? = some (.cells #[.int .i64 u.f0, .int .i64 u.f1, .string u.f2] 25 (0, 0)) by rw [hw]; exact blk_put (blk_put (blk_put B15.out 0 _ rfl) 1 _ rfl) 2 _ rfl); have n3_ := Aside0.mk (show w16.heap[g13]? = some (.cells #[.int .i64 y.f1.f0, .int .i64 y.f1.f1, .string y.f1.f2] 25 (0, 0)) by rw [hw]; exact blk_far (blk_far (blk_far B13.out NE.out _) NE.out _) NE.out _); clear B13; have B13 := n3_; clear n3_; clear HW B15 hs0 hs1 hs2 hf0 hf1 hf2 hw; have HW := n1_; have B15 := n2_; clear n1_ n2_; have hq0 : w16.cell? (ad.add (i * 4)) = some (.string y.f0) := (HW.out.cell (World.block_lt_of_cell? w10 _ HQ0.out)).trans HQ0.out))
            have hb0 : w16.cell? ⟨gb, 0, none⟩ = some (.string x.f0) := (blk_cell (blk_below BK.out HW.out) 0).trans rfl
            have hs0 : w16.cell? ⟨g13, 0, none⟩ = some (.int .i64 y.f1.f0) := (blk_cell B13.out 0).trans rfl
            have hs1 : w16.cell? ⟨g13, 1, none⟩ = some (.int .i64 y.f1.f1) := (blk_cell B13.out 1).trans rfl
            have hs2 : w16.cell? ⟨g13, 2, none⟩ = some (.string y.f1.f2) := (blk_cell B13.out 2).trans rfl
            have hz0 : w16.cell? ⟨g15, 0, none⟩ = some (.int .i64 u.f0) := (blk_cell B15.out 0).trans rfl
            have hz1 : w16.cell? ⟨g15, 1, none⟩ = some (.int .i64 u.f1) := (blk_cell B15.out 1).trans rfl
            have hz2 : w16.cell? ⟨g15, 2, none⟩ = some (.string u.f2) := (blk_cell B15.out 2).trans rfl
            cases b
            · skip
              go_wp2
              go_quiet (fail)
              rename_i nq
              go_wp2
              refine ⟨⟨i + 1, by first | rfl | go_num, by have := HLT.out; omega, ⟨pw_below_drewN HW.out _⟩⟩, ?_⟩
              have := HLT.out
              simp [intOf]
              omega
            · skip
              go_wp2
              go_quiet (fail)
              rename_i nq
              go_wp2
              refine ⟨⟨i + 1, by first | rfl | go_num, by have := HLT.out; omega, ⟨pw_below_drewN HW.out _⟩⟩, ?_⟩
              have := HLT.out
              simp [intOf]
              omega
          · have hkb : (y.f0.toList == x.f0.toList) = false := beq_eq_false_iff_ne.mpr (fun e => hk (toList_inj e))
            have HV2 := Aside0.mk (hval2.resolve_left hk)
            clear hk hval2
            go_upto_region 17 with (first
              | (go_at_call 19; (with_reducible refine (get_v (HT.out.below HW.out) HKY.out HV1.out).mono ?_); rintro e w11 ⟨rfl, hb⟩; have n1_ := Aside0.mk (below_step HW.out hb); clear HW; have HW := n1_; clear n1_; clear hb hq0)
              | ((with_reducible refine gate_dst (N := 13) rfl ?_); refine box_event ?hg (N := 13) ?hd (cs := #[.int .i64 0, .int .i64 0, .string ⟨#[]⟩]) (t := 25) ?hr ?_; (case hd => rfl); (case hg => rfl); (case hr => first | (go_simp; done) | (go_simp; rfl)); intro g13 hg w12 hbox hb; have G13 := Aside0.mk (show w10.heap.size ≤ g13 by rw [hg]; exact HW.out.size); skip; have B13 := Aside0.mk hbox; have n1_ := Aside0.mk (below_step HW.out hb); clear HW; have HW := n1_; clear n1_; clear hbox hg hb; have hs0 : w12.cell? ⟨g13, 0, none⟩ = some (.int .i64 0) := (blk_cell B13.out 0).trans rfl; have hs1 : w12.cell? ⟨g13, 1, none⟩ = some (.int .i64 0) := (blk_cell B13.out 1).trans rfl; have hs2 : w12.cell? ⟨g13, 2, none⟩ = some (.string ⟨#[]⟩) := (blk_cell B13.out 2).trans rfl; have hf0 := blk_frozen B13.out 0; have hf1 := blk_frozen B13.out 1; have hf2 := blk_frozen B13.out 2)
              | ((with_reducible refine gate_store (t := 25) (p := 13) rfl ?_); refine store_event (t := 25) (p := 13) (v := ?vo13) (w1 := (((w12.setCell ⟨g13, 0, none⟩ (.int .i64 y.f1.f0)).setCell ⟨g13, 1, none⟩ (.int .i64 y.f1.f1)).setCell ⟨g13, 2, none⟩ (.string y.f1.f2))) ?hg ?ho ?hn ?hr ?_; (case ho => rfl); (case hg => rfl); (case hn => rfl); (case hr => first | (go_simp; done) | (go_simp; rfl)); intro w13 hw; have n1_ := Aside0.mk (show Below w10.heap.size w10 w13 by rw [hw]; exact below_set (below_set (below_set HW.out G13.out) G13.out) G13.out); have n2_ := Aside0.mk (show w13.heap[g13]? = some (.cells #[.int .i64 y.f1.f0, .int .i64 y.f1.f1, .string y.f1.f2] 25 (0, 0)) by rw [hw]; exact blk_put (blk_put (blk_put B13.out 0 _ rfl) 1 _ rfl) 2 _ rfl); skip; clear HW B13 hs0 hs1 hs2 hf0 hf1 hf2 hw; have HW := n1_; have B13 := n2_; clear n1_ n2_; have hq0 : w13.cell? (ad.add (i * 4)) = some (.string y.f0) := (HW.out.cell (World.block_lt_of_cell? w10 _ HQ0.out)).trans HQ0.out)
              | (go_at_call 19; (with_reducible refine (get_v (HS.out.below HW.out) HKY.out HV2.out).mono ?_); rintro e w14 ⟨rfl, hb⟩; have n1_ := Aside0.mk (below_step HW.out hb); clear HW; have HW := n1_; clear n1_; have n2_ := Aside0.mk (blk_below B13.out hb); clear B13; have B13 := n2_; clear n2_; clear hb hq0)
              | ((with_reducible refine gate_dst (N := 15) rfl ?_); refine box_event ?hg (N := 15) ?hd (cs := #[.int .i64 0, .int .i64 0, .string ⟨#[]⟩]) (t := 25) ?hr ?_; (case hd => rfl); (case hg => rfl); (case hr => first | (go_simp; done) | (go_simp; rfl)); intro g15 hg w15 hbox hb; have G15 := Aside0.mk (show w10.heap.size ≤ g15 by rw [hg]; exact HW.out.size); have NE := Aside0.mk (show g13 ≠ g15 by have := blk_lt B13.out; omega); have n2_ := Aside0.mk (blk_below B13.out hb); clear B13; have B13 := n2_; clear n2_; have B15 := Aside0.mk hbox; have n1_ := Aside0.mk (below_step HW.out hb); clear HW; have HW := n1_; clear n1_; clear hbox hg hb; have hs0 : w15.cell? ⟨g15, 0, none⟩ = some (.int .i64 0) := (blk_cell B15.out 0).trans rfl; have hs1 : w15.cell? ⟨g15, 1, none⟩ = some (.int .i64 0) := (blk_cell B15.out 1).trans rfl; have hs2 : w15.cell? ⟨g15, 2, none⟩ = some (.string ⟨#[]⟩) := (blk_cell B15.out 2).trans rfl; have hf0 := blk_frozen B15.out 0; have hf1 := blk_frozen B15.out 1; have hf2 := blk_frozen B15.out 2)
              | ((with_reducible refine gate_store (t := 25) (p := 15) rfl ?_); refine store_event (t := 25) (p := 15) (v := ?vo15) (w1 := (((w15.setCell ⟨g15, 0, none⟩ (.int .i64 y.f1.f0)).setCell ⟨g15, 1, none⟩ (.int .i64 y.f1.f1)).setCell ⟨g15, 2, none⟩ (.string y.f1.f2))) ?hg ?ho ?hn ?hr ?_; (case ho => rfl); (case hg => rfl); (case hn => rfl); (case hr => first | (go_simp; done) | (go_simp; rfl)); intro w16 hw; have n1_ := Aside0.mk (show Below w10.heap.size w10 w16 by rw [hw]; exact below_set (below_set (below_set HW.out G15.out) G15.out) G15.out); have n2_ := Aside0.mk (show w16.heap[g15]? = some (.cells #[.int .i64 y.f1.f0, .int .i64 y.f1.f1, .string y.f1.f2] 25 (0, 0)) by rw [hw]; exact blk_put (blk_put (blk_put B15.out 0 _ rfl) 1 _ rfl) 2 _ rfl); have n3_ := Aside0.mk (show w16.heap[g13]? = some (.cells #[.int .i64 y.f1.f0, .int .i64 y.f1.f1, .string y.f1.f2] 25 (0, 0)) by rw [hw]; exact blk_far (blk_far (blk_far B13.out NE.out _) NE.out _) NE.out _); clear B13; have B13 := n3_; clear n3_; clear HW B15 hs0 hs1 hs2 hf0 hf1 hf2 hw; have HW := n1_; have B15 := n2_; clear n1_ n2_; have hq0 : w16.cell? (ad.add (i * 4)) = some (.string y.f0) := (HW.out.cell (World.block_lt_of_cell? w10 _ HQ0.out)).trans HQ0.out))
            have hb0 : w16.cell? ⟨gb, 0, none⟩ = some (.string x.f0) := (blk_cell (blk_below BK.out HW.out) 0).trans rfl
            have hs0 : w16.cell? ⟨g13, 0, none⟩ = some (.int .i64 y.f1.f0) := (blk_cell B13.out 0).trans rfl
            have hs1 : w16.cell? ⟨g13, 1, none⟩ = some (.int .i64 y.f1.f1) := (blk_cell B13.out 1).trans rfl
            have hs2 : w16.cell? ⟨g13, 2, none⟩ = some (.string y.f1.f2) := (blk_cell B13.out 2).trans rfl
            have hz0 : w16.cell? ⟨g15, 0, none⟩ = some (.int .i64 y.f1.f0) := (blk_cell B15.out 0).trans rfl
            have hz1 : w16.cell? ⟨g15, 1, none⟩ = some (.int .i64 y.f1.f1) := (blk_cell B15.out 1).trans rfl
            have hz2 : w16.cell? ⟨g15, 2, none⟩ = some (.string y.f1.f2) := (blk_cell B15.out 2).trans rfl
            have hy0 : (y.f1.f0 != y.f1.f0) = false := by simp
            have hy1 : (y.f1.f1 != y.f1.f1) = false := by simp
            have hy2 : (y.f1.f2.toList == y.f1.f2.toList) = true := by simp
            go_wp2
            go_quiet (fail)
            rename_i nq
            go_wp2
            refine ⟨⟨i + 1, by first | rfl | go_num, by have := HLT.out; omega, ⟨pw_below_drewN HW.out _⟩⟩, ?_⟩
            have := HLT.out
            simp [intOf]
            omega
        · obtain rfl : i = n := by omega
          have hl1 : decide ((i : Int) < (i : Int)) = false := decide_eq_false (by omega)
          have hl2 : decide (i < i) = false := decide_eq_false (by omega)
          clear hlt hi
          go_wp2
          go_ret
          exact ⟨rfl, below_step HB.out HW.out⟩
theorem SortedOne.walk (P : True) (a0 : Option Addr) (len0 cap0 : Nat) (z0 : List S27) (x : S27) (w : World) (w0 : O.IsRows k27 O.ok27 w a0 len0 cap0 z0) (w1 : O.ok27 x) :
    Calls Try.prog 5 #[.slice a0 len0 cap0, O.v27 x] w fun e w' => e = .returned (.bool true) ∧ Below w.heap.size w w' := by
  obtain ⟨rfl, g1, g2, g3, g4⟩ := w0
  exact SortedOne.core x rfl g3 g1
end Go.Proofs.Ytkhcmddeeodbkaa.GL
