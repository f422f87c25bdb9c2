import Derived.Deep.Slices
import Derived.Lib.SmallJoins
import Derived.ChangeArms
import Derived.Test.YtkhcmddeeodbkaaZSortedAll28
-- Own texts and, of the words that the kit's print program wrote for this claim, those that are needed here: put together by wip/prune.py.
set_option linter.unusedSimpArgs false
set_option linter.unusedVariables false
namespace Go.Proofs.Ytkhcmddeeodbkaa.O
open Go.RowKit Go.ChangeShapes Go.WideShapes Go.Deep Go.Proofs.YtkhcmddeeodbkaaW.PrintWords Go.Proofs.YtkhcmddeeodbkaaW.PrintMore
section
variable {H : Type} {enc : TypeId × Value → H} {P : Program}
def El (enc : TypeId × Value → H) (P : Program) (e : TypeId) {α : Type} (d : Kd α) (ok : α → Prop) : Prop :=
 ∀ (w : World) (base : Nat) (spare : Nat → Bool) (held : Bool) (n : Nat) (cs : List Value) (x : DataW H × List MemPlace), DataW.trod enc P w base spare held n e cs = some x → ∃ a, d.K w a cs ∧ ok a
theorem el_int {k : IntKind} {e : TypeId} (he : P.underlying e = some (.int k)) : El enc P e (Kd.int k) (fun n => (Lit.int k n).wf = true) := by
 intro w base spare held n cs x h
 obtain ⟨m, h1, h2, h3⟩ := DataW.trod_int he h
 exact ⟨m, h1, h3⟩
theorem el_bool {e : TypeId} (he : P.underlying e = some .bool) : El enc P e Kd.bool (fun _ => True) := by
 intro w base spare held n cs x h
 obtain ⟨m, h1, h2⟩ := DataW.trod_bool he h
 exact ⟨m, h1, trivial⟩
theorem el_string {e : TypeId} (he : P.underlying e = some .string) : El enc P e Kd.string (fun s => s.size ≤ 9223372036854775807) := by
 intro w base spare held n cs x h
 obtain ⟨m, h1, h2, h3⟩ := DataW.trod_string he h
 exact ⟨m, h1, h3⟩
theorem el_struct3 {e : TypeId} {f0 f1 f2 : Field} {α β γ : Type} {a : Kd α} {b : Kd β} {c : Kd γ} {oka : α → Prop} {okb : β → Prop} {okc : γ → Prop} (he : P.underlying e = some (.struct #[f0, f1, f2])) (hc : P.cellsOf e = a.sz + (b.sz + c.sz))
    (o0 : f0.offset = 0) (o1 : f1.offset = a.sz) (o2 : f2.offset = a.sz + b.sz) (c0 : P.cellsOf f0.type = a.sz) (c1 : P.cellsOf f1.type = b.sz) (c2 : P.cellsOf f2.type = c.sz)
    (h0 : El enc P f0.type a oka) (h1 : El enc P f1.type b okb) (h2 : El enc P f2.type c okc) : El enc P e (Kd.pair a (Kd.pair b c)) (fun x => oka x.1 ∧ okb x.2.1 ∧ okc x.2.2) := by
 intro w base spare held n cs x h
 obtain ⟨y0, y1, y2, m, hx, hl, g0, g1, g2⟩ := trod_struct3 he h
 obtain ⟨x0, k0, q0⟩ := h0 _ _ _ _ _ _ _ g0
 obtain ⟨x1, k1, q1⟩ := h1 _ _ _ _ _ _ _ g1
 obtain ⟨x2, k2, q2⟩ := h2 _ _ _ _ _ _ _ g2
 refine ⟨(x0, x1, x2), ⟨_, _, ?_, k0, _, _, rfl, k1, k2⟩, q0, q1, q2⟩
 rw [o0, o1, o2, c0, c1, c2, List.drop_zero, ← List.drop_drop]
 rw [List.take_of_length_le (l := (cs.drop a.sz).drop b.sz) (by rw [List.length_drop, List.length_drop]; omega), List.take_append_drop, List.take_append_drop]
theorem el_iso {e : TypeId} {α β : Type} {d : Kd α} {ok : α → Prop} (f : β → α) (g : α → β) (hfg : ∀ x, f (g x) = x) (h : El enc P e d ok) : El enc P e (Kd.iso d f) (fun x => ok (f x)) := by
 intro w base spare held n cs x hx
 obtain ⟨a, h1, h2⟩ := h _ _ _ _ _ _ _ hx
 refine ⟨g a, ?_, ?_⟩
 · show d.K w (f (g a)) cs
   rw [hfg]; exact h1
 · show ok (f (g a))
   rw [hfg]; exact h2
def IsRows {α : Type} (d : Kd α) (ok : α → Prop) (w : World) (A : Option Addr) (len cap : Nat) (xs : List α) : Prop :=
 xs.length = len ∧ len ≤ cap ∧ cap ≤ 9223372036854775807 ∧ d.C w A len xs ∧ ∀ a ∈ xs, ok a
theorem open_rows {t e : TypeId} {α : Type} [Inhabited α] {d : Kd α} {ok : α → Prop} {w : World} {base : Nat} {spare : Nat → Bool} {held : Bool} {fuel : Nat} {A : Option Addr} {len cap : Nat} {x : DataW H × List MemPlace} (ht : P.underlying t = some (.slice e)) (hc : P.cellsOf e = d.sz)
    (hE : El enc P e d ok) (h : DataW.trod enc P w base spare held fuel t (Value.slice A len cap).cells.toList = some x) :
    ∃ xs : List α, IsRows d ok w A len cap xs := by
 have hcs : (Value.slice A len cap).cells.toList = [.slice A len cap] := rfl
 rw [hcs] at h
 rcases open_slice ht h with ⟨h1, _⟩ | ⟨a, l, c, m, n, D, Pl, h1, hb, hl, hm, hmm, _, hx⟩
 · simp at h1
   obtain ⟨rfl, rfl, rfl⟩ := h1
   exact ⟨[], rfl, by omega, by omega, Kd.C_nil d w, by simp⟩
 · simp at h1
   obtain ⟨rfl, rfl, rfl⟩ := h1
   have hlm : len ≤ m := by rw [hmm]; split <;> omega
   have each : ∀ i, i < len → ∃ y : α, (∃ cs', w.cells? base (a.add (i * P.cellsOf e)) (P.cellsOf e) = some cs' ∧ d.K w y cs') ∧ ok y := fun i hi => by
    obtain ⟨cs', h2, h3⟩ := hx i (by omega)
    obtain ⟨y, h4, h5⟩ := hE _ _ _ _ _ _ _ h3
    exact ⟨y, ⟨cs', h2, h4⟩, h5⟩
   obtain ⟨f, hf⟩ := choose_lt each
   have hmax : maxLen = 9223372036854775807 := rfl
   refine ⟨(List.range len).map f, by simp, hl, by omega, ⟨by simp, by omega, fun _ => ⟨a, rfl, fun j p hj => ?_⟩⟩, fun y hy => ?_⟩
   · obtain ⟨h6, h7⟩ := List.getElem?_eq_some_iff.1 hj
     simp at h6 h7
     subst h7
     obtain ⟨cs', h2, h4⟩ := (hf j h6).1
     obtain ⟨_, hlen, hcell⟩ := World.cells?_some h2
     refine ⟨cs', by rw [hlen, hc], h4, fun i u hu => ?_⟩
     have hi : i < P.cellsOf e := by rw [← hlen]; exact (List.getElem?_eq_some_iff.1 hu).1
     have h8 := hcell i hi
     rw [hu] at h8
     rw [← h8, ← hc]
     congr 1
     exact (Go.Deep.add_add _ _ _).symm
   · simp at hy
     obtain ⟨i, hi, rfl⟩ := hy
     exact (hf i hi).2
end
end Go.Proofs.Ytkhcmddeeodbkaa.O
namespace Go.Proofs.Ytkhcmddeeodbkaa.O
open Go.RowKit Go.ChangeShapes Go.WideShapes Go.Deep Go.Proofs.YtkhcmddeeodbkaaW.PrintWords Go.Proofs.YtkhcmddeeodbkaaW.PrintMore Go.Proofs.Ytkhcmddeeodbkaa.XSor
instance : Inhabited S27 := ⟨⟨ByteArray.empty, false, ⟨0, 0, ByteArray.empty⟩⟩⟩
def ok25 (x : S25) : Prop := (Lit.int .i64 x.f0).wf = true ∧ (Lit.int .i64 x.f1).wf = true ∧ x.f2.size ≤ 9223372036854775807
theorem el25 {H : Type} {enc : TypeId × Value → H} : El enc Try.prog 25 k25 ok25 :=
 el_iso (fun x : S25 => (x.f0, x.f1, x.f2)) (fun p => ⟨p.1, p.2.1, p.2.2⟩) (fun _ => rfl)
  (el_struct3 Try.underlying25 (by kernel_rfl) rfl rfl rfl (by kernel_rfl) (by kernel_rfl) (by kernel_rfl) (el_int Try.underlying3) (el_int Try.underlying2) (el_string Try.underlying9))
def ok27 (x : S27) : Prop := x.f0.size ≤ 9223372036854775807 ∧ True ∧ ok25 x.f2
theorem el27 {H : Type} {enc : TypeId × Value → H} : El enc Try.prog 27 k27 ok27 :=
 el_iso (fun x : S27 => (x.f0, x.f1, x.f2)) (fun p => ⟨p.1, p.2.1, p.2.2⟩) (fun _ => rfl)
  (el_struct3 Try.underlying27 (by kernel_rfl) rfl rfl rfl (by kernel_rfl) (by kernel_rfl) (by kernel_rfl) (el_string Try.underlying9) (el_bool Try.underlying4) el25)
end Go.Proofs.Ytkhcmddeeodbkaa.O
namespace Go.Proofs.Ytkhcmddeeodbkaa.GL
open Go.RowKit Go.Proofs.YtkhcmddeeodbkaaW.PrintWords Go.Proofs.YtkhcmddeeodbkaaW.PrintLast Go.Proofs.YtkhcmddeeodbkaaW.PrintMore Go.Proofs.Ytkhcmddeeodbkaa.Q Go.Proofs.Ytkhcmddeeodbkaa.XSor Go.Proofs.Ytkhcmddeeodbkaa.G
theorem cut_p {s : ByteArray} (m : Nat) (w : World) : Calls Try.prog 12 #[.string s, .int .i64 (m : Int)] w fun e w' => e = .returned (.string (cutS m s)) ∧ Below w.heap.size w w' :=
 (loesslaw3_Cut.calls s (m : Int) _ w (cutS_eq m s)).mono (fun e w' ⟨h1, ⟨n, h2⟩⟩ => ⟨h1, by rw [h2]; exact pw_below_drewN (Below.refl _ _) n⟩)
theorem pairs_SmR {l : List Rc} (h : ∀ x ∈ l, I64 x.f2.f0 ∧ I64 x.f2.f1) : ∀ p ∈ pairsL l, SmR (recP p) := by
 intro p hp
 unfold pairsL at hp
 obtain ⟨x, hx, rfl⟩ := List.mem_map.1 hp
 have h1 := dedK_mem _ x ((ordK_mem _ x).1 hx)
 exact recsL_sm h 30 x (List.mem_filter.1 h1).1
theorem open_p {w : World} {A : Option Addr} {c : Nat} {L : List Pr} (hm : MayP L) (hsr : ∀ p ∈ L, SmR (recP p)) (hC : Kd.C (Kd.int .u8) w A (encP L).length (encP L)) (hc : (encP L).length ≤ c) :
    Calls Try.prog 22 #[.slice A (encP L).length c] w fun e w' => ∃ g, e = .returned (.tuple #[.pointer (some ⟨g, 0, none⟩), .int .i64 0]) ∧ SO w' g L ∧ Below w.heap.size w w' := by
 have hle : (encP L).length ≤ 80010 := by rw [← preP_all]; exact preP_len hm.1 hsr L.length
 have hop : OpenP (encP L) L := ⟨decP_enc hm (fun x hx => (hsr x hx).2.2.2), hm, rfl⟩
 refine (st_Open rfl hC hc (encP_byt _) (by omega)).mono ?_
 rintro e w' ⟨hb, ⟨L2, g, ho, h, hs⟩ | ⟨h, _⟩⟩
 · obtain rfl : L = L2 := Option.some.inj (hop.1.symm.trans ho.1)
   exact ⟨g, h, hs, hb⟩
 · exact absurd hop (h L)
theorem open_e {w : World} {A : Option Addr} {c : Nat} {L : List Pr} {E : List Int} (he : E = encP L) (hm : MayP L) (hsr : ∀ p ∈ L, SmR (recP p)) (hC : Kd.C (Kd.int .u8) w A E.length E) (hc : E.length ≤ c) :
    Calls Try.prog 22 #[.slice A E.length c] w fun e w' => ∃ g, e = .returned (.tuple #[.pointer (some ⟨g, 0, none⟩), .int .i64 0]) ∧ SO w' g L ∧ Below w.heap.size w w' := by
 subst he
 exact open_p hm hsr hC hc
set_option maxRecDepth 1000000 in
set_option maxHeartbeats 8000000 in
theorem SortedAll.core {w : World} {A0 : Option Addr} {n0 c0 : Nat} {l : List Rc} (ask : ByteArray) (hn : n0 = l.length) (hC : Kd.C k27 w A0 n0 l) (hc : n0 ≤ c0) (hl : ∀ y ∈ l, I64 y.f2.f0 ∧ I64 y.f2.f1) :
    Calls Try.prog 7 #[.slice A0 n0 c0, .string ask] w fun e w' => e = .returned (.bool true) ∧ Below w.heap.size w w' := by
 have HB := Aside0.mk (Below.refl w.heap.size w)
 have HC := Aside0.mk hC
 have HCC := Aside0.mk hc
 have HN := Aside0.mk hn
 have HCUT := Aside0.mk (cut_p (s := ask) 20)
 have HSR := Aside0.mk (pairs_SmR hl)
 have HMP := Aside0.mk (pairsL_may l)
 obtain ⟨a, ha⟩ : ∃ s, s = cutS 20 ask := ⟨_, rfl⟩
 have HA := Aside0.mk (show a.size < 17592186044416 by rw [ha]; exact Nat.lt_of_le_of_lt (cutS_size 20 ask) (by decide))
 rw [← ha] at HCUT
 obtain ⟨p, hp⟩ : ∃ p, p = pairsL l := ⟨_, rfl⟩
 have HPP := Aside0.mk hp
 rw [← hp] at HSR HMP
 obtain ⟨n, hnp⟩ : ∃ n, n = p.length := ⟨_, rfl⟩
 have HNP := Aside0.mk hnp
 obtain ⟨E, hE⟩ : ∃ E, E = encP p := ⟨_, rfl⟩
 have HE := Aside0.mk hE
 clear hn hC hc hl ha hp hnp hE
 go_enter Try.func7, Try.ntmps7
 go_wp2_with (first
  | (go_at_call 10; (with_reducible refine (st_begun _).mono ?_); rintro e w1 ⟨rfl, hb⟩; have n1_ := Aside0.mk (below_step HB.out hb); clear HB; have HB := n1_; clear n1_; clear hb)
  | (go_at_call 17; (with_reducible refine (st_Pairs HN.out (Kd.C_below HC.out HB.out) HCC.out).mono ?_); rintro e w2 ⟨v2, rfl, hR, hb⟩; rw [← HPP.out] at hR; obtain ⟨A2, c2, rfl, hn2, hC2⟩ := Kd.R_reads hR; rw [← HNP.out] at hn2 hC2 ⊢; have HP := Aside0.mk hC2; have HN2 := Aside0.mk hn2; have n1_ := Aside0.mk (below_step HB.out hb); clear HB; have HB := n1_; clear n1_; clear hb hR hn2 hC2)
  | (go_at_call 12; refine (HCUT.out _).mono ?_; rintro e w3 ⟨rfl, hb⟩; have n1_ := Aside0.mk (below_step HB.out hb); clear HB; have HB := n1_; clear n1_; have n2_ := Aside0.mk (Kd.C_below HP.out hb); clear HP; have HP := n2_; clear n2_; clear hb)
  | (go_at_call 13; refine (new_p (l := l) (by rw [← HPP.out]; exact HNP.out) (by rw [← HPP.out]; exact HP.out) HN2.out).mono ?_; rintro e w4 ⟨g, rfl, hs, hb⟩; rw [← HPP.out] at hs; have HS := Aside0.mk hs; have n1_ := Aside0.mk (below_step HB.out hb); clear HB; have HB := n1_; clear n1_; have n2_ := Aside0.mk (Kd.C_below HP.out hb); clear HP; have HP := n2_; clear n2_; clear hb hs)
  | (go_at_call 21; (with_reducible refine (law_right HS.out HNP.out HP.out HN2.out HMP.out HSR.out HA.out).mono ?_); rintro e w5 ⟨rfl, hb⟩; have n1_ := Aside0.mk (below_step HB.out hb); clear HB; have HB := n1_; clear n1_; have n2_ := Aside0.mk (Kd.C_below HP.out hb); clear HP; have HP := n2_; clear n2_; have n3_ := Aside0.mk (HS.out.below hb); clear HS; have HS := n3_; clear n3_; clear hb)
  | (go_at_call 23; (with_reducible refine (st_Bytes HS.out HSR.out).mono ?_); rintro e w6 ⟨v6, rfl, hR, hb⟩; rw [← HE.out] at hR; obtain ⟨A6, c6, rfl, hn6, hC6⟩ := Kd.R_reads hR; have HC6 := Aside0.mk hC6; have HN6 := Aside0.mk hn6; have n1_ := Aside0.mk (below_step HB.out hb); clear HB; have HB := n1_; clear n1_; have n2_ := Aside0.mk (Kd.C_below HP.out hb); clear HP; have HP := n2_; clear n2_; clear hb hR hn6 hC6)
  | (go_at_call 22; refine (open_e HE.out HMP.out HSR.out HC6.out HN6.out).mono ?_; rintro e w7 ⟨g2, rfl, hs, hb⟩; have HS2 := Aside0.mk hs; have n1_ := Aside0.mk (below_step HB.out hb); clear HB; have HB := n1_; clear n1_; have n2_ := Aside0.mk (Kd.C_below HP.out hb); clear HP; have HP := n2_; clear n2_; clear hb hs)
  | (go_at_call 21; (with_reducible refine (law_right HS2.out HNP.out HP.out HN2.out HMP.out HSR.out HA.out).mono ?_); rintro e w8 ⟨rfl, hb⟩; have n1_ := Aside0.mk (below_step HB.out hb); clear HB; have HB := n1_; clear n1_; clear hb))
 go_ret
 exact ⟨rfl, HB.out⟩
theorem SortedAll.walk (P : True) (a0 : Option Addr) (len0 cap0 : Nat) (z0 : List S27) (ask : ByteArray) (w : World) (w0 : O.IsRows k27 O.ok27 w a0 len0 cap0 z0) (w1 : ask.size ≤ 140737488351232) :
    Calls Try.prog 7 #[.slice a0 len0 cap0, .string ask] w fun e w' => e = .returned (.bool true) ∧ Below w.heap.size w w' := by
 obtain ⟨rfl, g1, g2, g3, g4⟩ := w0
 exact SortedAll.core ask rfl g3 g1 (fun y hy => ⟨wfI64 (g4 y hy).2.2.1, wfI64 (g4 y hy).2.2.2.1⟩)
end Go.Proofs.Ytkhcmddeeodbkaa.GL
