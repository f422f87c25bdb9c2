import Derived.Test.YtkhcmddeeodbkaaZSortedAll19
-- Own texts and, of the words that the kit's print program wrote for this claim, those that are needed here: put together by wip/prune.py.
set_option linter.unusedSimpArgs false
set_option linter.unusedVariables false
namespace Go.Proofs.Ytkhcmddeeodbkaa.GL
open Go.RowKit Go.Proofs.YtkhcmddeeodbkaaW.PrintWords Go.Proofs.YtkhcmddeeodbkaaW.PrintLast Go.Proofs.YtkhcmddeeodbkaaW.PrintMore Go.Proofs.Ytkhcmddeeodbkaa.Q Go.Proofs.Ytkhcmddeeodbkaa.XSor Go.Proofs.Ytkhcmddeeodbkaa.G
def z5 : Rc := ⟨⟨#[]⟩, false, ⟨0, 0, ⟨#[]⟩⟩⟩
theorem find_p {w : World} {A : Option Addr} {n c k : Nat} {L : List Rc} {key r1 r5 : ByteArray} {r2 r6 : Bool} {r3 r4 : Int} (hn : n = L.length) (hC : Kd.C k27 w A n L) (hc : n ≤ c) (h : loessref10_Find.f k L key = some (r1, r2, r3, r4, r5, r6)) :
    Calls Try.prog 63 #[.slice A n c, .string key] w fun e w' => e = .returned (.tuple #[.agg #[.string r1, .bool r2, .int .i64 r3, .int .i64 r4, .string r5], .bool r6]) ∧ Below w.heap.size w w' := by
 subst hn
 exact loessref10_Find.calls k A c L key r1 r2 r3 r4 r5 r6 w hC hc h
theorem put5 {W : World} {g o : Nat} {t : TypeId} {cl : List Value} (a b c d e : Value) (h : W.heap[g]? = some (.cells (List.toArray cl) t (0, 0))) :
    (((((W.setCell ⟨g, o, none⟩ a).setCell ⟨g, o + 1, none⟩ b).setCell ⟨g, o + 2, none⟩ c).setCell ⟨g, o + 3, none⟩ d).setCell ⟨g, o + 4, none⟩ e).heap[g]? = some (.cells (List.toArray (((((cl.set o a).set (o + 1) b).set (o + 2) c).set (o + 3) d).set (o + 4) e)) t (0, 0)) := by
 have st : ∀ (W : World) (cl : List Value) (i : Nat) (v : Value), W.heap[g]? = some (.cells (List.toArray cl) t (0, 0)) → (W.setCell ⟨g, i, none⟩ v).heap[g]? = some (.cells (List.toArray (cl.set i v)) t (0, 0)) := fun W cl i v h => by
  have := blk_put h i v rfl
  exact this.trans (by simp)
 exact st _ _ _ _ (st _ _ _ _ (st _ _ _ _ (st _ _ _ _ (st _ _ _ _ h))))
theorem bel5 {w W : World} {k o1 o2 o3 o4 o5 : Nat} {a b c d e : Value} (h : Below w.heap.size w W) (hk : w.heap.size ≤ k) : Below w.heap.size w (((((W.setCell ⟨k, o1, none⟩ a).setCell ⟨k, o2, none⟩ b).setCell ⟨k, o3, none⟩ c).setCell ⟨k, o4, none⟩ d).setCell ⟨k, o5, none⟩ e) := below_set (below_set (below_set (below_set (below_set h hk) hk) hk) hk) hk
theorem set5 {T D : List Rc} {z x : Rc} {o : Nat} (ho : o = T.length * 5) :
    (((((rowC (T ++ z :: D)).set o (.string x.f0)).set (o + 1) (.bool x.f1)).set (o + 2) (.int .i64 x.f2.f0)).set (o + 3) (.int .i64 x.f2.f1)).set (o + 4) (.string x.f2.f2) = rowC (T ++ x :: D) := by
 have e : ∀ y : Rc, rowC (T ++ y :: D) = rowC T ++ (rc5 y ++ rowC D) := fun y => by rw [rowC_append]; rfl
 have hl : (rowC T).length = o := by rw [rowC_len, ho]
 rw [e z, e x]
 have st : ∀ (M : List Value) (j : Nat) (v : Value), (rowC T ++ M).set (o + j) v = rowC T ++ M.set j v := fun M j v => by
  rw [List.set_append_right _ _ (by omega), hl, Nat.add_sub_cancel_left]
 have h0 := st (rc5 z ++ rowC D) 0 (.string x.f0)
 rw [Nat.add_zero] at h0
 rw [h0, st, st, st, st]
 rfl
theorem take5 {cl R : List Value} {k o : Nat} {a b c d e : Value} (h : cl.take k = R) : ((((((cl.set o a).set (o + 1) b).set (o + 2) c).set (o + 3) d).set (o + 4) e)).take k = ((((R.set o a).set (o + 1) b).set (o + 2) c).set (o + 3) d).set (o + 4) e := by
 rw [List.take_set, List.take_set, List.take_set, List.take_set, List.take_set, h]
theorem cutB5 (g cap m j : Nat) (hj : j ≤ m) (hc : m ≤ cap) : ∃ dp c1,
    (∀ W : World, (Instr.slice 39 (.slice (some ⟨g, 0, none⟩) m cap) (some (.int .i64 j)) none none).run Try.prog W = .ok (.slice dp (m - j) c1) W) ∧ (j < cap → dp = some ⟨g, j * 5, none⟩) := by
 obtain ⟨i0, hi0, _, hsz, _⟩ := info_parts info27
 have hcut := cut_from (P := Try.prog) 39 27 .i64 Try.underlying39 hi0 5 hsz (some ⟨g, 0, none⟩) m cap j (by omega) (by omega)
 refine ⟨(if cap = j then some ⟨g, 0, none⟩ else (some ⟨g, 0, none⟩ : Option Addr).map (·.add (j * 5))), cap - j, hcut, fun h => ?_⟩
 rw [if_neg (by omega)]
 simp only [Option.map_some, add_plain]
def InPost (w : World) (L : List Rc) (e : Ending) (w' : World) : Prop := ∃ v, e = .returned v ∧ Kd.R k27 27 w' w.heap.size (fun _ => True) v (ordK L) ∧ Below w.heap.size w w'
theorem R_lower {W : World} {b1 b2 : Nat} {v : Value} {L : List Rc} (h : Kd.R k27 27 W b1 (fun _ => True) v L) (hb : b2 ≤ b1) : Kd.R k27 27 W b2 (fun _ => True) v L := by
 obtain ⟨hok, inner, hown, hr⟩ := h
 have hin := rowC_of L inner hr.1 (fun j p hj => k27_openM (hr.2 j p hj))
 refine ⟨fun _ _ => trivial, inner, ?_, hr.1, fun j p hj => ?_⟩
 · obtain ⟨hl, h1⟩ := hown
   refine ⟨hl, ?_⟩
   rcases h1 with h1 | ⟨g, cap, cur, h2, hg, h3⟩
   · exact .inl h1
   · exact .inr ⟨g, cap, cur, h2, Nat.le_trans hb hg, h3⟩
 · have h1 := k27_openM (hr.2 j p hj)
   show Kd.M k27 W b2 _ p ((inner.drop (j * 5)).take 5)
   rw [show (inner.drop (j * 5)).take 5 = rc5 p from h1]
   exact k27_mkM W b2 _ p
theorem copyR {S : List Rc} {cl : List Value} {a n : Nat} (hn : n = S.length) (ha : a ≤ n) (ht : cl.take ((n + 1) * 5) = rowC (S ++ [z5])) : ∃ y, (splice cl ((a + 1) * 5) (rowC (S.drop a))).take ((n + 1) * 5) = rowC (S.take a ++ y :: S.drop a) := by
 have hl : a < (S ++ [z5]).length := by rw [List.length_append, List.length_singleton]; omega
 refine ⟨(S ++ [z5])[a], ?_⟩
 have h1 : cl.take ((a + 1) * 5) = rowC ((S ++ [z5]).take (a + 1)) := by
  have h2 : (cl.take ((n + 1) * 5)).take ((a + 1) * 5) = cl.take ((a + 1) * 5) := by rw [List.take_take, Nat.min_eq_left (by omega)]
  rw [← h2, ht]
  have h3 : rowC (S ++ [z5]) = rowC ((S ++ [z5]).take (a + 1)) ++ rowC ((S ++ [z5]).drop (a + 1)) := by rw [← rowC_append, List.take_append_drop]
  rw [h3, List.take_left' (by rw [rowC_len, List.length_take]; rw [Nat.min_eq_left (by omega)])]
 have hlen : (rowC ((S ++ [z5]).take (a + 1)) ++ rowC (S.drop a)).length = (n + 1) * 5 := by
  rw [List.length_append, rowC_len, rowC_len, List.length_take, List.length_drop, Nat.min_eq_left (by omega)]
  omega
 unfold splice
 rw [h1, ← List.append_assoc, List.take_append_of_le_length (Nat.le_of_eq hlen.symm), List.take_of_length_le (Nat.le_of_eq hlen), ← rowC_append]
 rw [List.take_succ_eq_append_getElem hl, List.take_append_of_le_length (by omega), List.append_assoc, List.singleton_append]
theorem cellsAt {S : List Rc} {cl : List Value} {a n : Nat} (hn : n = S.length) (ha : a ≤ n) (ht : cl.take ((n + 1) * 5) = rowC (S ++ [z5])) (j : Nat) (v : Value) (h : (rowC (S.drop a))[j]? = some v) : cl[a * 5 + j]? = some v := by
 have hj := (List.getElem?_eq_some_iff.1 h).1
 rw [rowC_len, List.length_drop] at hj
 have h1 : (cl.take ((n + 1) * 5))[a * 5 + j]? = cl[a * 5 + j]? := by rw [List.getElem?_take, if_pos (by omega)]
 rw [← h1, ht]
 have h2 : rowC (S ++ [z5]) = rowC (S.take a) ++ (rowC (S.drop a) ++ rowC [z5]) := by rw [← rowC_append, ← rowC_append, ← List.append_assoc, List.take_append_drop]
 have hl : (rowC (S.take a)).length = a * 5 := by rw [rowC_len, List.length_take, Nat.min_eq_left (by omega)]
 rw [h2, List.getElem?_append_right (by omega), hl, Nat.add_sub_cancel_left, List.getElem?_append_left (by rw [rowC_len, List.length_drop]; omega)]
 exact h
set_option maxRecDepth 1000000 in
set_option maxHeartbeats 8000000 in
theorem st_InOrder {w : World} {gS n c : Nat} {A : Option Addr} {L : List Rc} (hn : n = L.length) (hS : w.cell? ⟨gS, 0, none⟩ = some (.slice A n c)) (hC : Kd.C k27 w A n L) (hc : n ≤ c) (hl : n ≤ 60) (hk : ∀ r ∈ L, r.f0.size < 17592186044416) :
    Calls Try.prog 42 #[.slice (some ⟨gS, 0, none⟩) 1 1] w (InPost w L) := by
 have HN := Aside0.mk hn
 have HNL := Aside0.mk hl
 have HK := Aside0.mk hk
 have HC := Aside0.mk hC
 have HCC := Aside0.mk hc
 have HS := Aside0.mk hS
 have HB := Aside0.mk (Below.refl w.heap.size w)
 have hnz : (n : Int) ≤ 60 := by omega
 clear hn hS hC hc hk hl
 go_enter Try.func42, Try.ntmps42
 go_wp2
 go_loopw [3, 4] (fun v3 v4 wr => ∃ (s : Nat), v4 = .int .i64 s ∧ s ≤ 1 ∧ Aside0 (Kd.R k27 27 wr w.heap.size (fun _ => True) v3 (dedK (L.take (s * n)))) ∧ Aside0 (Below w.heap.size w wr)) (fun _ v _ => 1 - (intOf v).toNat)
 case atStart => exact ⟨0, by first | rfl | go_num, Nat.zero_le _, ⟨by rw [Nat.zero_mul]; exact Kd.R_nil _ _ _ _ _⟩, HB⟩
 case round =>
  clear HB
  obtain ⟨s, rfl, hs, HO, HB⟩ := hrel
  by_cases hs0 : s = 0
  · subst hs0
    rw [Nat.zero_mul] at HO
    clear hs
    go_wp2
    go_loopw [3, 5] (fun v3 v5 wx => ∃ (i : Nat), v5 = .int .i64 i ∧ i ≤ n ∧ Aside0 (Kd.R k27 27 wx w.heap.size (fun _ => True) v3 (dedK (L.take i))) ∧ Aside0 (Below w.heap.size w wx)) (fun _ v _ => n - (intOf v).toNat)
    case atStart => exact ⟨0, by first | rfl | go_num, Nat.zero_le _, HO, HB⟩
    case round =>
     clear HO HB
     obtain ⟨i, rfl, hi, HO, HB⟩ := hrel
     have hsx := (HB.out.cell (World.block_lt_of_cell? w _ HS.out)).trans HS.out
     obtain ⟨D, hD⟩ : ∃ D, D = dedK (L.take i) := ⟨_, rfl⟩
     rw [← hD] at HO
     obtain ⟨dn, hdn⟩ : ∃ m, m = D.length := ⟨_, rfl⟩
     have HDN := Aside0.mk hdn
     have HDL := Aside0.mk (show D.length ≤ 60 by
      have h1 := dedK_len (L.take i)
      have h2 := HNL.out
      rw [List.length_take] at h1
      rw [hD]
      omega)
     obtain ⟨A3, c3, rfl, hn3, hC3⟩ := Kd.R_reads HO.out
     rw [← hdn] at hn3 hC3 HO
     have HC3 := Aside0.mk hC3
     have HN3 := Aside0.mk hn3
     have HD := Aside0.mk hD
     rw [← hdn]
     clear hD hdn hn3 hC3
     by_cases hlt : i < n
     · have HLT := Aside0.mk hlt
       have hltz : (i : Int) < (n : Int) := by omega
       have hl1 : decide ((i : Int) < (n : Int)) = true := decide_eq_true hltz
       have hl2 := decide_eq_true hlt
       obtain ⟨ad, e, h0, h1, h2, h3, h4⟩ := at_T27 HC.out (i : Int) (Int.natCast_nonneg _) hltz
       cases e
       simp only [Int.toNat_natCast] at h0 h1 h2 h3 h4
       replace h0 := (HB.out.cell (World.block_lt_of_cell? w _ h0)).trans h0
       replace h1 := (HB.out.cell (World.block_lt_of_cell? w _ h1)).trans h1
       replace h2 := (HB.out.cell (World.block_lt_of_cell? w _ h2)).trans h2
       replace h3 := (HB.out.cell (World.block_lt_of_cell? w _ h3)).trans h3
       replace h4 := (HB.out.cell (World.block_lt_of_cell? w _ h4)).trans h4
       have HST := Aside0.mk (dedK_step (L := L) (i := i) (by rw [← HN.out]; exact hlt))
       rw [← HD.out] at HST
       obtain ⟨x, hx⟩ : ∃ x, x = rd_T27 L (i : Int) := ⟨_, rfl⟩
       rw [← hx] at h0 h1 h2 h3 h4
       have HST2 := Aside0.mk (show dedK (L.take (i + 1)) = addK D x by rw [hx]; exact HST.out)
       obtain ⟨kF, r1, r2, r3, r4, r5, hkF⟩ := find_any D x.f0 (by have := HDL.out; omega)
       obtain ⟨hk, hhk⟩ : ∃ b, b = hasK D x.f0 := ⟨_, rfl⟩
       rw [← hhk] at hkF
       have HKF := Aside0.mk hkF
       have HHK := Aside0.mk hhk
       have HW := Aside0.mk (Below.refl wr.heap.size wr)
       have HX := Aside0.mk (show wr = wr from rfl)
       clear hx hhk hkF hlt hi HST
       cases hk
       all_goals
        go_wp2_with (first
         | (go_at_call 63; refine (find_p HDN.out HC3.out HN3.out HKF.out).mono ?_; rintro e w2 ⟨rfl, hb⟩; have HW2 := Aside0.mk (below_step HW.out hb); clear HW hb; have HW := HW2; clear HW2)
         | ((with_reducible refine gate_dst (N := 6) rfl ?_); refine box_event ?hg (N := 6) ?hd (cs := #[.string ⟨#[]⟩, .bool false, .int .i64 0, .int .i64 0, .string ⟨#[]⟩]) (t := 27) ?hr ?_; (case hd => rfl); (case hg => rfl); (case hr => first | (go_simp; done) | (go_simp; rfl)); intro g6 hg w7 hbox hb; have G6 := Aside0.mk (show wr.heap.size ≤ g6 by have := HW.out.size; omega); have B6 := Aside0.mk hbox; have n1_ := Aside0.mk (show Below wr.heap.size wr w7 from below_step HW.out hb); clear HW hbox hg hb; have HW := n1_; clear n1_; have hs0 : w7.cell? ⟨g6, 0, none⟩ = some (.string ⟨#[]⟩) := (blk_cell B6.out 0).trans rfl; have hs1 : w7.cell? ⟨g6, 1, none⟩ = some (.bool false) := (blk_cell B6.out 1).trans rfl; have hs2 : w7.cell? ⟨g6, 2, none⟩ = some (.int .i64 0) := (blk_cell B6.out 2).trans rfl; have hs3 : w7.cell? ⟨g6, 3, none⟩ = some (.int .i64 0) := (blk_cell B6.out 3).trans rfl; have hs4 : w7.cell? ⟨g6, 4, none⟩ = some (.string ⟨#[]⟩) := (blk_cell B6.out 4).trans rfl; have hf0 := blk_frozen B6.out 0; have hf1 := blk_frozen B6.out 1; have hf2 := blk_frozen B6.out 2; have hf3 := blk_frozen B6.out 3; have hf4 := blk_frozen B6.out 4)
         | ((with_reducible refine gate_store (t := 27) (p := 6) rfl ?_); refine store_event (t := 27) (p := 6) (v := ?vo1) (w1 := (((((w7.setCell ⟨g6, 0, none⟩ (.string r1)).setCell ⟨g6, 1, none⟩ (.bool r2)).setCell ⟨g6, 2, none⟩ (.int .i64 r3)).setCell ⟨g6, 3, none⟩ (.int .i64 r4)).setCell ⟨g6, 4, none⟩ (.string r5))) ?hg ?ho ?hn ?hr ?_; (case ho => rfl); (case hg => rfl); (case hn => rfl); (case hr => first | (go_simp; done) | (go_simp; rfl)); intro w8 hw; have n1_ : Aside0 (Below wr.heap.size wr w8) := ⟨by rw [hw]; exact bel5 HW.out G6.out⟩; clear HW B6 hs0 hs1 hs2 hs3 hs4 hf0 hf1 hf2 hf3 hf4 hw; have HW := n1_; clear n1_; have hsx8 := (HW.out.cell (World.block_lt_of_cell? wr _ hsx)).trans hsx; have h08 := (HW.out.cell (World.block_lt_of_cell? wr _ h0)).trans h0; have h18 := (HW.out.cell (World.block_lt_of_cell? wr _ h1)).trans h1; have h28 := (HW.out.cell (World.block_lt_of_cell? wr _ h2)).trans h2; have h38 := (HW.out.cell (World.block_lt_of_cell? wr _ h3)).trans h3; have h48 := (HW.out.cell (World.block_lt_of_cell? wr _ h4)).trans h4)
         | ((with_reducible refine gate_builtin (b := .append) (xs := #[.tmp 41, .tmp 49]) rfl ?_); at_builtin; refine Kd.R_append k27 (w0 := w) w.heap.size rfl (.tmp 41) (.tmp 49) 39 27 (.agg #[(.string ⟨#[]⟩), (.bool false), (.int .i64 0), (.int .i64 0), (.string ⟨#[]⟩)]) 56 rfl Try.underlying39 info27 rfl (by decide) (by omega) (.slice A3 dn c3) D x [.string x.f0, .bool x.f1, .int .i64 x.f2.f0, .int .i64 x.f2.f1, .string x.f2.f2] (fun _ => True) (fun _ => False) rfl rfl ?aP (fun _ hk => hk.elim) ?aF ?aO ?aB ?aS ?aL ?_; (case aP => exact k27_mkM _ _ _ x); (case aB => exact below_step HB.out HW.out); (case aF => exact (fun _ _ => trivial)); (case aO => exact Kd.R_below HO.out HW.out); (case aS => exact below_size (below_step HB.out HW.out)); (case aL => have := HDL.out; omega); intro v1 w9 ho hb hg hat; have HB9 := Aside0.mk hb; have HO9 := Aside0.mk ho; clear ho hb hg hat))
       · go_roundw
         case rel => (repeat apply Exists.intro); refine ⟨?_, rfl⟩; exact ⟨i + 1, by first | rfl | go_num, by have := HLT.out; omega, ⟨by rw [HST2.out]; unfold addK; rw [if_neg (by rw [← HHK.out]; exact Bool.false_ne_true)]; exact HO9.out⟩, HB9⟩
         case measure => have := HLT.out; simp [intOf]; omega
       · go_roundw
         case rel => (repeat apply Exists.intro); refine ⟨?_, rfl⟩; exact ⟨i + 1, by first | rfl | go_num, by have := HLT.out; omega, ⟨by rw [HST2.out]; unfold addK; rw [if_pos HHK.out.symm]; exact Kd.R_below HO.out HW.out⟩, ⟨below_step HB.out HW.out⟩⟩
         case measure => have := HLT.out; simp [intOf]; omega
     · have hin : i = n := by omega
       have hl1 : decide ((i : Int) < (n : Int)) = false := decide_eq_false (by omega)
       have hl2 := decide_eq_false hlt
       have HDD := Aside0.mk (show dedK (L.take (1 * n)) = D by rw [HD.out, hin, Nat.one_mul])
       clear hin hlt hi
       go_wp2
       refine ⟨⟨1, by first | rfl | go_num, Nat.le_refl _, ⟨by rw [HDD.out]; exact HO.out⟩, HB⟩, ?_⟩
       simp [intOf]
  · obtain rfl : s = 1 := by omega
    clear hs0 hs
    have HDD := Aside0.mk (show dedK (L.take (1 * n)) = dedK L by rw [Nat.one_mul, HN.out, List.take_length])
    rw [HDD.out] at HO
    obtain ⟨D, hD⟩ : ∃ D, D = dedK L := ⟨_, rfl⟩
    rw [← hD] at HO
    obtain ⟨dn, hdn⟩ : ∃ m, m = D.length := ⟨_, rfl⟩
    have HDN := Aside0.mk hdn
    have HDL := Aside0.mk (show D.length ≤ 60 by
     have h1 := dedK_len L
     have h2 := HNL.out
     rw [← HN.out] at h1
     rw [hD]
     omega)
    obtain ⟨A3, c3, rfl, hn3, hC3⟩ := Kd.R_reads HO.out
    rw [← hdn] at hn3 hC3
    have HC3 := Aside0.mk hC3
    have HN3 := Aside0.mk hn3
    have HD := Aside0.mk hD
    have hdz : (dn : Int) ≤ 60 := by have := HDL.out; omega
    rw [← hdn]
    have HW := Aside0.mk (Below.refl wr.heap.size wr)
    have HKD := Aside0.mk (show ∀ r ∈ D, r.f0.size < 17592186044416 from fun r hr => HK.out r (dedK_mem L r (by rw [← hD]; exact hr)))
    clear hD hdn hn3 hC3 HO HDD
    go_wp2
    obtain ⟨w5, rfl⟩ : ∃ w5, w5 = wr := ⟨_, rfl⟩
    go_loopw [8, 9] (fun v8 v9 wy => ∃ (i : Nat), v9 = .int .i64 i ∧ i ≤ dn ∧ Aside0 (Kd.R k27 27 wy w5.heap.size (fun _ => True) v8 (ordN D i)) ∧ Aside0 (Below w5.heap.size w5 wy)) (fun _ v _ => dn - (intOf v).toNat)
    case atStart => exact ⟨0, by first | rfl | go_num, Nat.zero_le _, ⟨Kd.R_nil _ _ _ _ _⟩, HW⟩
    case round =>
     clear HW
     obtain ⟨i, rfl, hi, HO, HW⟩ := hrel
     by_cases hlt : i < dn
     · obtain ⟨S, hS⟩ : ∃ S, S = ordN D i := ⟨_, rfl⟩
       have HSL := Aside0.mk (show i = S.length by rw [hS]; exact (ordN_len D i (by rw [← HDN.out]; exact hi)).symm)
       rw [← hS] at HO
       have HSS := Aside0.mk hS
       have HKS := Aside0.mk (show ∀ r ∈ S, r.f0.size < 17592186044416 from fun r hr => HKD.out r (List.mem_of_mem_take ((ordN_mem D i (by rw [← HDN.out]; exact hi) r).1 (by rw [← hS]; exact hr))))
       obtain ⟨A8, c8, rfl, hn8, hC8⟩ := Kd.R_reads HO.out
       rw [← HSL.out] at hn8 hC8 HO ⊢
       have HC8 := Aside0.mk hC8
       have HN8 := Aside0.mk hn8
       have HIL := Aside0.mk (show i < dn ∧ dn ≤ 60 from ⟨hlt, by have := HDL.out; have := HDN.out; omega⟩)
       have hiz : (i : Int) < 60 := by have := HIL.out; omega
       have hltz : (i : Int) < (dn : Int) := by omega
       have hl1 : decide ((i : Int) < (dn : Int)) = true := decide_eq_true hltz
       have hl2 := decide_eq_true hlt
       have HST := Aside0.mk (ordN_step (D := D) (i := i) (by rw [← HDN.out]; exact hlt))
       obtain ⟨ad, e, h0, h1, h2, h3, h4⟩ := at_T27 HC3.out (i : Int) (Int.natCast_nonneg _) hltz
       cases e
       simp only [Int.toNat_natCast] at h0 h1 h2 h3 h4
       obtain ⟨x, hx⟩ : ∃ x, x = rd_T27 D (i : Int) := ⟨_, rfl⟩
       rw [← hx] at h0 h1 h2 h3 h4
       have HX5 := Aside0.mk (fun (W : World) (hb : Below w5.heap.size w5 W) => (⟨(hb.cell (World.block_lt_of_cell? w5 _ h0)).trans h0, (hb.cell (World.block_lt_of_cell? w5 _ h1)).trans h1, (hb.cell (World.block_lt_of_cell? w5 _ h2)).trans h2, (hb.cell (World.block_lt_of_cell? w5 _ h3)).trans h3, (hb.cell (World.block_lt_of_cell? w5 _ h4)).trans h4⟩ : W.cell? (ad.add (i * 5)) = some (.string x.f0) ∧ W.cell? ⟨(ad.add (i * 5)).block, (ad.add (i * 5)).off + 1, none⟩ = some (.bool x.f1) ∧ W.cell? ⟨(ad.add (i * 5)).block, (ad.add (i * 5)).off + 2, none⟩ = some (.int .i64 x.f2.f0) ∧ W.cell? ⟨(ad.add (i * 5)).block, (ad.add (i * 5)).off + 3, none⟩ = some (.int .i64 x.f2.f1) ∧ W.cell? ⟨(ad.add (i * 5)).block, (ad.add (i * 5)).off + 4, none⟩ = some (.string x.f2.f2)))
       have HKX := Aside0.mk (show x.f0.size < 17592186044416 from HKD.out x (by rw [hx]; exact rr_mem (by rw [← HDN.out]; exact hlt)))
       have HOI := Aside0.mk (show ordN D (i + 1) = insK S x by rw [HST.out, hx, HSS.out])
       clear hx hS hn8 hC8 hlt hi HST h0 h1 h2 h3 h4
       go_wp2
       obtain ⟨w6, rfl⟩ : ∃ w6, w6 = wr := ⟨_, rfl⟩
       go_loopw [10] (fun v10 wz => ∃ (a : Nat), v10 = .int .i64 a ∧ a ≤ i ∧ Aside0 (posK S x i = posK S x a) ∧ Aside0 (Below w6.heap.size w6 wz)) (fun v _ => (intOf v).toNat)
       case atStart => exact ⟨i, by first | rfl | go_num, Nat.le_refl _, ⟨rfl⟩, ⟨Below.refl _ _⟩⟩
       case round =>
        obtain ⟨a, rfl, ha, HPK, HZ⟩ := hrel
        have HAI := Aside0.mk ha
        have HW6 := Aside0.mk (below_step HW.out HZ.out)
        have HO6 := Aside0.mk (Kd.R_below HO.out HZ.out)
        have haz : (a : Int) < 60 := by have := HIL.out; omega
        by_cases ha0 : a = 0
        · have hz : decide ((0 : Int) < (a : Int)) = false := decide_eq_false (by omega)
          have hz2 : decide (0 < a) = false := decide_eq_false (by omega)
          have HPA := Aside0.mk (show posK S x i = a by rw [HPK.out, ha0]; rfl)
          clear ha0 ha HPK
          go_wp2
          go_quiet (fail)
          rename_i nq
          have HW7 := Aside0.mk (below_step HW6.out (pw_below_drewN (Below.refl wr.heap.size wr) nq))
          have HO7 := Aside0.mk (Kd.R_below HO6.out (pw_below_drewN (Below.refl wr.heap.size wr) nq))
          obtain ⟨w7, hw7⟩ : ∃ W, W = wr.drewN nq := ⟨_, rfl⟩
          rw [← hw7] at HW7 HO7 ⊢
          clear hw7 HW6 HO6 HZ hz hz2
          have HT1 := Aside0.mk (show (S ++ [z5]).length = i + 1 by rw [List.length_append, List.length_singleton, ← HSL.out])
          obtain ⟨n1, hn1⟩ : ∃ n1, n1 = i + 1 := ⟨_, rfl⟩
          rw [← hn1] at HT1
          have HN1 := Aside0.mk hn1
          have HCAP := Aside0.mk (show (S.length + 1) * 56 ≤ 140737488355328 by have := HSL.out; have := HIL.out; omega)
          clear hn1
          go_wp2_with (first
           | ((with_reducible refine gate_builtin (b := .append) (xs := #[.tmp 77, .tmp 79]) rfl ?_); at_builtin; refine Kd.R_append k27 (w0 := w5) w5.heap.size rfl (.tmp 77) (.tmp 79) 39 27 (.agg #[(.string ⟨#[]⟩), (.bool false), (.int .i64 0), (.int .i64 0), (.string ⟨#[]⟩)]) 56 rfl Try.underlying39 info27 rfl (by decide) (by omega) (.slice _ i c8) S z5 [.string ⟨#[]⟩, .bool false, .int .i64 0, .int .i64 0, .string ⟨#[]⟩] (fun _ => True) (fun _ => False) rfl rfl ?aP (fun _ hk => hk.elim) ?aF ?aO ?aB ?aS ?aL ?_; (case aP => exact k27_mkM _ _ _ z5); (case aB => exact HW7.out); (case aF => exact (fun _ _ => trivial)); (case aO => exact HO7.out); (case aS => exact below_size HW7.out); (case aL => have := HCAP.out; omega); intro v1 w8 ho hb hg hat; obtain ⟨g, cap, cl, hv1, hgb, hh, hnc, hcm, hcs, ht⟩ := R_cells ho (by rw [HT1.out, HN1.out]; omega); rw [HT1.out] at hv1 hnc ht; subst hv1; have HB8 := Aside0.mk hb; have HGB := Aside0.mk hgb; have HH := Aside0.mk hh; have HNC := Aside0.mk hnc; have HCM := Aside0.mk hcm; have HCS2 := Aside0.mk hcs; have HTK := Aside0.mk ht; clear ho hb hg hat hgb hh hnc hcm hcs ht))
          obtain ⟨dp, c1, hr1, hd1⟩ := cutB5 g cap n1 (a + 1) (by have := HN1.out; have := HAI.out; omega) HNC.out
          obtain ⟨sp, c2, hr2, hd2⟩ := cutB5 g cap n1 a (by have := HN1.out; have := HAI.out; omega) HNC.out
          obtain ⟨m1, hm1⟩ : ∃ m, m = n1 - (a + 1) := ⟨_, rfl⟩
          obtain ⟨m2, hm2⟩ : ∃ m, m = n1 - a := ⟨_, rfl⟩
          obtain ⟨a1, ha1'⟩ : ∃ a1, a1 = a + 1 := ⟨_, rfl⟩
          rw [← hm1, ← ha1'] at hr1
          rw [← hm2] at hr2
          have hwr : IntKind.i64.wrap ((a : Int) + 1) = (a1 : Int) := by rw [ha1']; exact (i64_w _).trans ((w64 (by omega) (by omega)).trans rfl)
          have ha1z : (a1 : Int) ≤ 61 := by omega
          obtain ⟨cs, hcsd⟩ : ∃ cs : List Value, cs = rowC (S.drop a) := ⟨_, rfl⟩
          have HMM := Aside0.mk (show i - a = Nat.min m2 m1 by have := HN1.out; have := HAI.out; show _ = min _ _; omega)
          have HCN := Aside0.mk (show cs.length = (i - a) * 5 by rw [hcsd, rowC_len, List.length_drop, ← HSL.out])
          have HFIT := Aside0.mk (show a1 * 5 + cs.length ≤ cl.length by have := HCN.out; have := HCS2.out; have := HNC.out; have := HN1.out; have := HAI.out; omega)
          have HONE := Aside0.mk (show ∀ v ∈ cs, v.oneCell' = true by rw [hcsd]; exact rowC_one _)
          have HH1 := Aside0.mk (show w8.drew.heap[g]? = some (.cells cl.toArray 27 (0, 0)) from HH.out)
          have HTK1 := Aside0.mk (show cl.take ((i + 1) * 5) = rowC (S ++ [z5]) by rw [← HN1.out]; exact HTK.out)
          have HPOS := Aside0.mk (show 0 < i - a → dp = some ⟨g, a1 * 5, none⟩ ∧ ∃ ad, sp = some ad ∧ ∀ j v, cs[j]? = some v → w8.drew.cell? (ad.add j) = some v by
           intro hp
           have hcap : n1 ≤ cap := HNC.out
           refine ⟨by rw [ha1']; exact hd1 (by have := HN1.out; omega), ⟨g, a * 5, none⟩, hd2 (by have := HN1.out; omega), fun j v hj => ?_⟩
           rw [hcsd] at hj
           have h1 := cellsAt HSL.out HAI.out HTK1.out j v hj
           rw [Addr.add_lit]
           refine (blk_cell HH1.out (a * 5 + j)).trans ?_
           simpa using h1)
          have HBD := Aside0.mk (show Below w5.heap.size w5 w8.drew from HB8.out.drew)
          obtain ⟨y9, hROW⟩ := copyR HSL.out HAI.out HTK1.out
          rw [← ha1', ← hcsd, ← HN1.out] at hROW
          have HROW := Aside0.mk hROW
          have HA1 := Aside0.mk ha1'
          have hazn : (a : Int) < (n1 : Int) := by have := HN1.out; have := HAI.out; omega
          have hazn2 : a < n1 := by omega
          have HAZ := Aside0.mk hazn
          clear hcsd hROW hd1 hd2 hm1 hm2 ha1'
          go_region_law (refine step_copyN rfl (.tmp 84) (.tmp 87) 39 39 rfl 27 5 Try.underlying39 (by kernel_rfl) (by decide) dp sp m1 c1 m2 c2 (by simp [Act.eval, Act.put]) (by simp [Act.eval, Act.put]) g (a1 * 5) cl 27 HH1.out cs (i - a) HMM.out HCN.out HPOS.out HFIT.out HONE.out w5.heap.size w5 HBD.out HGB.out ?_; intro w4 hg4 hb4 ho4 hs4)
          all_goals
           obtain ⟨cl4, hcl4⟩ : ∃ l, l = splice cl (a1 * 5) cs := ⟨_, rfl⟩
           have HG4 := Aside0.mk (show w4.heap[g]? = some (.cells (List.toArray cl4) 27 (0, 0)) by rw [hcl4]; first | exact hg4 | exact hg4.out)
           have HB4 := Aside0.mk (show Below w5.heap.size w5 w4 by first | exact hb4 | exact hb4.out)
           have HL4 := Aside0.mk (show cl4.length = cap * 5 by rw [hcl4, length_splice _ _ _ HFIT.out]; exact HCS2.out)
           have HT4 := Aside0.mk (show cl4.take (n1 * 5) = rowC (S.take a ++ y9 :: S.drop a) by rw [hcl4]; exact HROW.out)
           have hlt4 : a * 5 + 4 < cl4.length := by have := HL4.out; have := HNC.out; omega
           obtain ⟨o0, p0⟩ : ∃ v, w4.cell? ⟨g, a * 5, none⟩ = some v := ⟨_, (blk_cell HG4.out (a * 5)).trans (by rw [List.getElem?_toArray]; exact List.getElem?_eq_getElem (by omega))⟩
           obtain ⟨o1, p1⟩ : ∃ v, w4.cell? ⟨g, a * 5 + 1, none⟩ = some v := ⟨_, (blk_cell HG4.out (a * 5 + 1)).trans (by rw [List.getElem?_toArray]; exact List.getElem?_eq_getElem (by omega))⟩
           obtain ⟨o2, p2⟩ : ∃ v, w4.cell? ⟨g, a * 5 + 2, none⟩ = some v := ⟨_, (blk_cell HG4.out (a * 5 + 2)).trans (by rw [List.getElem?_toArray]; exact List.getElem?_eq_getElem (by omega))⟩
           obtain ⟨o3, p3⟩ : ∃ v, w4.cell? ⟨g, a * 5 + 3, none⟩ = some v := ⟨_, (blk_cell HG4.out (a * 5 + 3)).trans (by rw [List.getElem?_toArray]; exact List.getElem?_eq_getElem (by omega))⟩
           obtain ⟨o4, p4⟩ : ∃ v, w4.cell? ⟨g, a * 5 + 4, none⟩ = some v := ⟨_, (blk_cell HG4.out (a * 5 + 4)).trans (by rw [List.getElem?_toArray]; exact List.getElem?_eq_getElem (by omega))⟩
           have f0 := blk_frozen HG4.out (a * 5)
           have f1 := blk_frozen HG4.out (a * 5 + 1)
           have f2 := blk_frozen HG4.out (a * 5 + 2)
           have f3 := blk_frozen HG4.out (a * 5 + 3)
           have f4 := blk_frozen HG4.out (a * 5 + 4)
           obtain ⟨k0, k1, k2, k3, k4⟩ := HX5.out w4 HB4.out
           clear hlt4 hcl4 hg4 hb4 ho4 hs4 hr1 hr2 hwr HPOS HH1 HBD
           go_wp2_with (first
            | ((with_reducible refine gate_store (t := 27) (p := 95) rfl ?_); refine store_event (t := 27) (p := 95) (v := ?vo2) (w1 := (((((w4.setCell ⟨g, a * 5, none⟩ (.string x.f0)).setCell ⟨g, a * 5 + 1, none⟩ (.bool x.f1)).setCell ⟨g, a * 5 + 2, none⟩ (.int .i64 x.f2.f0)).setCell ⟨g, a * 5 + 3, none⟩ (.int .i64 x.f2.f1)).setCell ⟨g, a * 5 + 4, none⟩ (.string x.f2.f2))) ?hg ?ho ?hn ?hr ?_; (case ho => rfl); (case hg => rfl); (case hn => rfl); (case hr => first | (go_simp; done) | (go_simp; rfl)); intro w9 hw; have HB9 : Aside0 (Below w5.heap.size w5 w9) := ⟨by rw [hw]; exact bel5 HB4.out HGB.out⟩; have HG9 : Aside0 (w9.heap[g]? = some (.cells (List.toArray (((((cl4.set (a * 5) (.string x.f0)).set (a * 5 + 1) (.bool x.f1)).set (a * 5 + 2) (.int .i64 x.f2.f0)).set (a * 5 + 3) (.int .i64 x.f2.f1)).set (a * 5 + 4) (.string x.f2.f2))) 27 (0, 0))) := ⟨by rw [hw]; exact put5 _ _ _ _ _ HG4.out⟩; clear hw p0 p1 p2 p3 p4 f0 f1 f2 f3 f4 k0 k1 k2 k3 k4))
           have HIN : Aside0 (insK S x = S.take a ++ x :: S.drop a) := ⟨by unfold insK; rw [← HSL.out, HPA.out]⟩
           have HIL2 : Aside0 ((insK S x).length = n1) := ⟨by rw [insK_len, ← HSL.out]; exact HN1.out.symm⟩
           have HR9 : Aside0 (Kd.R k27 27 w9 w5.heap.size (fun _ => True) (.slice (some ⟨g, 0, none⟩) n1 cap) (insK S x)) := ⟨by
            have h1 := R_of_cells (L := insK S x) HGB.out HG9.out (by rw [HIL2.out]; exact HNC.out) HCM.out (by simp only [List.length_set]; exact HL4.out) (by
             rw [HIL2.out, take5 HT4.out, HIN.out]
             exact set5 (by rw [List.length_take, ← HSL.out, Nat.min_eq_left HAI.out]))
            rw [HIL2.out] at h1
            exact h1⟩
           go_roundw
           case rel => (repeat apply Exists.intro); refine ⟨?_, rfl⟩; exact ⟨i + 1, by first | rfl | go_num, by have := HIL.out; omega, ⟨by rw [HOI.out]; exact HR9.out⟩, HB9⟩
           case measure => have := HIL.out; simp [intOf]; omega
        · obtain ⟨b, hab⟩ : ∃ b, b + 1 = a := ⟨a - 1, by omega⟩
          have hz : decide ((0 : Int) < (a : Int)) = true := decide_eq_true (by omega)
          have hz2 : decide (0 < a) = true := decide_eq_true (by omega)
          have hwb : IntKind.i64.wrap ((a : Int) - 1) = (b : Int) := by rw [i64_w, w64 (by omega) (by omega)]; omega
          have hbz : (b : Int) < (i : Int) := by omega
          have hb0 : (0 : Int) ≤ (b : Int) := by omega
          have HAB := Aside0.mk hab
          have HBI := Aside0.mk (show b < S.length by rw [← HSL.out]; omega)
          obtain ⟨ad8, e8, hy0, _, _, _, _⟩ := at_T27 HC8.out (b : Int) (Int.natCast_nonneg _) hbz
          cases e8
          simp only [Int.toNat_natCast] at hy0
          replace hy0 := (HZ.out.cell (World.block_lt_of_cell? w6 _ hy0)).trans hy0
          have h0 := (HX5.out wr HW6.out).1
          obtain ⟨y, hy⟩ : ∃ y, y = rd_T27 S (b : Int) := ⟨_, rfl⟩
          rw [← hy] at hy0
          have HKY := Aside0.mk (show y.f0.size < 17592186044416 from HKS.out y (by rw [hy]; exact rr_mem HBI.out))
          obtain ⟨kL, hkL⟩ := (refLess_ev HKX.out HKY.out).rounds
          obtain ⟨lt, hlt⟩ : ∃ b, b = ltK x.f0 y.f0 := ⟨_, rfl⟩
          rw [← hlt] at hkL
          have HKL := Aside0.mk hkL
          have HPB := Aside0.mk (show posK S x a = if lt = true then posK S x b else a by rw [← hab, hlt, hy]; rfl)
          have HV := Aside0.mk (Below.refl wr.heap.size wr)
          clear ha0 ha hy hkL hlt hab
          cases lt with
          | true =>
            go_wp2
            refine start_ (n := 16) (S := fun w' => w'.cell? (ad.add (i * 5)) = some (.string x.f0) ∧ w'.cell? (ad8.add (b * 5)) = some (.string y.f0)) (ds := []) #[false, false, false, false, false, false, false, false, false, false, false, false, false, false, false, false] (by kernel_rfl) rfl rfl ⟨((HV.out.drew.cell (World.block_lt_of_cell? wr _ h0)).trans h0), ((HV.out.drew.cell (World.block_lt_of_cell? wr _ hy0)).trans hy0)⟩ (fun hHeld => ?_)
            refine pure_ (i := 0) (N := some 59) (v := ?_) (a' := ?_) #[true, false, false, false, false, false, false, false, false, false, false, false, false, false, false, false] rfl rfl (by kernel_rfl) (fun _ _ _ h => h) (Or.inl ⟨by rfl, ?_⟩) ?_ ?_
            rotate_left
            · intro w'
              go_simp
              with_reducible rfl
            rotate_left
            · simp only [Act.put, List.setIfInBounds_toArray, List.set_cons_zero, List.set_cons_succ, i64_w, i32_w]
              rfl
            refine pure_ (i := 1) (N := some 60) (v := ?_) (a' := ?_) #[true, true, false, false, false, false, false, false, false, false, false, false, false, false, false, false] rfl rfl (by kernel_rfl) (fun _ _ _ h => h) (Or.inl ⟨by rfl, ?_⟩) ?_ ?_
            rotate_left
            · intro w'
              go_simp
              with_reducible rfl
            rotate_left
            · simp only [Act.put, List.setIfInBounds_toArray, List.set_cons_zero, List.set_cons_succ, i64_w, i32_w]
              rfl
            refine pure_ (i := 2) (N := some 61) (v := ?_) (a' := ?_) #[true, true, true, false, false, false, false, false, false, false, false, false, false, false, false, false] rfl rfl (by kernel_rfl) (fun _ _ _ h => h) (Or.inl ⟨by rfl, ?_⟩) ?_ ?_
            rotate_left
            · intro w'
              go_simp
              with_reducible rfl
            rotate_left
            · simp only [Act.put, List.setIfInBounds_toArray, List.set_cons_zero, List.set_cons_succ, i64_w, i32_w]
              rfl
            refine pure_ (i := 3) (N := some 62) (v := ?_) (a' := ?_) #[true, true, true, true, false, false, false, false, false, false, false, false, false, false, false, false] rfl rfl (by kernel_rfl) (fun _ _ _ h => h) (Or.inl ⟨by rfl, ?_⟩) ?_ ?_
            rotate_left
            · intro w'
              go_simp
              with_reducible rfl
            rotate_left
            · simp only [Act.put, List.setIfInBounds_toArray, List.set_cons_zero, List.set_cons_succ, i64_w, i32_w]
              rfl
            refine pure_ (i := 4) (N := some 63) (v := ?_) (a' := ?_) #[true, true, true, true, true, false, false, false, false, false, false, false, false, false, false, false] rfl rfl (by kernel_rfl) (fun _ _ _ h => h) (Or.inl ⟨by rfl, ?_⟩) ?_ ?_
            rotate_left
            · intro w'
              go_simp
              with_reducible rfl
            rotate_left
            · simp only [Act.put, List.setIfInBounds_toArray, List.set_cons_zero, List.set_cons_succ, i64_w, i32_w]
              rfl
            refine pure_ (i := 5) (N := some 64) (v := ?_) (a' := ?_) #[true, true, true, true, true, true, false, false, false, false, false, false, false, false, false, false] rfl rfl (by kernel_rfl) (fun _ _ _ h => h) (Or.inl ⟨by rfl, ?_⟩) ?_ ?_
            rotate_left
            · intro w'
              go_simp
              with_reducible rfl
            rotate_left
            · simp only [Act.put, List.setIfInBounds_toArray, List.set_cons_zero, List.set_cons_succ, i64_w, i32_w]
              rfl
            refine pure_ (i := 6) (N := some 65) (v := ?_) (a' := ?_) #[true, true, true, true, true, true, true, false, false, false, false, false, false, false, false, false] rfl rfl (by kernel_rfl) (fun _ _ _ h => h) (Or.inl ⟨by rfl, ?_⟩) ?_ ?_
            rotate_left
            · intro w'
              go_simp
              with_reducible rfl
            rotate_left
            · simp only [Act.put, List.setIfInBounds_toArray, List.set_cons_zero, List.set_cons_succ, i64_w, i32_w]
              rfl
            refine pure_ (i := 8) (N := some 67) (v := ?_) (a' := ?_) #[true, true, true, true, true, true, true, false, true, false, false, false, false, false, false, false] rfl rfl (by kernel_rfl) (fun _ _ _ h => h) (Or.inl ⟨by rfl, ?_⟩) ?_ ?_
            rotate_left
            · intro w'
              go_simp
              with_reducible rfl
            rotate_left
            · simp only [Act.put, List.setIfInBounds_toArray, List.set_cons_zero, List.set_cons_succ, i64_w, i32_w]
              rfl
            refine pure_ (i := 9) (N := some 68) (v := ?_) (a' := ?_) #[true, true, true, true, true, true, true, false, true, true, false, false, false, false, false, false] rfl rfl (by kernel_rfl) (fun _ _ _ h => h) (Or.inl ⟨by rfl, ?_⟩) ?_ ?_
            rotate_left
            · intro w'
              go_simp
              with_reducible rfl
            rotate_left
            · simp only [Act.put, List.setIfInBounds_toArray, List.set_cons_zero, List.set_cons_succ, i64_w, i32_w]
              rfl
            refine pure_ (i := 10) (N := some 69) (v := ?_) (a' := ?_) #[true, true, true, true, true, true, true, false, true, true, true, false, false, false, false, false] rfl rfl (by kernel_rfl) (fun _ _ _ h => h) (Or.inl ⟨by rfl, ?_⟩) ?_ ?_
            rotate_left
            · intro w'
              go_simp
              with_reducible rfl
            rotate_left
            · simp only [Act.put, List.setIfInBounds_toArray, List.set_cons_zero, List.set_cons_succ, i64_w, i32_w]
              rfl
            refine pure_ (i := 11) (N := some 70) (v := ?_) (a' := ?_) #[true, true, true, true, true, true, true, false, true, true, true, true, false, false, false, false] rfl rfl (by kernel_rfl) (fun _ _ _ h => h) (Or.inl ⟨by rfl, ?_⟩) ?_ ?_
            rotate_left
            · intro w'
              go_simp
              with_reducible rfl
            rotate_left
            · simp only [Act.put, List.setIfInBounds_toArray, List.set_cons_zero, List.set_cons_succ, i64_w, i32_w]
              rfl
            refine pure_ (i := 12) (N := some 71) (v := ?_) (a' := ?_) #[true, true, true, true, true, true, true, false, true, true, true, true, true, false, false, false] rfl rfl (by kernel_rfl) (fun _ _ _ h => h) (Or.inl ⟨by rfl, ?_⟩) ?_ ?_
            rotate_left
            · intro w'
              go_simp
              with_reducible rfl
            rotate_left
            · simp only [Act.put, List.setIfInBounds_toArray, List.set_cons_zero, List.set_cons_succ, i64_w, i32_w]
              rfl
            refine take_ (i := 7) (N := some 66) (v := ?_) (a' := ?_) #[true, true, true, true, true, true, true, true, true, true, true, true, true, false, false, false] rfl rfl (by kernel_rfl) (fun _ _ _ h => h) (Or.inl ⟨by rfl, ?_⟩) hHeld ?_ ?_
            rotate_left
            · rintro w' ⟨s0, s1⟩
              go_simp
              with_reducible rfl
            rotate_left
            · simp only [Act.put, List.setIfInBounds_toArray, List.set_cons_zero, List.set_cons_succ, i64_w, i32_w]
              rfl
            refine take_ (i := 13) (N := some 72) (v := ?_) (a' := ?_) #[true, true, true, true, true, true, true, true, true, true, true, true, true, true, false, false] rfl rfl (by kernel_rfl) (fun _ _ _ h => h) (Or.inl ⟨by rfl, ?_⟩) hHeld ?_ ?_
            rotate_left
            · rintro w' ⟨s0, s1⟩
              go_simp
              with_reducible rfl
            rotate_left
            · simp only [Act.put, List.setIfInBounds_toArray, List.set_cons_zero, List.set_cons_succ, i64_w, i32_w]
              rfl
            refine one_ (i := 14) (N := some 73) #[true, true, true, true, true, true, true, true, true, true, true, true, true, true, true, false] rfl rfl (by kernel_rfl) (by decide) (fun K hK => ?_)
            refine goes_ Try.func16 (by kernel_rfl) rfl #[.string x.f0, .string y.f0] (by rfl) rfl rfl (by simp only [List.map_toArray, List.map_cons, List.map_nil]; rfl) ?_
            with_reducible refine (loessref22_Less.calls kL x.f0 y.f0 _ _ HKL.out).mono ?_
            rintro e w11 ⟨rfl, hb⟩
            refine ⟨_, rfl, ?_⟩
            have n1_ := Aside0.mk (below_step (by first | exact HV.out | exact HV.out.drew) hb)
            clear HV hb
            have HV := n1_
            clear n1_
            refine hK.out _ _ ⟨((HV.out.cell (World.block_lt_of_cell? wr _ h0)).trans h0), ((HV.out.cell (World.block_lt_of_cell? wr _ hy0)).trans hy0)⟩ (fun hHeld => ?_)
            clear hK K
            refine norm_ (a' := ?_) ?_ ?_
            rotate_left
            · show Act.put _ (some 73) _ = _
              simp only [Act.put, List.setIfInBounds_toArray, List.set_cons_zero, List.set_cons_succ, i64_w, i32_w]
              rfl
            refine pure_ (i := 15) (N := some 74) (v := ?_) (a' := ?_) #[true, true, true, true, true, true, true, true, true, true, true, true, true, true, true, true] rfl rfl (by kernel_rfl) (fun _ _ _ h => h) (Or.inl ⟨by rfl, ?_⟩) ?_ ?_
            rotate_left
            · intro w'
              go_simp
              with_reducible rfl
            rotate_left
            · simp only [Act.put, List.setIfInBounds_toArray, List.set_cons_zero, List.set_cons_succ, i64_w, i32_w]
              rfl
            refine done_ (by kernel_rfl) ?_
            clear h0 hy0 hz hz2 hwb hbz hb0
            go_wp2
            go_roundw
            case rel => (repeat apply Exists.intro); refine ⟨?_, rfl⟩; exact ⟨b, by rw [show ((a : Int) - 1) = (b : Int) from by have := HAB.out; omega], by have := HAB.out; have := HAI.out; omega, ⟨by have h1 := HPB.out; simp only [if_true] at h1; rw [HPK.out, h1]⟩, ⟨below_step HZ.out HV.out⟩⟩
            case measure => have := HAB.out; simp [intOf]; omega
          | false =>
            have HPA := Aside0.mk (show posK S x i = a by rw [HPK.out, HPB.out, if_neg Bool.false_ne_true])
            go_wp2
            refine start_ (n := 16) (S := fun w' => w'.cell? (ad.add (i * 5)) = some (.string x.f0) ∧ w'.cell? (ad8.add (b * 5)) = some (.string y.f0)) (ds := []) #[false, false, false, false, false, false, false, false, false, false, false, false, false, false, false, false] (by kernel_rfl) rfl rfl ⟨((HV.out.drew.cell (World.block_lt_of_cell? wr _ h0)).trans h0), ((HV.out.drew.cell (World.block_lt_of_cell? wr _ hy0)).trans hy0)⟩ (fun hHeld => ?_)
            refine pure_ (i := 0) (N := some 59) (v := ?_) (a' := ?_) #[true, false, false, false, false, false, false, false, false, false, false, false, false, false, false, false] rfl rfl (by kernel_rfl) (fun _ _ _ h => h) (Or.inl ⟨by rfl, ?_⟩) ?_ ?_
            rotate_left
            · intro w'
              go_simp
              with_reducible rfl
            rotate_left
            · simp only [Act.put, List.setIfInBounds_toArray, List.set_cons_zero, List.set_cons_succ, i64_w, i32_w]
              rfl
            refine pure_ (i := 1) (N := some 60) (v := ?_) (a' := ?_) #[true, true, false, false, false, false, false, false, false, false, false, false, false, false, false, false] rfl rfl (by kernel_rfl) (fun _ _ _ h => h) (Or.inl ⟨by rfl, ?_⟩) ?_ ?_
            rotate_left
            · intro w'
              go_simp
              with_reducible rfl
            rotate_left
            · simp only [Act.put, List.setIfInBounds_toArray, List.set_cons_zero, List.set_cons_succ, i64_w, i32_w]
              rfl
            refine pure_ (i := 2) (N := some 61) (v := ?_) (a' := ?_) #[true, true, true, false, false, false, false, false, false, false, false, false, false, false, false, false] rfl rfl (by kernel_rfl) (fun _ _ _ h => h) (Or.inl ⟨by rfl, ?_⟩) ?_ ?_
            rotate_left
            · intro w'
              go_simp
              with_reducible rfl
            rotate_left
            · simp only [Act.put, List.setIfInBounds_toArray, List.set_cons_zero, List.set_cons_succ, i64_w, i32_w]
              rfl
            refine pure_ (i := 3) (N := some 62) (v := ?_) (a' := ?_) #[true, true, true, true, false, false, false, false, false, false, false, false, false, false, false, false] rfl rfl (by kernel_rfl) (fun _ _ _ h => h) (Or.inl ⟨by rfl, ?_⟩) ?_ ?_
            rotate_left
            · intro w'
              go_simp
              with_reducible rfl
            rotate_left
            · simp only [Act.put, List.setIfInBounds_toArray, List.set_cons_zero, List.set_cons_succ, i64_w, i32_w]
              rfl
            refine pure_ (i := 4) (N := some 63) (v := ?_) (a' := ?_) #[true, true, true, true, true, false, false, false, false, false, false, false, false, false, false, false] rfl rfl (by kernel_rfl) (fun _ _ _ h => h) (Or.inl ⟨by rfl, ?_⟩) ?_ ?_
            rotate_left
            · intro w'
              go_simp
              with_reducible rfl
            rotate_left
            · simp only [Act.put, List.setIfInBounds_toArray, List.set_cons_zero, List.set_cons_succ, i64_w, i32_w]
              rfl
            refine pure_ (i := 5) (N := some 64) (v := ?_) (a' := ?_) #[true, true, true, true, true, true, false, false, false, false, false, false, false, false, false, false] rfl rfl (by kernel_rfl) (fun _ _ _ h => h) (Or.inl ⟨by rfl, ?_⟩) ?_ ?_
            rotate_left
            · intro w'
              go_simp
              with_reducible rfl
            rotate_left
            · simp only [Act.put, List.setIfInBounds_toArray, List.set_cons_zero, List.set_cons_succ, i64_w, i32_w]
              rfl
            refine pure_ (i := 6) (N := some 65) (v := ?_) (a' := ?_) #[true, true, true, true, true, true, true, false, false, false, false, false, false, false, false, false] rfl rfl (by kernel_rfl) (fun _ _ _ h => h) (Or.inl ⟨by rfl, ?_⟩) ?_ ?_
            rotate_left
            · intro w'
              go_simp
              with_reducible rfl
            rotate_left
            · simp only [Act.put, List.setIfInBounds_toArray, List.set_cons_zero, List.set_cons_succ, i64_w, i32_w]
              rfl
            refine pure_ (i := 8) (N := some 67) (v := ?_) (a' := ?_) #[true, true, true, true, true, true, true, false, true, false, false, false, false, false, false, false] rfl rfl (by kernel_rfl) (fun _ _ _ h => h) (Or.inl ⟨by rfl, ?_⟩) ?_ ?_
            rotate_left
            · intro w'
              go_simp
              with_reducible rfl
            rotate_left
            · simp only [Act.put, List.setIfInBounds_toArray, List.set_cons_zero, List.set_cons_succ, i64_w, i32_w]
              rfl
            refine pure_ (i := 9) (N := some 68) (v := ?_) (a' := ?_) #[true, true, true, true, true, true, true, false, true, true, false, false, false, false, false, false] rfl rfl (by kernel_rfl) (fun _ _ _ h => h) (Or.inl ⟨by rfl, ?_⟩) ?_ ?_
            rotate_left
            · intro w'
              go_simp
              with_reducible rfl
            rotate_left
            · simp only [Act.put, List.setIfInBounds_toArray, List.set_cons_zero, List.set_cons_succ, i64_w, i32_w]
              rfl
            refine pure_ (i := 10) (N := some 69) (v := ?_) (a' := ?_) #[true, true, true, true, true, true, true, false, true, true, true, false, false, false, false, false] rfl rfl (by kernel_rfl) (fun _ _ _ h => h) (Or.inl ⟨by rfl, ?_⟩) ?_ ?_
            rotate_left
            · intro w'
              go_simp
              with_reducible rfl
            rotate_left
            · simp only [Act.put, List.setIfInBounds_toArray, List.set_cons_zero, List.set_cons_succ, i64_w, i32_w]
              rfl
            refine pure_ (i := 11) (N := some 70) (v := ?_) (a' := ?_) #[true, true, true, true, true, true, true, false, true, true, true, true, false, false, false, false] rfl rfl (by kernel_rfl) (fun _ _ _ h => h) (Or.inl ⟨by rfl, ?_⟩) ?_ ?_
            rotate_left
            · intro w'
              go_simp
              with_reducible rfl
            rotate_left
            · simp only [Act.put, List.setIfInBounds_toArray, List.set_cons_zero, List.set_cons_succ, i64_w, i32_w]
              rfl
            refine pure_ (i := 12) (N := some 71) (v := ?_) (a' := ?_) #[true, true, true, true, true, true, true, false, true, true, true, true, true, false, false, false] rfl rfl (by kernel_rfl) (fun _ _ _ h => h) (Or.inl ⟨by rfl, ?_⟩) ?_ ?_
            rotate_left
            · intro w'
              go_simp
              with_reducible rfl
            rotate_left
            · simp only [Act.put, List.setIfInBounds_toArray, List.set_cons_zero, List.set_cons_succ, i64_w, i32_w]
              rfl
            refine take_ (i := 7) (N := some 66) (v := ?_) (a' := ?_) #[true, true, true, true, true, true, true, true, true, true, true, true, true, false, false, false] rfl rfl (by kernel_rfl) (fun _ _ _ h => h) (Or.inl ⟨by rfl, ?_⟩) hHeld ?_ ?_
            rotate_left
            · rintro w' ⟨s0, s1⟩
              go_simp
              with_reducible rfl
            rotate_left
            · simp only [Act.put, List.setIfInBounds_toArray, List.set_cons_zero, List.set_cons_succ, i64_w, i32_w]
              rfl
            refine take_ (i := 13) (N := some 72) (v := ?_) (a' := ?_) #[true, true, true, true, true, true, true, true, true, true, true, true, true, true, false, false] rfl rfl (by kernel_rfl) (fun _ _ _ h => h) (Or.inl ⟨by rfl, ?_⟩) hHeld ?_ ?_
            rotate_left
            · rintro w' ⟨s0, s1⟩
              go_simp
              with_reducible rfl
            rotate_left
            · simp only [Act.put, List.setIfInBounds_toArray, List.set_cons_zero, List.set_cons_succ, i64_w, i32_w]
              rfl
            refine one_ (i := 14) (N := some 73) #[true, true, true, true, true, true, true, true, true, true, true, true, true, true, true, false] rfl rfl (by kernel_rfl) (by decide) (fun K hK => ?_)
            refine goes_ Try.func16 (by kernel_rfl) rfl #[.string x.f0, .string y.f0] (by rfl) rfl rfl (by simp only [List.map_toArray, List.map_cons, List.map_nil]; rfl) ?_
            with_reducible refine (loessref22_Less.calls kL x.f0 y.f0 _ _ HKL.out).mono ?_
            rintro e w11 ⟨rfl, hb⟩
            refine ⟨_, rfl, ?_⟩
            have n1_ := Aside0.mk (below_step (by first | exact HV.out | exact HV.out.drew) hb)
            clear HV hb
            have HV := n1_
            clear n1_
            refine hK.out _ _ ⟨((HV.out.cell (World.block_lt_of_cell? wr _ h0)).trans h0), ((HV.out.cell (World.block_lt_of_cell? wr _ hy0)).trans hy0)⟩ (fun hHeld => ?_)
            clear hK K
            refine norm_ (a' := ?_) ?_ ?_
            rotate_left
            · show Act.put _ (some 73) _ = _
              simp only [Act.put, List.setIfInBounds_toArray, List.set_cons_zero, List.set_cons_succ, i64_w, i32_w]
              rfl
            refine pure_ (i := 15) (N := some 74) (v := ?_) (a' := ?_) #[true, true, true, true, true, true, true, true, true, true, true, true, true, true, true, true] rfl rfl (by kernel_rfl) (fun _ _ _ h => h) (Or.inl ⟨by rfl, ?_⟩) ?_ ?_
            rotate_left
            · intro w'
              go_simp
              with_reducible rfl
            rotate_left
            · simp only [Act.put, List.setIfInBounds_toArray, List.set_cons_zero, List.set_cons_succ, i64_w, i32_w]
              rfl
            refine done_ (by kernel_rfl) ?_
            clear h0 hy0 hz hz2 hwb hbz hb0
            have HW7 := Aside0.mk (below_step HW6.out HV.out)
            have HO7 := Aside0.mk (Kd.R_below HO6.out HV.out)
            obtain ⟨w7, rfl⟩ : ∃ W, W = w11 := ⟨_, rfl⟩
            clear HW6 HO6 HZ HPK HPB HV
            have HT1 := Aside0.mk (show (S ++ [z5]).length = i + 1 by rw [List.length_append, List.length_singleton, ← HSL.out])
            obtain ⟨n1, hn1⟩ : ∃ n1, n1 = i + 1 := ⟨_, rfl⟩
            rw [← hn1] at HT1
            have HN1 := Aside0.mk hn1
            have HCAP := Aside0.mk (show (S.length + 1) * 56 ≤ 140737488355328 by have := HSL.out; have := HIL.out; omega)
            clear hn1
            go_wp2_with (first
             | ((with_reducible refine gate_builtin (b := .append) (xs := #[.tmp 77, .tmp 79]) rfl ?_); at_builtin; refine Kd.R_append k27 (w0 := w5) w5.heap.size rfl (.tmp 77) (.tmp 79) 39 27 (.agg #[(.string ⟨#[]⟩), (.bool false), (.int .i64 0), (.int .i64 0), (.string ⟨#[]⟩)]) 56 rfl Try.underlying39 info27 rfl (by decide) (by omega) (.slice _ i c8) S z5 [.string ⟨#[]⟩, .bool false, .int .i64 0, .int .i64 0, .string ⟨#[]⟩] (fun _ => True) (fun _ => False) rfl rfl ?aP (fun _ hk => hk.elim) ?aF ?aO ?aB ?aS ?aL ?_; (case aP => exact k27_mkM _ _ _ z5); (case aB => exact HW7.out); (case aF => exact (fun _ _ => trivial)); (case aO => exact HO7.out); (case aS => exact below_size HW7.out); (case aL => have := HCAP.out; omega); intro v1 w8 ho hb hg hat; obtain ⟨g, cap, cl, hv1, hgb, hh, hnc, hcm, hcs, ht⟩ := R_cells ho (by rw [HT1.out, HN1.out]; omega); rw [HT1.out] at hv1 hnc ht; subst hv1; have HB8 := Aside0.mk hb; have HGB := Aside0.mk hgb; have HH := Aside0.mk hh; have HNC := Aside0.mk hnc; have HCM := Aside0.mk hcm; have HCS2 := Aside0.mk hcs; have HTK := Aside0.mk ht; clear ho hb hg hat hgb hh hnc hcm hcs ht))
            obtain ⟨dp, c1, hr1, hd1⟩ := cutB5 g cap n1 (a + 1) (by have := HN1.out; have := HAI.out; omega) HNC.out
            obtain ⟨sp, c2, hr2, hd2⟩ := cutB5 g cap n1 a (by have := HN1.out; have := HAI.out; omega) HNC.out
            obtain ⟨m1, hm1⟩ : ∃ m, m = n1 - (a + 1) := ⟨_, rfl⟩
            obtain ⟨m2, hm2⟩ : ∃ m, m = n1 - a := ⟨_, rfl⟩
            obtain ⟨a1, ha1'⟩ : ∃ a1, a1 = a + 1 := ⟨_, rfl⟩
            rw [← hm1, ← ha1'] at hr1
            rw [← hm2] at hr2
            have hwr : IntKind.i64.wrap ((a : Int) + 1) = (a1 : Int) := by rw [ha1']; exact (i64_w _).trans ((w64 (by omega) (by omega)).trans rfl)
            have ha1z : (a1 : Int) ≤ 61 := by omega
            obtain ⟨cs, hcsd⟩ : ∃ cs : List Value, cs = rowC (S.drop a) := ⟨_, rfl⟩
            have HMM := Aside0.mk (show i - a = Nat.min m2 m1 by have := HN1.out; have := HAI.out; show _ = min _ _; omega)
            have HCN := Aside0.mk (show cs.length = (i - a) * 5 by rw [hcsd, rowC_len, List.length_drop, ← HSL.out])
            have HFIT := Aside0.mk (show a1 * 5 + cs.length ≤ cl.length by have := HCN.out; have := HCS2.out; have := HNC.out; have := HN1.out; have := HAI.out; omega)
            have HONE := Aside0.mk (show ∀ v ∈ cs, v.oneCell' = true by rw [hcsd]; exact rowC_one _)
            have HH1 := Aside0.mk (show w8.drew.heap[g]? = some (.cells cl.toArray 27 (0, 0)) from HH.out)
            have HTK1 := Aside0.mk (show cl.take ((i + 1) * 5) = rowC (S ++ [z5]) by rw [← HN1.out]; exact HTK.out)
            have HPOS := Aside0.mk (show 0 < i - a → dp = some ⟨g, a1 * 5, none⟩ ∧ ∃ ad, sp = some ad ∧ ∀ j v, cs[j]? = some v → w8.drew.cell? (ad.add j) = some v by
             intro hp
             have hcap : n1 ≤ cap := HNC.out
             refine ⟨by rw [ha1']; exact hd1 (by have := HN1.out; omega), ⟨g, a * 5, none⟩, hd2 (by have := HN1.out; omega), fun j v hj => ?_⟩
             rw [hcsd] at hj
             have h1 := cellsAt HSL.out HAI.out HTK1.out j v hj
             rw [Addr.add_lit]
             refine (blk_cell HH1.out (a * 5 + j)).trans ?_
             simpa using h1)
            have HBD := Aside0.mk (show Below w5.heap.size w5 w8.drew from HB8.out.drew)
            obtain ⟨y9, hROW⟩ := copyR HSL.out HAI.out HTK1.out
            rw [← ha1', ← hcsd, ← HN1.out] at hROW
            have HROW := Aside0.mk hROW
            have HA1 := Aside0.mk ha1'
            have hazn : (a : Int) < (n1 : Int) := by have := HN1.out; have := HAI.out; omega
            have hazn2 : a < n1 := by omega
            have HAZ := Aside0.mk hazn
            clear hcsd hROW hd1 hd2 hm1 hm2 ha1'
            go_region_law (refine step_copyN rfl (.tmp 84) (.tmp 87) 39 39 rfl 27 5 Try.underlying39 (by kernel_rfl) (by decide) dp sp m1 c1 m2 c2 (by simp [Act.eval, Act.put]) (by simp [Act.eval, Act.put]) g (a1 * 5) cl 27 HH1.out cs (i - a) HMM.out HCN.out HPOS.out HFIT.out HONE.out w5.heap.size w5 HBD.out HGB.out ?_; intro w4 hg4 hb4 ho4 hs4)
            all_goals
             obtain ⟨cl4, hcl4⟩ : ∃ l, l = splice cl (a1 * 5) cs := ⟨_, rfl⟩
             have HG4 := Aside0.mk (show w4.heap[g]? = some (.cells (List.toArray cl4) 27 (0, 0)) by rw [hcl4]; first | exact hg4 | exact hg4.out)
             have HB4 := Aside0.mk (show Below w5.heap.size w5 w4 by first | exact hb4 | exact hb4.out)
             have HL4 := Aside0.mk (show cl4.length = cap * 5 by rw [hcl4, length_splice _ _ _ HFIT.out]; exact HCS2.out)
             have HT4 := Aside0.mk (show cl4.take (n1 * 5) = rowC (S.take a ++ y9 :: S.drop a) by rw [hcl4]; exact HROW.out)
             have hlt4 : a * 5 + 4 < cl4.length := by have := HL4.out; have := HNC.out; omega
             obtain ⟨o0, p0⟩ : ∃ v, w4.cell? ⟨g, a * 5, none⟩ = some v := ⟨_, (blk_cell HG4.out (a * 5)).trans (by rw [List.getElem?_toArray]; exact List.getElem?_eq_getElem (by omega))⟩
             obtain ⟨o1, p1⟩ : ∃ v, w4.cell? ⟨g, a * 5 + 1, none⟩ = some v := ⟨_, (blk_cell HG4.out (a * 5 + 1)).trans (by rw [List.getElem?_toArray]; exact List.getElem?_eq_getElem (by omega))⟩
             obtain ⟨o2, p2⟩ : ∃ v, w4.cell? ⟨g, a * 5 + 2, none⟩ = some v := ⟨_, (blk_cell HG4.out (a * 5 + 2)).trans (by rw [List.getElem?_toArray]; exact List.getElem?_eq_getElem (by omega))⟩
             obtain ⟨o3, p3⟩ : ∃ v, w4.cell? ⟨g, a * 5 + 3, none⟩ = some v := ⟨_, (blk_cell HG4.out (a * 5 + 3)).trans (by rw [List.getElem?_toArray]; exact List.getElem?_eq_getElem (by omega))⟩
             obtain ⟨o4, p4⟩ : ∃ v, w4.cell? ⟨g, a * 5 + 4, none⟩ = some v := ⟨_, (blk_cell HG4.out (a * 5 + 4)).trans (by rw [List.getElem?_toArray]; exact List.getElem?_eq_getElem (by omega))⟩
             have f0 := blk_frozen HG4.out (a * 5)
             have f1 := blk_frozen HG4.out (a * 5 + 1)
             have f2 := blk_frozen HG4.out (a * 5 + 2)
             have f3 := blk_frozen HG4.out (a * 5 + 3)
             have f4 := blk_frozen HG4.out (a * 5 + 4)
             obtain ⟨k0, k1, k2, k3, k4⟩ := HX5.out w4 HB4.out
             clear hlt4 hcl4 hg4 hb4 ho4 hs4 hr1 hr2 hwr HPOS HH1 HBD
             go_wp2_with (first
              | ((with_reducible refine gate_store (t := 27) (p := 95) rfl ?_); refine store_event (t := 27) (p := 95) (v := ?vo2) (w1 := (((((w4.setCell ⟨g, a * 5, none⟩ (.string x.f0)).setCell ⟨g, a * 5 + 1, none⟩ (.bool x.f1)).setCell ⟨g, a * 5 + 2, none⟩ (.int .i64 x.f2.f0)).setCell ⟨g, a * 5 + 3, none⟩ (.int .i64 x.f2.f1)).setCell ⟨g, a * 5 + 4, none⟩ (.string x.f2.f2))) ?hg ?ho ?hn ?hr ?_; (case ho => rfl); (case hg => rfl); (case hn => rfl); (case hr => first | (go_simp; done) | (go_simp; rfl)); intro w9 hw; have HB9 : Aside0 (Below w5.heap.size w5 w9) := ⟨by rw [hw]; exact bel5 HB4.out HGB.out⟩; have HG9 : Aside0 (w9.heap[g]? = some (.cells (List.toArray (((((cl4.set (a * 5) (.string x.f0)).set (a * 5 + 1) (.bool x.f1)).set (a * 5 + 2) (.int .i64 x.f2.f0)).set (a * 5 + 3) (.int .i64 x.f2.f1)).set (a * 5 + 4) (.string x.f2.f2))) 27 (0, 0))) := ⟨by rw [hw]; exact put5 _ _ _ _ _ HG4.out⟩; clear hw p0 p1 p2 p3 p4 f0 f1 f2 f3 f4 k0 k1 k2 k3 k4))
             have HIN : Aside0 (insK S x = S.take a ++ x :: S.drop a) := ⟨by unfold insK; rw [← HSL.out, HPA.out]⟩
             have HIL2 : Aside0 ((insK S x).length = n1) := ⟨by rw [insK_len, ← HSL.out]; exact HN1.out.symm⟩
             have HR9 : Aside0 (Kd.R k27 27 w9 w5.heap.size (fun _ => True) (.slice (some ⟨g, 0, none⟩) n1 cap) (insK S x)) := ⟨by
              have h1 := R_of_cells (L := insK S x) HGB.out HG9.out (by rw [HIL2.out]; exact HNC.out) HCM.out (by simp only [List.length_set]; exact HL4.out) (by
               rw [HIL2.out, take5 HT4.out, HIN.out]
               exact set5 (by rw [List.length_take, ← HSL.out, Nat.min_eq_left HAI.out]))
              rw [HIL2.out] at h1
              exact h1⟩
             go_roundw
             case rel => (repeat apply Exists.intro); refine ⟨?_, rfl⟩; exact ⟨i + 1, by first | rfl | go_num, by have := HIL.out; omega, ⟨by rw [HOI.out]; exact HR9.out⟩, HB9⟩
             case measure => have := HIL.out; simp [intOf]; omega
     · obtain rfl : i = dn := by omega
       have hl1 : decide ((i : Int) < (i : Int)) = false := decide_eq_false (by omega)
       have hl2 : decide (i < i) = false := decide_eq_false (by omega)
       have HOK := Aside0.mk (show ordN D i = ordK L by rw [ordK_all, ← HD.out, HDN.out])
       rw [HOK.out] at HO
       clear hlt hi
       go_wp2
       go_ret
       exact ⟨_, rfl, R_lower HO.out HB.out.size, below_step HB.out HW.out⟩
end Go.Proofs.Ytkhcmddeeodbkaa.GL
