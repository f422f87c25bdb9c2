/- loesslaw21.Sorted by hand: rising numbers, each once. -/
import Derived.Test.YtobdfehpbgcloaaGTrieLaw
import Derived.Deep.QuietTactic
import Derived.BigQuiet
import Derived.Deep.RegionLaw
import Derived.Laws.CopyOwn
namespace Go.Proofs.Ytobdfehpbgcloaa.GL
open Go.RowKit Go.Proofs.YtobdfehpbgcloaaW.PrintWords Go.Proofs.YtobdfehpbgcloaaW.PrintLast Go.Proofs.YtobdfehpbgcloaaW.PrintMore Go.Proofs.Ytobdfehpbgcloaa.Q Go.Proofs.Ytobdfehpbgcloaa.XTri Go.Proofs.Ytobdfehpbgcloaa.G
set_option linter.unusedVariables false
set_option linter.unusedSimpArgs false
def SortP (S : List Int) : Prop := S.Pairwise (· < ·) ∧ U64s S
theorem xor_rng (a b : Int) : 0 ≤ Go.bits .xor .u64 a b ∧ Go.bits .xor .u64 a b < 18446744073709551616 := by
  have e : Go.bits .xor .u64 a b = IntKind.u64.wrap ((BitVec.ofInt 64 a ^^^ BitVec.ofInt 64 b).toNat : Int) := rfl
  rw [e, u64_mod]
  omega
theorem copy_row {α : Type} (cur T D : List α) (a n : Nat) (hT : cur.take (n + 1) = T) (hTn : T.length = n + 1) (hD : D.length = n - a) (ha : a ≤ n) : (splice cur (a + 1) D).take (n + 1) = T.take (a + 1) ++ D := by
  have h1 : cur.take (a + 1) = T.take (a + 1) := by rw [← hT, List.take_take, Nat.min_eq_left (by omega)]
  have hl : (T.take (a + 1)).length = a + 1 := by rw [List.length_take]; omega
  unfold splice
  rw [h1, ← List.append_assoc]
  exact List.take_append_of_le_length (by rw [List.length_append]; omega) |>.trans (List.take_of_length_le (by rw [List.length_append]; omega))
theorem ins_set (S : List Int) (a : Nat) (x : Int) (ha : a ≤ S.length) : (((S ++ [0]).take (a + 1)) ++ S.drop a).set a x = S.take a ++ x :: S.drop a := by
  have hl : a < (S ++ [0]).length := by rw [List.length_append, List.length_singleton]; omega
  rw [List.take_succ_eq_append_getElem hl, List.take_append_of_le_length ha, List.append_assoc, List.singleton_append]
  rw [List.set_append_right _ _ (by rw [List.length_take]; omega), List.length_take, Nat.min_eq_left ha, Nat.sub_self, List.set_cons_zero]
theorem ins_len (S : List Int) (a : Nat) (x : Int) (ha : a ≤ S.length) : (S.take a ++ x :: S.drop a).length = S.length + 1 := by
  rw [List.length_append, List.length_take, List.length_cons, List.length_drop]
  omega
theorem ins_ok {S : List Int} {a : Nat} {x : Int} (h : SortP S) (ha : a ≤ S.length) (hx : 0 ≤ x ∧ x < 18446744073709551616) (hlo : ∀ y ∈ S.take a, y < x) (hhi : ∀ y ∈ S.drop a, x < y) : SortP (S.take a ++ x :: S.drop a) := by
  obtain ⟨hp, hu⟩ := h
  constructor
  · rw [List.pairwise_append]
    refine ⟨hp.sublist (List.take_sublist _ _), List.pairwise_cons.2 ⟨hhi, hp.sublist (List.drop_sublist _ _)⟩, fun y hy z hz => ?_⟩
    rcases List.mem_cons.1 hz with rfl | hz
    · exact hlo y hy
    · exact Int.lt_trans (hlo y hy) (hhi z hz)
  · intro y hy
    rcases List.mem_append.1 hy with hy | hy
    · exact hu y (List.mem_of_mem_take hy)
    · rcases List.mem_cons.1 hy with rfl | hy
      · exact hx
      · exact hu y (List.mem_of_mem_drop hy)
theorem lo_of {S : List Int} {b : Nat} {x : Int} (h : SortP S) (hb : b < S.length) (hx : S.getD b 0 < x) : ∀ y ∈ S.take (b + 1), y < x := by
  intro y hy
  obtain ⟨j, hj, rfl⟩ := List.getElem_of_mem hy
  rw [List.length_take] at hj
  rw [List.getElem_take]
  rw [List.getD_eq_getElem?_getD, List.getElem?_eq_getElem hb, Option.getD_some] at hx
  rcases Nat.eq_or_lt_of_le (show j ≤ b by omega) with he | hlt
  · subst he; exact hx
  · exact Int.lt_trans (List.pairwise_iff_getElem.1 h.1 j b (by omega) hb hlt) hx
theorem hi_step {S : List Int} {b : Nat} {x : Int} (hb : b < S.length) (hx : x < S.getD b 0) (h : ∀ y ∈ S.drop (b + 1), x < y) : ∀ y ∈ S.drop b, x < y := by
  intro y hy
  rw [List.drop_eq_getElem_cons hb] at hy
  rcases List.mem_cons.1 hy with rfl | hy
  · rwa [List.getD_eq_getElem?_getD, List.getElem?_eq_getElem hb, Option.getD_some] at hx
  · exact h y hy
/-- A cut of a row that begins its block. -/
theorem cutB (g cap m j : Nat) (hj : j ≤ m) (hc : m ≤ cap) : ∃ dp c1,
    (∀ W : World, (Instr.slice 33 (.slice (some ⟨g, 0, none⟩) m cap) (some (.int .i64 j)) none none).run Try.prog W = .ok (.slice dp (m - j) c1) W) ∧ (j < cap → dp = some ⟨g, j, none⟩) := by
  obtain ⟨i0, hi0, _, hsz, _⟩ := info_parts info23
  have hcut := cut_from (P := Try.prog) 33 23 .i64 Try.underlying33 hi0 1 hsz (some ⟨g, 0, none⟩) m cap j (by omega) (by omega)
  refine ⟨(if cap = j then some ⟨g, 0, none⟩ else (some ⟨g, 0, none⟩ : Option Addr).map (·.add (j * 1))), cap - j, hcut, fun h => ?_⟩
  rw [if_neg (by omega), Nat.mul_one]
  simp only [Option.map_some, add_plain]
def SortedPost (w : World) (e : Ending) (w' : World) : Prop := ∃ v S, e = .returned v ∧ Kd.R (Kd.int .u64) 23 w' w.heap.size (fun _ => True) v S ∧ SortP S ∧ S.length ≤ 40 ∧ Below w.heap.size w w'
set_option maxRecDepth 1000000 in
set_option maxHeartbeats 8000000 in
theorem law_Sorted {w : World} {A0 : Option Addr} {c0 len0 : Nat} {l : List Int} (near : Bool) (hlen : len0 = l.length) (hC0 : Kd.C (Kd.int .u64) w A0 len0 l) (hcm : len0 < 100000000000000) (hU0 : U64s l) :
    Calls Try.prog 16 #[.slice A0 len0 c0, .bool near] w (SortedPost w) := by
  have HC := Aside0.mk hC0
  have HU := Aside0.mk hU0
  have HLEN := Aside0.mk hlen
  have HB := Aside0.mk (Below.refl w.heap.size w)
  clear hC0 hU0 hlen hcm
  go_enter Try.func16, Try.ntmps16
  go_wp2
  go_loopw [5, 6, 7, 8] (fun v5 v6 v7 v8 wr => ∃ (i : Nat) (S : List Int), v6 = .int .i64 i ∧ i ≤ 40 ∧ i ≤ len0 ∧ S.length ≤ i ∧ Aside0 (SortP S) ∧ Aside0 (Kd.R (Kd.int .u64) 23 wr w.heap.size (fun _ => True) v5 S) ∧ Aside0 (Below w.heap.size w wr)) (fun _ v _ _ _ => 40 - (intOf v).toNat)
  case atStart => exact ⟨0, [], by first | rfl | go_num, by omega, by omega, Nat.zero_le _, ⟨List.Pairwise.nil, fun x hx => by cases hx⟩, ⟨Kd.R_nil _ _ _ _ _⟩, HB⟩
  case round =>
    clear HB
    obtain ⟨i, S, rfl, hi40, hil, hSi, HS, HO, HB⟩ := hrel
    by_cases hlt : i < len0 ∧ i < 40
    · have h1 : decide ((i : Int) < (len0 : Int)) = true := decide_eq_true (by omega)
      have h1n : decide (i < len0) = true := decide_eq_true hlt.1
      have h2 : decide ((i : Int) < 40) = true := decide_eq_true (by omega)
      have hi40z : (i : Int) < 40 := by omega
      have hilz : (i : Int) < (len0 : Int) := by omega
      obtain ⟨ad, e, hx⟩ := Kd.at_int (Kd.C_below HC.out HB.out) (i : Int) (Int.natCast_nonneg _) (by omega)
      cases e
      obtain ⟨x, hxe⟩ : ∃ x, x = l.getD i 0 := ⟨_, rfl⟩
      replace hx : wr.cell? (ad.add i) = some (.int .u64 x) := by rw [hxe]; exact hx
      have HX := Aside0.mk (show 0 ≤ x ∧ x < 18446744073709551616 by
        have hil : i < l.length := by rw [← HLEN.out]; exact hlt.1
        rw [hxe, List.getD_eq_getElem?_getD, List.getElem?_eq_getElem hil, Option.getD_some]
        exact HU.out _ (List.getElem_mem _))
      obtain ⟨A, c, hv, hnc, hC⟩ := Kd.R_reads HO.out
      subst hv
      obtain ⟨n, hn⟩ : ∃ n, n = S.length := ⟨_, rfl⟩
      rw [← hn] at hSi hnc hC HO ⊢
      have HN := Aside0.mk hn
      have HN40 := Aside0.mk (show n < 40 by omega)
      have HI := Aside0.mk hSi
      have HNC := Aside0.mk hnc
      have HCS := Aside0.mk hC
      have hnz : (n : Int) < 40 := by omega
      have HLT := Aside0.mk hlt
      clear hxe hlt hi40 hil hSi hnc hC hn
      have hcase : near = false ∨ (near = true ∧ n = 0) ∨ (near = true ∧ 0 < n) := by
        cases near
        · exact .inl rfl
        · rcases Nat.eq_zero_or_pos n with h | h
          · exact .inr (.inl ⟨rfl, h⟩)
          · exact .inr (.inr ⟨rfl, h⟩)
      rcases hcase with rfl | ⟨rfl, hn0⟩ | ⟨rfl, hn0⟩
      · obtain ⟨X, hX⟩ : ∃ X, X = x := ⟨_, rfl⟩
        subst hX
        go_wp2
        go_loop [8] (fun v8 => ∃ (a : Nat), v8 = .int .i64 a ∧ a ≤ n ∧ Aside0 (∀ y ∈ S.drop a, X < y)) (fun v => (intOf v).toNat)
        case atStart => exact ⟨n, by first | rfl | go_num, Nat.le_refl _, ⟨by intro y hy; rw [List.drop_of_length_le (by rw [← HN.out]; exact Nat.le_refl _)] at hy; cases hy⟩⟩
        case round =>
          obtain ⟨a, rfl, ha, HHI⟩ := hrel
          have HAN := Aside0.mk ha
          rcases Nat.eq_zero_or_pos a with haa | hpos
          · have HLO := Aside0.mk (show ∀ y ∈ S.take a, y < X by intro y hy; rw [haa] at hy; cases hy)
            have ha0 : decide ((0 : Int) < (a : Int)) = false := decide_eq_false (by omega)
            have ha0n : decide (0 < a) = false := decide_eq_false (by omega)
            have haz : (a : Int) < 40 := by omega
            clear haa ha
            obtain ⟨n1, hn1⟩ : ∃ n1, n1 = n + 1 := ⟨_, rfl⟩
            have HN1 := Aside0.mk hn1
            have HT1 := Aside0.mk (show (S ++ [0]).length = n1 by rw [List.length_append, List.length_singleton, ← HN.out, hn1])
            have HCAP := Aside0.mk (show (S.length + 1) * 8 ≤ 140737488355328 by have := HN.out; have := HN40.out; omega)
            clear hn1
            have HCUR := Aside0.mk HO.out
            go_wp2_with (first
              | ((with_reducible refine gate_builtin (b := .append) (xs := #[.tmp 61, .tmp 62]) rfl ?_); at_builtin; refine Kd.R_append (Kd.int .u64) (w0 := w) w.heap.size rfl (.tmp 61) (.tmp 62) 33 23 (.int .u64 0) 8 rfl Try.underlying33 (by kernel_rfl) rfl (by decide) (by omega) _ S 0 [.int .u64 0] (fun _ => True) (fun _ => False) rfl rfl ?aP (fun _ hk => hk.elim) ?aF ?aO ?aB ?aS ?aL ?_; (case aP => exact rfl); (case aF => exact (fun _ _ => trivial)); (case aO => exact HO.out); (case aB => exact HB.out); (case aS => exact below_size HB.out); (case aL => exact HCAP.out); intro v1 w1 ho hb hg hat; obtain ⟨g, cap, hv1, hgb, hgl, hcl⟩ := Kd.R_form ho (by rw [HT1.out, HN1.out]; omega); rw [HT1.out] at hv1; subst hv1; have n1_ := Aside0.mk ho; have n2_ := Aside0.mk hb; have HGB := Aside0.mk hgb; clear HO HB; have HO := n1_; have HB := n2_; clear n1_ n2_ ho hb hg hat hgb hgl hcl))
            have own := Kd.own_of_R HO.out
            obtain ⟨_, ⟨hbad, _⟩ | ⟨g', cap', cur, hv, hgb, hh, hnc, hcm, hcs, ht⟩⟩ := own
            · cases hbad
            · injection hv with hv1 hv2 hv3
              injection hv1 with hv1
              injection hv1 with hv1
              subst hv1
              subst hv3
              rw [HT1.out, Nat.mul_one] at ht
              rw [HT1.out] at hnc
              clear hv2
              obtain ⟨cl, hcl⟩ : ∃ cl, cl = cur.toList := ⟨_, rfl⟩
              have hcl2 : cur = cl.toArray := by rw [hcl]
              subst hcl2
              rw [← hcl] at ht
              simp only [List.size_toArray] at hcs
              have han : a ≤ n := HAN.out
              obtain ⟨dp, c1, hr1, hd1⟩ := cutB g cap n1 (a + 1) (by have := HN1.out; omega) hnc
              obtain ⟨sp, c2, hr2, hd2⟩ := cutB g cap n1 a (by have := HN1.out; omega) hnc
              obtain ⟨m1, hm1⟩ : ∃ m, m = n1 - (a + 1) := ⟨_, rfl⟩
              obtain ⟨m2, hm2⟩ : ∃ m, m = n1 - a := ⟨_, rfl⟩
              obtain ⟨a1, ha1'⟩ : ∃ a1, a1 = a + 1 := ⟨_, rfl⟩
              rw [← hm1, ← ha1'] at hr1
              rw [← hm2] at hr2
              have hwr : IntKind.i64.wrap ((a : Int) + 1) = (a1 : Int) := by rw [ha1']; exact (i64_w _).trans ((w64 (by omega) (by omega)).trans rfl)
              have ha1z : (a1 : Int) ≤ 41 := by omega
              obtain ⟨cs, hcsd⟩ : ∃ cs : List Value, cs = (S.drop a).map (Value.int .u64) := ⟨_, rfl⟩
              have hcsl : cs.length = n - a := by rw [hcsd, List.length_map, List.length_drop, ← HN.out]
              have HCN := Aside0.mk (show cs.length = Nat.min m2 m1 by rw [hcsl, hm1, hm2]; have := HN1.out; show _ = min _ _; omega)
              have HFIT := Aside0.mk (show a1 + cs.length ≤ cl.length by have := HN1.out; omega)
              have HONE := Aside0.mk (show ∀ v ∈ cs, v.oneCell' = true by intro v hv; rw [hcsd] at hv; obtain ⟨y, _, rfl⟩ := List.mem_map.1 hv; rfl)
              have HH := Aside0.mk (show w1.drew.heap[g]? = some (.cells cl.toArray 23 (0, 0)) from hh)
              have HPOS := Aside0.mk (show 0 < cs.length → dp = some ⟨g, a1, none⟩ ∧ ∃ ad, sp = some ad ∧ ∀ j v, cs[j]? = some v → w1.drew.cell? (ad.add j) = some v by
                intro hp
                rw [hcsl] at hp
                refine ⟨by rw [ha1']; exact hd1 (by have := HN1.out; omega), ⟨g, a, none⟩, hd2 (by have := HN1.out; omega), fun j v hj => ?_⟩
                have hjl := (List.getElem?_eq_some_iff.1 hj).1
                rw [hcsl] at hjl
                have hcell := (Kd.R_celln 0 HO.out ((a + j : Nat) : Int) (by omega) (by have := HN1.out; omega)).1
                rw [Int.toNat_natCast] at hcell
                rw [Addr.add_lit]
                refine (show w1.cell? _ = _ from hcell).trans ?_
                rw [hcsd, List.getElem?_map, List.getElem?_drop, List.getElem?_eq_getElem (by rw [← HN.out]; omega)] at hj
                rw [← hj]
                unfold rdOf
                rw [Int.toNat_natCast, List.getD_eq_getElem?_getD, List.getElem?_append_left (by rw [← HN.out]; omega), List.getElem?_eq_getElem (by rw [← HN.out]; omega)]
                rfl)
              have HBD := Aside0.mk (show Below w.heap.size w w1.drew from HB.out.drew)
              have HROW := Aside0.mk (show (splice cl (a + 1) cs).take n1 = ((S ++ [0]).take (a + 1) ++ S.drop a).map (Value.int .u64) by
                have h1 := copy_row cl ((S ++ [0]).map (Value.int .u64)) cs a n (by rw [← HN1.out]; exact ht) (by rw [List.length_map, HT1.out, HN1.out]) hcsl han
                rw [← HN1.out] at h1
                rw [h1, hcsd, ← List.map_take, ← List.map_append])
              have HSIZE := Aside0.mk (show (splice cl (a + 1) cs).length = cap by rw [length_splice _ _ _ (by rw [← ha1']; exact HFIT.out)]; omega)
              have HNCC := Aside0.mk hnc
              have HCM := Aside0.mk hcm
              have HA1 := Aside0.mk ha1'
              have HMK := Aside0.mk (fun (W : World) (h : W.heap[g]? = some (.cells (splice cl a1 cs).toArray 23 (0, 0))) => (show Kd.R (Kd.int .u64) 23 W w.heap.size (fun _ => True) (.slice (some ⟨g, 0, none⟩) n1 cap) ((S ++ [0]).take (a + 1) ++ S.drop a) by
                have hl : ((S ++ [0]).take (a + 1) ++ S.drop a).length = n1 := by
                  rw [List.length_append, List.length_take, HT1.out, List.length_drop, ← HN.out]
                  have := HN1.out
                  have := HAN.out
                  omega
                have ho : W.ownsRow w.heap.size 23 1 (.slice (some ⟨g, 0, none⟩) n1 cap) ((S ++ [0]).take (a + 1) ++ S.drop a).length (encs (Value.int .u64) ((S ++ [0]).take (a + 1) ++ S.drop a)) := by
                  rw [hl]
                  refine ⟨by rw [encs_length, hl, Nat.mul_one], .inr ⟨g, cap, (splice cl a1 cs).toArray, rfl, HGB.out, h, HNCC.out, HCM.out, by simp only [List.size_toArray]; rw [HA1.out, HSIZE.out, Nat.mul_one], ?_⟩⟩
                  rw [Nat.mul_one, HA1.out]
                  exact HROW.out
                have hr := Kd.R_of_own (h1 := fun _ => rfl) (ok := fun _ => True) ho (fun _ _ => trivial)
                have hl2 := hl
                exact hr))
              have hazn : (a : Int) < (n1 : Int) := by have := HN1.out; omega
              have hazn2 : a < n1 := by omega
              have HAZ := Aside0.mk hazn
              clear hh hnc hcm hcs ht hcl hd1 hd2 hm1 hm2 ha1' hcsd hcsl han hgb
              go_region_law (refine step_copy_splice rfl (.tmp 67) (.tmp 70) 33 33 rfl 23 Try.underlying33 (by kernel_rfl) dp sp m1 c1 m2 c2 (by simp [Act.eval, Act.put]) (by simp [Act.eval, Act.put]) g a1 cl 23 HH.out cs HCN.out HPOS.out HFIT.out HONE.out w.heap.size w HBD.out HGB.out ?_; intro w4 hg4 hb4)
              all_goals
                have HO4 := Aside0.mk (HMK.out w4 hg4.out)
                have HB4 := Aside0.mk hb4
                obtain ⟨hx4, hf4⟩ := Kd.R_celln 0 HO4.out (a : Int) (Int.natCast_nonneg _) HAZ.out
                rw [Int.toNat_natCast] at hx4 hf4
                obtain ⟨z4, hz4⟩ : ∃ z, z = rdOf (0 : Int) ((S ++ [0]).take (a + 1) ++ S.drop a) (a : Int) := ⟨_, rfl⟩
                rw [← hz4] at hx4
                have HP := (Kd.R_putg HO4.out (a : Int) X).1
                rw [Int.toNat_natCast, ins_set S a X (by rw [← HN.out]; exact HAN.out)] at HP
                have HPP := Aside0.mk HP
                clear hz4 HP hg4 hb4 HO4 HO HB hr1 hr2 hwr HBD HH HPOS HCUR
                go_wp2_with (first | ((with_reducible refine gate_store (t := 23) (p := 75) rfl ?_); refine store_event (t := 23) (p := 75) (v := ?vo_w20) (w1 := (w4.setCell ⟨g, a, none⟩ (.int .u64 X))) ?hg ?ho ?hn ?hr ?_; (case ho => rfl); (case hg => rfl); (case hn => rfl); (case hr => first | (go_simp; done) | (go_simp; rfl)); intro w20 hw; subst hw; have HB := Aside0.mk (below_set HB4.out HGB.out : Below w.heap.size w (w4.setCell ⟨g, a, none⟩ (.int .u64 X))); have HO := HPP))
                refine ⟨⟨i + 1, S.take a ++ X :: S.drop a, by first | rfl | go_num, by have := HLT.out; omega, by have := HLT.out; omega, by rw [ins_len S a X (by rw [← HN.out]; exact HAN.out)]; have := HI.out; have := HN.out; omega, ⟨ins_ok HS.out (by rw [← HN.out]; exact HAN.out) HX.out HLO.out HHI.out⟩, HO, HB⟩, ?_⟩
                have := HLT.out
                simp [intOf]
                omega
          · obtain ⟨b, hb⟩ : ∃ b, b = a - 1 := ⟨_, rfl⟩
            have hab : b + 1 = a := by omega
            have hbn : b < n := by omega
            have ha0 : decide ((0 : Int) < (a : Int)) = true := decide_eq_true (by omega)
            have ha1 : decide (0 < a) = true := decide_eq_true hpos
            have hsub : (a : Int) - 1 = (b : Int) := by omega
            have hsw : IntKind.i64.wrap ((a : Int) - 1) = (b : Int) := by rw [hsub]; exact (i64_w _).trans (w64 (by omega) (by have := HN40.out; omega))
            have hbz : (b : Int) < (n : Int) := by omega
            have haz : (a : Int) < 41 := by have := HN40.out; omega
            obtain ⟨adb, eb, hxb⟩ := Kd.at_int HCS.out (b : Int) (Int.natCast_nonneg _) hbz
            cases eb
            obtain ⟨yb, hyb⟩ : ∃ yb, yb = S.getD b 0 := ⟨_, rfl⟩
            replace hxb : wr.cell? (adb.add b) = some (.int .u64 yb) := by rw [hyb]; exact hxb
            have HYB := Aside0.mk hyb
            have HBN := Aside0.mk (show b < S.length by rw [← HN.out]; exact hbn)
            have HAB := Aside0.mk hab
            by_cases hgt : X < yb
            · have hgd := decide_eq_true hgt
              have HHI2 := Aside0.mk (hi_step HBN.out (by rw [← hyb]; exact hgt) (by rw [hab]; exact HHI.out))
              clear hyb hgt hbn hab hb ha hpos
              go_wp2
              go_round
              case rel => exact ⟨b, by first | rfl | go_num, by have := HAN.out; have := HAB.out; omega, HHI2⟩
              case measure => have := HAB.out; simp [intOf]; omega
            · have hgd := decide_eq_false hgt
              by_cases heq : yb = X
              · have hqd : (yb == X) = true := by rw [heq]; exact beq_self_eq_true _
                clear hyb hgt hbn hab hb ha hpos heq
                go_wp2
                refine ⟨⟨i + 1, S, by first | rfl | go_num, by have := HLT.out; omega, by have := HLT.out; omega, by have := HI.out; have := HN.out; omega, HS, HO, HB⟩, ?_⟩
                have := HLT.out
                simp [intOf]
                omega
              · have hqd : (yb == X) = false := beq_eq_false_iff_ne.mpr heq
                have HLO := Aside0.mk (show ∀ y ∈ S.take a, y < X by rw [← hab]; exact lo_of HS.out HBN.out (by rw [← hyb]; omega))
                clear hyb hgt hbn hab hb ha hpos heq
                obtain ⟨n1, hn1⟩ : ∃ n1, n1 = n + 1 := ⟨_, rfl⟩
                have HN1 := Aside0.mk hn1
                have HT1 := Aside0.mk (show (S ++ [0]).length = n1 by rw [List.length_append, List.length_singleton, ← HN.out, hn1])
                have HCAP := Aside0.mk (show (S.length + 1) * 8 ≤ 140737488355328 by have := HN.out; have := HN40.out; omega)
                clear hn1
                have HCUR := Aside0.mk HO.out
                go_wp2_with (first
                  | ((with_reducible refine gate_builtin (b := .append) (xs := #[.tmp 61, .tmp 62]) rfl ?_); at_builtin; refine Kd.R_append (Kd.int .u64) (w0 := w) w.heap.size rfl (.tmp 61) (.tmp 62) 33 23 (.int .u64 0) 8 rfl Try.underlying33 (by kernel_rfl) rfl (by decide) (by omega) _ S 0 [.int .u64 0] (fun _ => True) (fun _ => False) rfl rfl ?aP (fun _ hk => hk.elim) ?aF ?aO ?aB ?aS ?aL ?_; (case aP => exact rfl); (case aF => exact (fun _ _ => trivial)); (case aO => exact HO.out); (case aB => exact HB.out); (case aS => exact below_size HB.out); (case aL => exact HCAP.out); intro v1 w1 ho hb hg hat; obtain ⟨g, cap, hv1, hgb, hgl, hcl⟩ := Kd.R_form ho (by rw [HT1.out, HN1.out]; omega); rw [HT1.out] at hv1; subst hv1; have n1_ := Aside0.mk ho; have n2_ := Aside0.mk hb; have HGB := Aside0.mk hgb; clear HO HB; have HO := n1_; have HB := n2_; clear n1_ n2_ ho hb hg hat hgb hgl hcl))
                have own := Kd.own_of_R HO.out
                obtain ⟨_, ⟨hbad, _⟩ | ⟨g', cap', cur, hv, hgb, hh, hnc, hcm, hcs, ht⟩⟩ := own
                · cases hbad
                · injection hv with hv1 hv2 hv3
                  injection hv1 with hv1
                  injection hv1 with hv1
                  subst hv1
                  subst hv3
                  rw [HT1.out, Nat.mul_one] at ht
                  rw [HT1.out] at hnc
                  clear hv2
                  obtain ⟨cl, hcl⟩ : ∃ cl, cl = cur.toList := ⟨_, rfl⟩
                  have hcl2 : cur = cl.toArray := by rw [hcl]
                  subst hcl2
                  rw [← hcl] at ht
                  simp only [List.size_toArray] at hcs
                  have han : a ≤ n := HAN.out
                  obtain ⟨dp, c1, hr1, hd1⟩ := cutB g cap n1 (a + 1) (by have := HN1.out; omega) hnc
                  obtain ⟨sp, c2, hr2, hd2⟩ := cutB g cap n1 a (by have := HN1.out; omega) hnc
                  obtain ⟨m1, hm1⟩ : ∃ m, m = n1 - (a + 1) := ⟨_, rfl⟩
                  obtain ⟨m2, hm2⟩ : ∃ m, m = n1 - a := ⟨_, rfl⟩
                  obtain ⟨a1, ha1'⟩ : ∃ a1, a1 = a + 1 := ⟨_, rfl⟩
                  rw [← hm1, ← ha1'] at hr1
                  rw [← hm2] at hr2
                  have hwr : IntKind.i64.wrap ((a : Int) + 1) = (a1 : Int) := by rw [ha1']; exact (i64_w _).trans ((w64 (by omega) (by omega)).trans rfl)
                  have ha1z : (a1 : Int) ≤ 41 := by omega
                  obtain ⟨cs, hcsd⟩ : ∃ cs : List Value, cs = (S.drop a).map (Value.int .u64) := ⟨_, rfl⟩
                  have hcsl : cs.length = n - a := by rw [hcsd, List.length_map, List.length_drop, ← HN.out]
                  have HCN := Aside0.mk (show cs.length = Nat.min m2 m1 by rw [hcsl, hm1, hm2]; have := HN1.out; show _ = min _ _; omega)
                  have HFIT := Aside0.mk (show a1 + cs.length ≤ cl.length by have := HN1.out; omega)
                  have HONE := Aside0.mk (show ∀ v ∈ cs, v.oneCell' = true by intro v hv; rw [hcsd] at hv; obtain ⟨y, _, rfl⟩ := List.mem_map.1 hv; rfl)
                  have HH := Aside0.mk (show w1.drew.heap[g]? = some (.cells cl.toArray 23 (0, 0)) from hh)
                  have HPOS := Aside0.mk (show 0 < cs.length → dp = some ⟨g, a1, none⟩ ∧ ∃ ad, sp = some ad ∧ ∀ j v, cs[j]? = some v → w1.drew.cell? (ad.add j) = some v by
                    intro hp
                    rw [hcsl] at hp
                    refine ⟨by rw [ha1']; exact hd1 (by have := HN1.out; omega), ⟨g, a, none⟩, hd2 (by have := HN1.out; omega), fun j v hj => ?_⟩
                    have hjl := (List.getElem?_eq_some_iff.1 hj).1
                    rw [hcsl] at hjl
                    have hcell := (Kd.R_celln 0 HO.out ((a + j : Nat) : Int) (by omega) (by have := HN1.out; omega)).1
                    rw [Int.toNat_natCast] at hcell
                    rw [Addr.add_lit]
                    refine (show w1.cell? _ = _ from hcell).trans ?_
                    rw [hcsd, List.getElem?_map, List.getElem?_drop, List.getElem?_eq_getElem (by rw [← HN.out]; omega)] at hj
                    rw [← hj]
                    unfold rdOf
                    rw [Int.toNat_natCast, List.getD_eq_getElem?_getD, List.getElem?_append_left (by rw [← HN.out]; omega), List.getElem?_eq_getElem (by rw [← HN.out]; omega)]
                    rfl)
                  have HBD := Aside0.mk (show Below w.heap.size w w1.drew from HB.out.drew)
                  have HROW := Aside0.mk (show (splice cl (a + 1) cs).take n1 = ((S ++ [0]).take (a + 1) ++ S.drop a).map (Value.int .u64) by
                    have h1 := copy_row cl ((S ++ [0]).map (Value.int .u64)) cs a n (by rw [← HN1.out]; exact ht) (by rw [List.length_map, HT1.out, HN1.out]) hcsl han
                    rw [← HN1.out] at h1
                    rw [h1, hcsd, ← List.map_take, ← List.map_append])
                  have HSIZE := Aside0.mk (show (splice cl (a + 1) cs).length = cap by rw [length_splice _ _ _ (by rw [← ha1']; exact HFIT.out)]; omega)
                  have HNCC := Aside0.mk hnc
                  have HCM := Aside0.mk hcm
                  have HA1 := Aside0.mk ha1'
                  have HMK := Aside0.mk (fun (W : World) (h : W.heap[g]? = some (.cells (splice cl a1 cs).toArray 23 (0, 0))) => (show Kd.R (Kd.int .u64) 23 W w.heap.size (fun _ => True) (.slice (some ⟨g, 0, none⟩) n1 cap) ((S ++ [0]).take (a + 1) ++ S.drop a) by
                    have hl : ((S ++ [0]).take (a + 1) ++ S.drop a).length = n1 := by
                      rw [List.length_append, List.length_take, HT1.out, List.length_drop, ← HN.out]
                      have := HN1.out
                      have := HAN.out
                      omega
                    have ho : W.ownsRow w.heap.size 23 1 (.slice (some ⟨g, 0, none⟩) n1 cap) ((S ++ [0]).take (a + 1) ++ S.drop a).length (encs (Value.int .u64) ((S ++ [0]).take (a + 1) ++ S.drop a)) := by
                      rw [hl]
                      refine ⟨by rw [encs_length, hl, Nat.mul_one], .inr ⟨g, cap, (splice cl a1 cs).toArray, rfl, HGB.out, h, HNCC.out, HCM.out, by simp only [List.size_toArray]; rw [HA1.out, HSIZE.out, Nat.mul_one], ?_⟩⟩
                      rw [Nat.mul_one, HA1.out]
                      exact HROW.out
                    have hr := Kd.R_of_own (h1 := fun _ => rfl) (ok := fun _ => True) ho (fun _ _ => trivial)
                    have hl2 := hl
                    exact hr))
                  have hazn : (a : Int) < (n1 : Int) := by have := HN1.out; omega
                  have hazn2 : a < n1 := by omega
                  have HAZ := Aside0.mk hazn
                  clear hh hnc hcm hcs ht hcl hd1 hd2 hm1 hm2 ha1' hcsd hcsl han hgb
                  go_region_law (refine step_copy_splice rfl (.tmp 67) (.tmp 70) 33 33 rfl 23 Try.underlying33 (by kernel_rfl) dp sp m1 c1 m2 c2 (by simp [Act.eval, Act.put]) (by simp [Act.eval, Act.put]) g a1 cl 23 HH.out cs HCN.out HPOS.out HFIT.out HONE.out w.heap.size w HBD.out HGB.out ?_; intro w4 hg4 hb4)
                  all_goals
                    have HO4 := Aside0.mk (HMK.out w4 hg4.out)
                    have HB4 := Aside0.mk hb4
                    obtain ⟨hx4, hf4⟩ := Kd.R_celln 0 HO4.out (a : Int) (Int.natCast_nonneg _) HAZ.out
                    rw [Int.toNat_natCast] at hx4 hf4
                    obtain ⟨z4, hz4⟩ : ∃ z, z = rdOf (0 : Int) ((S ++ [0]).take (a + 1) ++ S.drop a) (a : Int) := ⟨_, rfl⟩
                    rw [← hz4] at hx4
                    have HP := (Kd.R_putg HO4.out (a : Int) X).1
                    rw [Int.toNat_natCast, ins_set S a X (by rw [← HN.out]; exact HAN.out)] at HP
                    have HPP := Aside0.mk HP
                    clear hz4 HP hg4 hb4 HO4 HO HB hr1 hr2 hwr HBD HH HPOS HCUR
                    go_wp2_with (first | ((with_reducible refine gate_store (t := 23) (p := 75) rfl ?_); refine store_event (t := 23) (p := 75) (v := ?vo_w20) (w1 := (w4.setCell ⟨g, a, none⟩ (.int .u64 X))) ?hg ?ho ?hn ?hr ?_; (case ho => rfl); (case hg => rfl); (case hn => rfl); (case hr => first | (go_simp; done) | (go_simp; rfl)); intro w20 hw; subst hw; have HB := Aside0.mk (below_set HB4.out HGB.out : Below w.heap.size w (w4.setCell ⟨g, a, none⟩ (.int .u64 X))); have HO := HPP))
                    refine ⟨⟨i + 1, S.take a ++ X :: S.drop a, by first | rfl | go_num, by have := HLT.out; omega, by have := HLT.out; omega, by rw [ins_len S a X (by rw [← HN.out]; exact HAN.out)]; have := HI.out; have := HN.out; omega, ⟨ins_ok HS.out (by rw [← HN.out]; exact HAN.out) HX.out HLO.out HHI.out⟩, HO, HB⟩, ?_⟩
                    have := HLT.out
                    simp [intOf]
                    omega
      · have hn0z : decide ((0 : Int) < (n : Int)) = false := decide_eq_false (by omega)
        have hn0n : decide (0 < n) = false := decide_eq_false (by omega)
        obtain ⟨X, hX⟩ : ∃ X, X = x := ⟨_, rfl⟩
        subst hX
        clear hn0
        go_wp2
        go_loop [8] (fun v8 => ∃ (a : Nat), v8 = .int .i64 a ∧ a ≤ n ∧ Aside0 (∀ y ∈ S.drop a, X < y)) (fun v => (intOf v).toNat)
        case atStart => exact ⟨n, by first | rfl | go_num, Nat.le_refl _, ⟨by intro y hy; rw [List.drop_of_length_le (by rw [← HN.out]; exact Nat.le_refl _)] at hy; cases hy⟩⟩
        case round =>
          obtain ⟨a, rfl, ha, HHI⟩ := hrel
          have HAN := Aside0.mk ha
          rcases Nat.eq_zero_or_pos a with haa | hpos
          · have HLO := Aside0.mk (show ∀ y ∈ S.take a, y < X by intro y hy; rw [haa] at hy; cases hy)
            have ha0 : decide ((0 : Int) < (a : Int)) = false := decide_eq_false (by omega)
            have ha0n : decide (0 < a) = false := decide_eq_false (by omega)
            have haz : (a : Int) < 40 := by omega
            clear haa ha
            obtain ⟨n1, hn1⟩ : ∃ n1, n1 = n + 1 := ⟨_, rfl⟩
            have HN1 := Aside0.mk hn1
            have HT1 := Aside0.mk (show (S ++ [0]).length = n1 by rw [List.length_append, List.length_singleton, ← HN.out, hn1])
            have HCAP := Aside0.mk (show (S.length + 1) * 8 ≤ 140737488355328 by have := HN.out; have := HN40.out; omega)
            clear hn1
            have HCUR := Aside0.mk HO.out
            go_wp2_with (first
              | ((with_reducible refine gate_builtin (b := .append) (xs := #[.tmp 61, .tmp 62]) rfl ?_); at_builtin; refine Kd.R_append (Kd.int .u64) (w0 := w) w.heap.size rfl (.tmp 61) (.tmp 62) 33 23 (.int .u64 0) 8 rfl Try.underlying33 (by kernel_rfl) rfl (by decide) (by omega) _ S 0 [.int .u64 0] (fun _ => True) (fun _ => False) rfl rfl ?aP (fun _ hk => hk.elim) ?aF ?aO ?aB ?aS ?aL ?_; (case aP => exact rfl); (case aF => exact (fun _ _ => trivial)); (case aO => exact HO.out); (case aB => exact HB.out); (case aS => exact below_size HB.out); (case aL => exact HCAP.out); intro v1 w1 ho hb hg hat; obtain ⟨g, cap, hv1, hgb, hgl, hcl⟩ := Kd.R_form ho (by rw [HT1.out, HN1.out]; omega); rw [HT1.out] at hv1; subst hv1; have n1_ := Aside0.mk ho; have n2_ := Aside0.mk hb; have HGB := Aside0.mk hgb; clear HO HB; have HO := n1_; have HB := n2_; clear n1_ n2_ ho hb hg hat hgb hgl hcl))
            have own := Kd.own_of_R HO.out
            obtain ⟨_, ⟨hbad, _⟩ | ⟨g', cap', cur, hv, hgb, hh, hnc, hcm, hcs, ht⟩⟩ := own
            · cases hbad
            · injection hv with hv1 hv2 hv3
              injection hv1 with hv1
              injection hv1 with hv1
              subst hv1
              subst hv3
              rw [HT1.out, Nat.mul_one] at ht
              rw [HT1.out] at hnc
              clear hv2
              obtain ⟨cl, hcl⟩ : ∃ cl, cl = cur.toList := ⟨_, rfl⟩
              have hcl2 : cur = cl.toArray := by rw [hcl]
              subst hcl2
              rw [← hcl] at ht
              simp only [List.size_toArray] at hcs
              have han : a ≤ n := HAN.out
              obtain ⟨dp, c1, hr1, hd1⟩ := cutB g cap n1 (a + 1) (by have := HN1.out; omega) hnc
              obtain ⟨sp, c2, hr2, hd2⟩ := cutB g cap n1 a (by have := HN1.out; omega) hnc
              obtain ⟨m1, hm1⟩ : ∃ m, m = n1 - (a + 1) := ⟨_, rfl⟩
              obtain ⟨m2, hm2⟩ : ∃ m, m = n1 - a := ⟨_, rfl⟩
              obtain ⟨a1, ha1'⟩ : ∃ a1, a1 = a + 1 := ⟨_, rfl⟩
              rw [← hm1, ← ha1'] at hr1
              rw [← hm2] at hr2
              have hwr : IntKind.i64.wrap ((a : Int) + 1) = (a1 : Int) := by rw [ha1']; exact (i64_w _).trans ((w64 (by omega) (by omega)).trans rfl)
              have ha1z : (a1 : Int) ≤ 41 := by omega
              obtain ⟨cs, hcsd⟩ : ∃ cs : List Value, cs = (S.drop a).map (Value.int .u64) := ⟨_, rfl⟩
              have hcsl : cs.length = n - a := by rw [hcsd, List.length_map, List.length_drop, ← HN.out]
              have HCN := Aside0.mk (show cs.length = Nat.min m2 m1 by rw [hcsl, hm1, hm2]; have := HN1.out; show _ = min _ _; omega)
              have HFIT := Aside0.mk (show a1 + cs.length ≤ cl.length by have := HN1.out; omega)
              have HONE := Aside0.mk (show ∀ v ∈ cs, v.oneCell' = true by intro v hv; rw [hcsd] at hv; obtain ⟨y, _, rfl⟩ := List.mem_map.1 hv; rfl)
              have HH := Aside0.mk (show w1.drew.heap[g]? = some (.cells cl.toArray 23 (0, 0)) from hh)
              have HPOS := Aside0.mk (show 0 < cs.length → dp = some ⟨g, a1, none⟩ ∧ ∃ ad, sp = some ad ∧ ∀ j v, cs[j]? = some v → w1.drew.cell? (ad.add j) = some v by
                intro hp
                rw [hcsl] at hp
                refine ⟨by rw [ha1']; exact hd1 (by have := HN1.out; omega), ⟨g, a, none⟩, hd2 (by have := HN1.out; omega), fun j v hj => ?_⟩
                have hjl := (List.getElem?_eq_some_iff.1 hj).1
                rw [hcsl] at hjl
                have hcell := (Kd.R_celln 0 HO.out ((a + j : Nat) : Int) (by omega) (by have := HN1.out; omega)).1
                rw [Int.toNat_natCast] at hcell
                rw [Addr.add_lit]
                refine (show w1.cell? _ = _ from hcell).trans ?_
                rw [hcsd, List.getElem?_map, List.getElem?_drop, List.getElem?_eq_getElem (by rw [← HN.out]; omega)] at hj
                rw [← hj]
                unfold rdOf
                rw [Int.toNat_natCast, List.getD_eq_getElem?_getD, List.getElem?_append_left (by rw [← HN.out]; omega), List.getElem?_eq_getElem (by rw [← HN.out]; omega)]
                rfl)
              have HBD := Aside0.mk (show Below w.heap.size w w1.drew from HB.out.drew)
              have HROW := Aside0.mk (show (splice cl (a + 1) cs).take n1 = ((S ++ [0]).take (a + 1) ++ S.drop a).map (Value.int .u64) by
                have h1 := copy_row cl ((S ++ [0]).map (Value.int .u64)) cs a n (by rw [← HN1.out]; exact ht) (by rw [List.length_map, HT1.out, HN1.out]) hcsl han
                rw [← HN1.out] at h1
                rw [h1, hcsd, ← List.map_take, ← List.map_append])
              have HSIZE := Aside0.mk (show (splice cl (a + 1) cs).length = cap by rw [length_splice _ _ _ (by rw [← ha1']; exact HFIT.out)]; omega)
              have HNCC := Aside0.mk hnc
              have HCM := Aside0.mk hcm
              have HA1 := Aside0.mk ha1'
              have HMK := Aside0.mk (fun (W : World) (h : W.heap[g]? = some (.cells (splice cl a1 cs).toArray 23 (0, 0))) => (show Kd.R (Kd.int .u64) 23 W w.heap.size (fun _ => True) (.slice (some ⟨g, 0, none⟩) n1 cap) ((S ++ [0]).take (a + 1) ++ S.drop a) by
                have hl : ((S ++ [0]).take (a + 1) ++ S.drop a).length = n1 := by
                  rw [List.length_append, List.length_take, HT1.out, List.length_drop, ← HN.out]
                  have := HN1.out
                  have := HAN.out
                  omega
                have ho : W.ownsRow w.heap.size 23 1 (.slice (some ⟨g, 0, none⟩) n1 cap) ((S ++ [0]).take (a + 1) ++ S.drop a).length (encs (Value.int .u64) ((S ++ [0]).take (a + 1) ++ S.drop a)) := by
                  rw [hl]
                  refine ⟨by rw [encs_length, hl, Nat.mul_one], .inr ⟨g, cap, (splice cl a1 cs).toArray, rfl, HGB.out, h, HNCC.out, HCM.out, by simp only [List.size_toArray]; rw [HA1.out, HSIZE.out, Nat.mul_one], ?_⟩⟩
                  rw [Nat.mul_one, HA1.out]
                  exact HROW.out
                have hr := Kd.R_of_own (h1 := fun _ => rfl) (ok := fun _ => True) ho (fun _ _ => trivial)
                have hl2 := hl
                exact hr))
              have hazn : (a : Int) < (n1 : Int) := by have := HN1.out; omega
              have hazn2 : a < n1 := by omega
              have HAZ := Aside0.mk hazn
              clear hh hnc hcm hcs ht hcl hd1 hd2 hm1 hm2 ha1' hcsd hcsl han hgb
              go_region_law (refine step_copy_splice rfl (.tmp 67) (.tmp 70) 33 33 rfl 23 Try.underlying33 (by kernel_rfl) dp sp m1 c1 m2 c2 (by simp [Act.eval, Act.put]) (by simp [Act.eval, Act.put]) g a1 cl 23 HH.out cs HCN.out HPOS.out HFIT.out HONE.out w.heap.size w HBD.out HGB.out ?_; intro w4 hg4 hb4)
              all_goals
                have HO4 := Aside0.mk (HMK.out w4 hg4.out)
                have HB4 := Aside0.mk hb4
                obtain ⟨hx4, hf4⟩ := Kd.R_celln 0 HO4.out (a : Int) (Int.natCast_nonneg _) HAZ.out
                rw [Int.toNat_natCast] at hx4 hf4
                obtain ⟨z4, hz4⟩ : ∃ z, z = rdOf (0 : Int) ((S ++ [0]).take (a + 1) ++ S.drop a) (a : Int) := ⟨_, rfl⟩
                rw [← hz4] at hx4
                have HP := (Kd.R_putg HO4.out (a : Int) X).1
                rw [Int.toNat_natCast, ins_set S a X (by rw [← HN.out]; exact HAN.out)] at HP
                have HPP := Aside0.mk HP
                clear hz4 HP hg4 hb4 HO4 HO HB hr1 hr2 hwr HBD HH HPOS HCUR
                go_wp2_with (first | ((with_reducible refine gate_store (t := 23) (p := 75) rfl ?_); refine store_event (t := 23) (p := 75) (v := ?vo_w20) (w1 := (w4.setCell ⟨g, a, none⟩ (.int .u64 X))) ?hg ?ho ?hn ?hr ?_; (case ho => rfl); (case hg => rfl); (case hn => rfl); (case hr => first | (go_simp; done) | (go_simp; rfl)); intro w20 hw; subst hw; have HB := Aside0.mk (below_set HB4.out HGB.out : Below w.heap.size w (w4.setCell ⟨g, a, none⟩ (.int .u64 X))); have HO := HPP))
                refine ⟨⟨i + 1, S.take a ++ X :: S.drop a, by first | rfl | go_num, by have := HLT.out; omega, by have := HLT.out; omega, by rw [ins_len S a X (by rw [← HN.out]; exact HAN.out)]; have := HI.out; have := HN.out; omega, ⟨ins_ok HS.out (by rw [← HN.out]; exact HAN.out) HX.out HLO.out HHI.out⟩, HO, HB⟩, ?_⟩
                have := HLT.out
                simp [intOf]
                omega
          · obtain ⟨b, hb⟩ : ∃ b, b = a - 1 := ⟨_, rfl⟩
            have hab : b + 1 = a := by omega
            have hbn : b < n := by omega
            have ha0 : decide ((0 : Int) < (a : Int)) = true := decide_eq_true (by omega)
            have ha1 : decide (0 < a) = true := decide_eq_true hpos
            have hsub : (a : Int) - 1 = (b : Int) := by omega
            have hsw : IntKind.i64.wrap ((a : Int) - 1) = (b : Int) := by rw [hsub]; exact (i64_w _).trans (w64 (by omega) (by have := HN40.out; omega))
            have hbz : (b : Int) < (n : Int) := by omega
            have haz : (a : Int) < 41 := by have := HN40.out; omega
            obtain ⟨adb, eb, hxb⟩ := Kd.at_int HCS.out (b : Int) (Int.natCast_nonneg _) hbz
            cases eb
            obtain ⟨yb, hyb⟩ : ∃ yb, yb = S.getD b 0 := ⟨_, rfl⟩
            replace hxb : wr.cell? (adb.add b) = some (.int .u64 yb) := by rw [hyb]; exact hxb
            have HYB := Aside0.mk hyb
            have HBN := Aside0.mk (show b < S.length by rw [← HN.out]; exact hbn)
            have HAB := Aside0.mk hab
            by_cases hgt : X < yb
            · have hgd := decide_eq_true hgt
              have HHI2 := Aside0.mk (hi_step HBN.out (by rw [← hyb]; exact hgt) (by rw [hab]; exact HHI.out))
              clear hyb hgt hbn hab hb ha hpos
              go_wp2
              go_round
              case rel => exact ⟨b, by first | rfl | go_num, by have := HAN.out; have := HAB.out; omega, HHI2⟩
              case measure => have := HAB.out; simp [intOf]; omega
            · have hgd := decide_eq_false hgt
              by_cases heq : yb = X
              · have hqd : (yb == X) = true := by rw [heq]; exact beq_self_eq_true _
                clear hyb hgt hbn hab hb ha hpos heq
                go_wp2
                refine ⟨⟨i + 1, S, by first | rfl | go_num, by have := HLT.out; omega, by have := HLT.out; omega, by have := HI.out; have := HN.out; omega, HS, HO, HB⟩, ?_⟩
                have := HLT.out
                simp [intOf]
                omega
              · have hqd : (yb == X) = false := beq_eq_false_iff_ne.mpr heq
                have HLO := Aside0.mk (show ∀ y ∈ S.take a, y < X by rw [← hab]; exact lo_of HS.out HBN.out (by rw [← hyb]; omega))
                clear hyb hgt hbn hab hb ha hpos heq
                obtain ⟨n1, hn1⟩ : ∃ n1, n1 = n + 1 := ⟨_, rfl⟩
                have HN1 := Aside0.mk hn1
                have HT1 := Aside0.mk (show (S ++ [0]).length = n1 by rw [List.length_append, List.length_singleton, ← HN.out, hn1])
                have HCAP := Aside0.mk (show (S.length + 1) * 8 ≤ 140737488355328 by have := HN.out; have := HN40.out; omega)
                clear hn1
                have HCUR := Aside0.mk HO.out
                go_wp2_with (first
                  | ((with_reducible refine gate_builtin (b := .append) (xs := #[.tmp 61, .tmp 62]) rfl ?_); at_builtin; refine Kd.R_append (Kd.int .u64) (w0 := w) w.heap.size rfl (.tmp 61) (.tmp 62) 33 23 (.int .u64 0) 8 rfl Try.underlying33 (by kernel_rfl) rfl (by decide) (by omega) _ S 0 [.int .u64 0] (fun _ => True) (fun _ => False) rfl rfl ?aP (fun _ hk => hk.elim) ?aF ?aO ?aB ?aS ?aL ?_; (case aP => exact rfl); (case aF => exact (fun _ _ => trivial)); (case aO => exact HO.out); (case aB => exact HB.out); (case aS => exact below_size HB.out); (case aL => exact HCAP.out); intro v1 w1 ho hb hg hat; obtain ⟨g, cap, hv1, hgb, hgl, hcl⟩ := Kd.R_form ho (by rw [HT1.out, HN1.out]; omega); rw [HT1.out] at hv1; subst hv1; have n1_ := Aside0.mk ho; have n2_ := Aside0.mk hb; have HGB := Aside0.mk hgb; clear HO HB; have HO := n1_; have HB := n2_; clear n1_ n2_ ho hb hg hat hgb hgl hcl))
                have own := Kd.own_of_R HO.out
                obtain ⟨_, ⟨hbad, _⟩ | ⟨g', cap', cur, hv, hgb, hh, hnc, hcm, hcs, ht⟩⟩ := own
                · cases hbad
                · injection hv with hv1 hv2 hv3
                  injection hv1 with hv1
                  injection hv1 with hv1
                  subst hv1
                  subst hv3
                  rw [HT1.out, Nat.mul_one] at ht
                  rw [HT1.out] at hnc
                  clear hv2
                  obtain ⟨cl, hcl⟩ : ∃ cl, cl = cur.toList := ⟨_, rfl⟩
                  have hcl2 : cur = cl.toArray := by rw [hcl]
                  subst hcl2
                  rw [← hcl] at ht
                  simp only [List.size_toArray] at hcs
                  have han : a ≤ n := HAN.out
                  obtain ⟨dp, c1, hr1, hd1⟩ := cutB g cap n1 (a + 1) (by have := HN1.out; omega) hnc
                  obtain ⟨sp, c2, hr2, hd2⟩ := cutB g cap n1 a (by have := HN1.out; omega) hnc
                  obtain ⟨m1, hm1⟩ : ∃ m, m = n1 - (a + 1) := ⟨_, rfl⟩
                  obtain ⟨m2, hm2⟩ : ∃ m, m = n1 - a := ⟨_, rfl⟩
                  obtain ⟨a1, ha1'⟩ : ∃ a1, a1 = a + 1 := ⟨_, rfl⟩
                  rw [← hm1, ← ha1'] at hr1
                  rw [← hm2] at hr2
                  have hwr : IntKind.i64.wrap ((a : Int) + 1) = (a1 : Int) := by rw [ha1']; exact (i64_w _).trans ((w64 (by omega) (by omega)).trans rfl)
                  have ha1z : (a1 : Int) ≤ 41 := by omega
                  obtain ⟨cs, hcsd⟩ : ∃ cs : List Value, cs = (S.drop a).map (Value.int .u64) := ⟨_, rfl⟩
                  have hcsl : cs.length = n - a := by rw [hcsd, List.length_map, List.length_drop, ← HN.out]
                  have HCN := Aside0.mk (show cs.length = Nat.min m2 m1 by rw [hcsl, hm1, hm2]; have := HN1.out; show _ = min _ _; omega)
                  have HFIT := Aside0.mk (show a1 + cs.length ≤ cl.length by have := HN1.out; omega)
                  have HONE := Aside0.mk (show ∀ v ∈ cs, v.oneCell' = true by intro v hv; rw [hcsd] at hv; obtain ⟨y, _, rfl⟩ := List.mem_map.1 hv; rfl)
                  have HH := Aside0.mk (show w1.drew.heap[g]? = some (.cells cl.toArray 23 (0, 0)) from hh)
                  have HPOS := Aside0.mk (show 0 < cs.length → dp = some ⟨g, a1, none⟩ ∧ ∃ ad, sp = some ad ∧ ∀ j v, cs[j]? = some v → w1.drew.cell? (ad.add j) = some v by
                    intro hp
                    rw [hcsl] at hp
                    refine ⟨by rw [ha1']; exact hd1 (by have := HN1.out; omega), ⟨g, a, none⟩, hd2 (by have := HN1.out; omega), fun j v hj => ?_⟩
                    have hjl := (List.getElem?_eq_some_iff.1 hj).1
                    rw [hcsl] at hjl
                    have hcell := (Kd.R_celln 0 HO.out ((a + j : Nat) : Int) (by omega) (by have := HN1.out; omega)).1
                    rw [Int.toNat_natCast] at hcell
                    rw [Addr.add_lit]
                    refine (show w1.cell? _ = _ from hcell).trans ?_
                    rw [hcsd, List.getElem?_map, List.getElem?_drop, List.getElem?_eq_getElem (by rw [← HN.out]; omega)] at hj
                    rw [← hj]
                    unfold rdOf
                    rw [Int.toNat_natCast, List.getD_eq_getElem?_getD, List.getElem?_append_left (by rw [← HN.out]; omega), List.getElem?_eq_getElem (by rw [← HN.out]; omega)]
                    rfl)
                  have HBD := Aside0.mk (show Below w.heap.size w w1.drew from HB.out.drew)
                  have HROW := Aside0.mk (show (splice cl (a + 1) cs).take n1 = ((S ++ [0]).take (a + 1) ++ S.drop a).map (Value.int .u64) by
                    have h1 := copy_row cl ((S ++ [0]).map (Value.int .u64)) cs a n (by rw [← HN1.out]; exact ht) (by rw [List.length_map, HT1.out, HN1.out]) hcsl han
                    rw [← HN1.out] at h1
                    rw [h1, hcsd, ← List.map_take, ← List.map_append])
                  have HSIZE := Aside0.mk (show (splice cl (a + 1) cs).length = cap by rw [length_splice _ _ _ (by rw [← ha1']; exact HFIT.out)]; omega)
                  have HNCC := Aside0.mk hnc
                  have HCM := Aside0.mk hcm
                  have HA1 := Aside0.mk ha1'
                  have HMK := Aside0.mk (fun (W : World) (h : W.heap[g]? = some (.cells (splice cl a1 cs).toArray 23 (0, 0))) => (show Kd.R (Kd.int .u64) 23 W w.heap.size (fun _ => True) (.slice (some ⟨g, 0, none⟩) n1 cap) ((S ++ [0]).take (a + 1) ++ S.drop a) by
                    have hl : ((S ++ [0]).take (a + 1) ++ S.drop a).length = n1 := by
                      rw [List.length_append, List.length_take, HT1.out, List.length_drop, ← HN.out]
                      have := HN1.out
                      have := HAN.out
                      omega
                    have ho : W.ownsRow w.heap.size 23 1 (.slice (some ⟨g, 0, none⟩) n1 cap) ((S ++ [0]).take (a + 1) ++ S.drop a).length (encs (Value.int .u64) ((S ++ [0]).take (a + 1) ++ S.drop a)) := by
                      rw [hl]
                      refine ⟨by rw [encs_length, hl, Nat.mul_one], .inr ⟨g, cap, (splice cl a1 cs).toArray, rfl, HGB.out, h, HNCC.out, HCM.out, by simp only [List.size_toArray]; rw [HA1.out, HSIZE.out, Nat.mul_one], ?_⟩⟩
                      rw [Nat.mul_one, HA1.out]
                      exact HROW.out
                    have hr := Kd.R_of_own (h1 := fun _ => rfl) (ok := fun _ => True) ho (fun _ _ => trivial)
                    have hl2 := hl
                    exact hr))
                  have hazn : (a : Int) < (n1 : Int) := by have := HN1.out; omega
                  have hazn2 : a < n1 := by omega
                  have HAZ := Aside0.mk hazn
                  clear hh hnc hcm hcs ht hcl hd1 hd2 hm1 hm2 ha1' hcsd hcsl han hgb
                  go_region_law (refine step_copy_splice rfl (.tmp 67) (.tmp 70) 33 33 rfl 23 Try.underlying33 (by kernel_rfl) dp sp m1 c1 m2 c2 (by simp [Act.eval, Act.put]) (by simp [Act.eval, Act.put]) g a1 cl 23 HH.out cs HCN.out HPOS.out HFIT.out HONE.out w.heap.size w HBD.out HGB.out ?_; intro w4 hg4 hb4)
                  all_goals
                    have HO4 := Aside0.mk (HMK.out w4 hg4.out)
                    have HB4 := Aside0.mk hb4
                    obtain ⟨hx4, hf4⟩ := Kd.R_celln 0 HO4.out (a : Int) (Int.natCast_nonneg _) HAZ.out
                    rw [Int.toNat_natCast] at hx4 hf4
                    obtain ⟨z4, hz4⟩ : ∃ z, z = rdOf (0 : Int) ((S ++ [0]).take (a + 1) ++ S.drop a) (a : Int) := ⟨_, rfl⟩
                    rw [← hz4] at hx4
                    have HP := (Kd.R_putg HO4.out (a : Int) X).1
                    rw [Int.toNat_natCast, ins_set S a X (by rw [← HN.out]; exact HAN.out)] at HP
                    have HPP := Aside0.mk HP
                    clear hz4 HP hg4 hb4 HO4 HO HB hr1 hr2 hwr HBD HH HPOS HCUR
                    go_wp2_with (first | ((with_reducible refine gate_store (t := 23) (p := 75) rfl ?_); refine store_event (t := 23) (p := 75) (v := ?vo_w20) (w1 := (w4.setCell ⟨g, a, none⟩ (.int .u64 X))) ?hg ?ho ?hn ?hr ?_; (case ho => rfl); (case hg => rfl); (case hn => rfl); (case hr => first | (go_simp; done) | (go_simp; rfl)); intro w20 hw; subst hw; have HB := Aside0.mk (below_set HB4.out HGB.out : Below w.heap.size w (w4.setCell ⟨g, a, none⟩ (.int .u64 X))); have HO := HPP))
                    refine ⟨⟨i + 1, S.take a ++ X :: S.drop a, by first | rfl | go_num, by have := HLT.out; omega, by have := HLT.out; omega, by rw [ins_len S a X (by rw [← HN.out]; exact HAN.out)]; have := HI.out; have := HN.out; omega, ⟨ins_ok HS.out (by rw [← HN.out]; exact HAN.out) HX.out HLO.out HHI.out⟩, HO, HB⟩, ?_⟩
                    have := HLT.out
                    simp [intOf]
                    omega
      · have hn0z : decide ((0 : Int) < (n : Int)) = true := decide_eq_true (by omega)
        have hn0n : decide (0 < n) = true := decide_eq_true hn0
        obtain ⟨ad0, e0, hx0⟩ := Kd.at_int HCS.out 0 (by decide) (by omega)
        cases e0
        obtain ⟨y0, hy0⟩ : ∃ y0, y0 = S.getD 0 0 := ⟨_, rfl⟩
        have hn0zz : (0 : Int) < (n : Int) := by omega
        have hx0' : wr.cell? (ad0.add 0) = some (.int .u64 y0) := by rw [hy0]; exact hx0
        have hx0'' : wr.cell? ad0 = some (.int .u64 y0) := by
          have e : ad0.add 0 = ad0 := by simp [Addr.add]
          rw [e] at hx0'
          exact hx0'
        clear hx0
        obtain ⟨X, hX⟩ : ∃ X, X = Go.bits .xor .u64 y0 (Go.bits .and .u64 x 255) := ⟨_, rfl⟩
        have HX1 := Aside0.mk (show 0 ≤ X ∧ X < 18446744073709551616 by rw [hX]; exact xor_rng _ _)
        have hXe : Go.bits .xor .u64 y0 (Go.bits .and .u64 x 255) = X := hX.symm
        clear HX hX hy0 hn0
        have HX := HX1
        clear HX1
        go_wp2
        go_loop [8] (fun v8 => ∃ (a : Nat), v8 = .int .i64 a ∧ a ≤ n ∧ Aside0 (∀ y ∈ S.drop a, X < y)) (fun v => (intOf v).toNat)
        case atStart => exact ⟨n, by first | rfl | go_num, Nat.le_refl _, ⟨by intro y hy; rw [List.drop_of_length_le (by rw [← HN.out]; exact Nat.le_refl _)] at hy; cases hy⟩⟩
        case round =>
          obtain ⟨a, rfl, ha, HHI⟩ := hrel
          have HAN := Aside0.mk ha
          rcases Nat.eq_zero_or_pos a with haa | hpos
          · have HLO := Aside0.mk (show ∀ y ∈ S.take a, y < X by intro y hy; rw [haa] at hy; cases hy)
            have ha0 : decide ((0 : Int) < (a : Int)) = false := decide_eq_false (by omega)
            have ha0n : decide (0 < a) = false := decide_eq_false (by omega)
            have haz : (a : Int) < 40 := by omega
            clear haa ha
            obtain ⟨n1, hn1⟩ : ∃ n1, n1 = n + 1 := ⟨_, rfl⟩
            have HN1 := Aside0.mk hn1
            have HT1 := Aside0.mk (show (S ++ [0]).length = n1 by rw [List.length_append, List.length_singleton, ← HN.out, hn1])
            have HCAP := Aside0.mk (show (S.length + 1) * 8 ≤ 140737488355328 by have := HN.out; have := HN40.out; omega)
            clear hn1
            have HCUR := Aside0.mk HO.out
            go_wp2_with (first
              | ((with_reducible refine gate_builtin (b := .append) (xs := #[.tmp 61, .tmp 62]) rfl ?_); at_builtin; refine Kd.R_append (Kd.int .u64) (w0 := w) w.heap.size rfl (.tmp 61) (.tmp 62) 33 23 (.int .u64 0) 8 rfl Try.underlying33 (by kernel_rfl) rfl (by decide) (by omega) _ S 0 [.int .u64 0] (fun _ => True) (fun _ => False) rfl rfl ?aP (fun _ hk => hk.elim) ?aF ?aO ?aB ?aS ?aL ?_; (case aP => exact rfl); (case aF => exact (fun _ _ => trivial)); (case aO => exact HO.out); (case aB => exact HB.out); (case aS => exact below_size HB.out); (case aL => exact HCAP.out); intro v1 w1 ho hb hg hat; obtain ⟨g, cap, hv1, hgb, hgl, hcl⟩ := Kd.R_form ho (by rw [HT1.out, HN1.out]; omega); rw [HT1.out] at hv1; subst hv1; have n1_ := Aside0.mk ho; have n2_ := Aside0.mk hb; have HGB := Aside0.mk hgb; clear HO HB; have HO := n1_; have HB := n2_; clear n1_ n2_ ho hb hg hat hgb hgl hcl))
            have own := Kd.own_of_R HO.out
            obtain ⟨_, ⟨hbad, _⟩ | ⟨g', cap', cur, hv, hgb, hh, hnc, hcm, hcs, ht⟩⟩ := own
            · cases hbad
            · injection hv with hv1 hv2 hv3
              injection hv1 with hv1
              injection hv1 with hv1
              subst hv1
              subst hv3
              rw [HT1.out, Nat.mul_one] at ht
              rw [HT1.out] at hnc
              clear hv2
              obtain ⟨cl, hcl⟩ : ∃ cl, cl = cur.toList := ⟨_, rfl⟩
              have hcl2 : cur = cl.toArray := by rw [hcl]
              subst hcl2
              rw [← hcl] at ht
              simp only [List.size_toArray] at hcs
              have han : a ≤ n := HAN.out
              obtain ⟨dp, c1, hr1, hd1⟩ := cutB g cap n1 (a + 1) (by have := HN1.out; omega) hnc
              obtain ⟨sp, c2, hr2, hd2⟩ := cutB g cap n1 a (by have := HN1.out; omega) hnc
              obtain ⟨m1, hm1⟩ : ∃ m, m = n1 - (a + 1) := ⟨_, rfl⟩
              obtain ⟨m2, hm2⟩ : ∃ m, m = n1 - a := ⟨_, rfl⟩
              obtain ⟨a1, ha1'⟩ : ∃ a1, a1 = a + 1 := ⟨_, rfl⟩
              rw [← hm1, ← ha1'] at hr1
              rw [← hm2] at hr2
              have hwr : IntKind.i64.wrap ((a : Int) + 1) = (a1 : Int) := by rw [ha1']; exact (i64_w _).trans ((w64 (by omega) (by omega)).trans rfl)
              have ha1z : (a1 : Int) ≤ 41 := by omega
              obtain ⟨cs, hcsd⟩ : ∃ cs : List Value, cs = (S.drop a).map (Value.int .u64) := ⟨_, rfl⟩
              have hcsl : cs.length = n - a := by rw [hcsd, List.length_map, List.length_drop, ← HN.out]
              have HCN := Aside0.mk (show cs.length = Nat.min m2 m1 by rw [hcsl, hm1, hm2]; have := HN1.out; show _ = min _ _; omega)
              have HFIT := Aside0.mk (show a1 + cs.length ≤ cl.length by have := HN1.out; omega)
              have HONE := Aside0.mk (show ∀ v ∈ cs, v.oneCell' = true by intro v hv; rw [hcsd] at hv; obtain ⟨y, _, rfl⟩ := List.mem_map.1 hv; rfl)
              have HH := Aside0.mk (show w1.drew.heap[g]? = some (.cells cl.toArray 23 (0, 0)) from hh)
              have HPOS := Aside0.mk (show 0 < cs.length → dp = some ⟨g, a1, none⟩ ∧ ∃ ad, sp = some ad ∧ ∀ j v, cs[j]? = some v → w1.drew.cell? (ad.add j) = some v by
                intro hp
                rw [hcsl] at hp
                refine ⟨by rw [ha1']; exact hd1 (by have := HN1.out; omega), ⟨g, a, none⟩, hd2 (by have := HN1.out; omega), fun j v hj => ?_⟩
                have hjl := (List.getElem?_eq_some_iff.1 hj).1
                rw [hcsl] at hjl
                have hcell := (Kd.R_celln 0 HO.out ((a + j : Nat) : Int) (by omega) (by have := HN1.out; omega)).1
                rw [Int.toNat_natCast] at hcell
                rw [Addr.add_lit]
                refine (show w1.cell? _ = _ from hcell).trans ?_
                rw [hcsd, List.getElem?_map, List.getElem?_drop, List.getElem?_eq_getElem (by rw [← HN.out]; omega)] at hj
                rw [← hj]
                unfold rdOf
                rw [Int.toNat_natCast, List.getD_eq_getElem?_getD, List.getElem?_append_left (by rw [← HN.out]; omega), List.getElem?_eq_getElem (by rw [← HN.out]; omega)]
                rfl)
              have HBD := Aside0.mk (show Below w.heap.size w w1.drew from HB.out.drew)
              have HROW := Aside0.mk (show (splice cl (a + 1) cs).take n1 = ((S ++ [0]).take (a + 1) ++ S.drop a).map (Value.int .u64) by
                have h1 := copy_row cl ((S ++ [0]).map (Value.int .u64)) cs a n (by rw [← HN1.out]; exact ht) (by rw [List.length_map, HT1.out, HN1.out]) hcsl han
                rw [← HN1.out] at h1
                rw [h1, hcsd, ← List.map_take, ← List.map_append])
              have HSIZE := Aside0.mk (show (splice cl (a + 1) cs).length = cap by rw [length_splice _ _ _ (by rw [← ha1']; exact HFIT.out)]; omega)
              have HNCC := Aside0.mk hnc
              have HCM := Aside0.mk hcm
              have HA1 := Aside0.mk ha1'
              have HMK := Aside0.mk (fun (W : World) (h : W.heap[g]? = some (.cells (splice cl a1 cs).toArray 23 (0, 0))) => (show Kd.R (Kd.int .u64) 23 W w.heap.size (fun _ => True) (.slice (some ⟨g, 0, none⟩) n1 cap) ((S ++ [0]).take (a + 1) ++ S.drop a) by
                have hl : ((S ++ [0]).take (a + 1) ++ S.drop a).length = n1 := by
                  rw [List.length_append, List.length_take, HT1.out, List.length_drop, ← HN.out]
                  have := HN1.out
                  have := HAN.out
                  omega
                have ho : W.ownsRow w.heap.size 23 1 (.slice (some ⟨g, 0, none⟩) n1 cap) ((S ++ [0]).take (a + 1) ++ S.drop a).length (encs (Value.int .u64) ((S ++ [0]).take (a + 1) ++ S.drop a)) := by
                  rw [hl]
                  refine ⟨by rw [encs_length, hl, Nat.mul_one], .inr ⟨g, cap, (splice cl a1 cs).toArray, rfl, HGB.out, h, HNCC.out, HCM.out, by simp only [List.size_toArray]; rw [HA1.out, HSIZE.out, Nat.mul_one], ?_⟩⟩
                  rw [Nat.mul_one, HA1.out]
                  exact HROW.out
                have hr := Kd.R_of_own (h1 := fun _ => rfl) (ok := fun _ => True) ho (fun _ _ => trivial)
                have hl2 := hl
                exact hr))
              have hazn : (a : Int) < (n1 : Int) := by have := HN1.out; omega
              have hazn2 : a < n1 := by omega
              have HAZ := Aside0.mk hazn
              clear hh hnc hcm hcs ht hcl hd1 hd2 hm1 hm2 ha1' hcsd hcsl han hgb
              go_region_law (refine step_copy_splice rfl (.tmp 67) (.tmp 70) 33 33 rfl 23 Try.underlying33 (by kernel_rfl) dp sp m1 c1 m2 c2 (by simp [Act.eval, Act.put]) (by simp [Act.eval, Act.put]) g a1 cl 23 HH.out cs HCN.out HPOS.out HFIT.out HONE.out w.heap.size w HBD.out HGB.out ?_; intro w4 hg4 hb4)
              all_goals
                have HO4 := Aside0.mk (HMK.out w4 hg4.out)
                have HB4 := Aside0.mk hb4
                obtain ⟨hx4, hf4⟩ := Kd.R_celln 0 HO4.out (a : Int) (Int.natCast_nonneg _) HAZ.out
                rw [Int.toNat_natCast] at hx4 hf4
                obtain ⟨z4, hz4⟩ : ∃ z, z = rdOf (0 : Int) ((S ++ [0]).take (a + 1) ++ S.drop a) (a : Int) := ⟨_, rfl⟩
                rw [← hz4] at hx4
                have HP := (Kd.R_putg HO4.out (a : Int) X).1
                rw [Int.toNat_natCast, ins_set S a X (by rw [← HN.out]; exact HAN.out)] at HP
                have HPP := Aside0.mk HP
                clear hz4 HP hg4 hb4 HO4 HO HB hr1 hr2 hwr HBD HH HPOS HCUR
                go_wp2_with (first | ((with_reducible refine gate_store (t := 23) (p := 75) rfl ?_); refine store_event (t := 23) (p := 75) (v := ?vo_w20) (w1 := (w4.setCell ⟨g, a, none⟩ (.int .u64 X))) ?hg ?ho ?hn ?hr ?_; (case ho => rfl); (case hg => rfl); (case hn => rfl); (case hr => first | (go_simp; done) | (go_simp; rfl)); intro w20 hw; subst hw; have HB := Aside0.mk (below_set HB4.out HGB.out : Below w.heap.size w (w4.setCell ⟨g, a, none⟩ (.int .u64 X))); have HO := HPP))
                refine ⟨⟨i + 1, S.take a ++ X :: S.drop a, by first | rfl | go_num, by have := HLT.out; omega, by have := HLT.out; omega, by rw [ins_len S a X (by rw [← HN.out]; exact HAN.out)]; have := HI.out; have := HN.out; omega, ⟨ins_ok HS.out (by rw [← HN.out]; exact HAN.out) HX.out HLO.out HHI.out⟩, HO, HB⟩, ?_⟩
                have := HLT.out
                simp [intOf]
                omega
          · obtain ⟨b, hb⟩ : ∃ b, b = a - 1 := ⟨_, rfl⟩
            have hab : b + 1 = a := by omega
            have hbn : b < n := by omega
            have ha0 : decide ((0 : Int) < (a : Int)) = true := decide_eq_true (by omega)
            have ha1 : decide (0 < a) = true := decide_eq_true hpos
            have hsub : (a : Int) - 1 = (b : Int) := by omega
            have hsw : IntKind.i64.wrap ((a : Int) - 1) = (b : Int) := by rw [hsub]; exact (i64_w _).trans (w64 (by omega) (by have := HN40.out; omega))
            have hbz : (b : Int) < (n : Int) := by omega
            have haz : (a : Int) < 41 := by have := HN40.out; omega
            obtain ⟨adb, eb, hxb⟩ := Kd.at_int HCS.out (b : Int) (Int.natCast_nonneg _) hbz
            (have eb2 : adb = ad0 := (Option.some.inj eb).symm; subst eb2)
            obtain ⟨yb, hyb⟩ : ∃ yb, yb = S.getD b 0 := ⟨_, rfl⟩
            replace hxb : wr.cell? (adb.add b) = some (.int .u64 yb) := by rw [hyb]; exact hxb
            have HYB := Aside0.mk hyb
            have HBN := Aside0.mk (show b < S.length by rw [← HN.out]; exact hbn)
            have HAB := Aside0.mk hab
            by_cases hgt : X < yb
            · have hgd := decide_eq_true hgt
              have HHI2 := Aside0.mk (hi_step HBN.out (by rw [← hyb]; exact hgt) (by rw [hab]; exact HHI.out))
              clear hyb hgt hbn hab hb ha hpos
              go_wp2
              go_round
              case rel => exact ⟨b, by first | rfl | go_num, by have := HAN.out; have := HAB.out; omega, HHI2⟩
              case measure => have := HAB.out; simp [intOf]; omega
            · have hgd := decide_eq_false hgt
              by_cases heq : yb = X
              · have hqd : (yb == X) = true := by rw [heq]; exact beq_self_eq_true _
                clear hyb hgt hbn hab hb ha hpos heq
                go_wp2
                refine ⟨⟨i + 1, S, by first | rfl | go_num, by have := HLT.out; omega, by have := HLT.out; omega, by have := HI.out; have := HN.out; omega, HS, HO, HB⟩, ?_⟩
                have := HLT.out
                simp [intOf]
                omega
              · have hqd : (yb == X) = false := beq_eq_false_iff_ne.mpr heq
                have HLO := Aside0.mk (show ∀ y ∈ S.take a, y < X by rw [← hab]; exact lo_of HS.out HBN.out (by rw [← hyb]; omega))
                clear hyb hgt hbn hab hb ha hpos heq
                obtain ⟨n1, hn1⟩ : ∃ n1, n1 = n + 1 := ⟨_, rfl⟩
                have HN1 := Aside0.mk hn1
                have HT1 := Aside0.mk (show (S ++ [0]).length = n1 by rw [List.length_append, List.length_singleton, ← HN.out, hn1])
                have HCAP := Aside0.mk (show (S.length + 1) * 8 ≤ 140737488355328 by have := HN.out; have := HN40.out; omega)
                clear hn1
                have HCUR := Aside0.mk HO.out
                go_wp2_with (first
                  | ((with_reducible refine gate_builtin (b := .append) (xs := #[.tmp 61, .tmp 62]) rfl ?_); at_builtin; refine Kd.R_append (Kd.int .u64) (w0 := w) w.heap.size rfl (.tmp 61) (.tmp 62) 33 23 (.int .u64 0) 8 rfl Try.underlying33 (by kernel_rfl) rfl (by decide) (by omega) _ S 0 [.int .u64 0] (fun _ => True) (fun _ => False) rfl rfl ?aP (fun _ hk => hk.elim) ?aF ?aO ?aB ?aS ?aL ?_; (case aP => exact rfl); (case aF => exact (fun _ _ => trivial)); (case aO => exact HO.out); (case aB => exact HB.out); (case aS => exact below_size HB.out); (case aL => exact HCAP.out); intro v1 w1 ho hb hg hat; obtain ⟨g, cap, hv1, hgb, hgl, hcl⟩ := Kd.R_form ho (by rw [HT1.out, HN1.out]; omega); rw [HT1.out] at hv1; subst hv1; have n1_ := Aside0.mk ho; have n2_ := Aside0.mk hb; have HGB := Aside0.mk hgb; clear HO HB; have HO := n1_; have HB := n2_; clear n1_ n2_ ho hb hg hat hgb hgl hcl))
                have own := Kd.own_of_R HO.out
                obtain ⟨_, ⟨hbad, _⟩ | ⟨g', cap', cur, hv, hgb, hh, hnc, hcm, hcs, ht⟩⟩ := own
                · cases hbad
                · injection hv with hv1 hv2 hv3
                  injection hv1 with hv1
                  injection hv1 with hv1
                  subst hv1
                  subst hv3
                  rw [HT1.out, Nat.mul_one] at ht
                  rw [HT1.out] at hnc
                  clear hv2
                  obtain ⟨cl, hcl⟩ : ∃ cl, cl = cur.toList := ⟨_, rfl⟩
                  have hcl2 : cur = cl.toArray := by rw [hcl]
                  subst hcl2
                  rw [← hcl] at ht
                  simp only [List.size_toArray] at hcs
                  have han : a ≤ n := HAN.out
                  obtain ⟨dp, c1, hr1, hd1⟩ := cutB g cap n1 (a + 1) (by have := HN1.out; omega) hnc
                  obtain ⟨sp, c2, hr2, hd2⟩ := cutB g cap n1 a (by have := HN1.out; omega) hnc
                  obtain ⟨m1, hm1⟩ : ∃ m, m = n1 - (a + 1) := ⟨_, rfl⟩
                  obtain ⟨m2, hm2⟩ : ∃ m, m = n1 - a := ⟨_, rfl⟩
                  obtain ⟨a1, ha1'⟩ : ∃ a1, a1 = a + 1 := ⟨_, rfl⟩
                  rw [← hm1, ← ha1'] at hr1
                  rw [← hm2] at hr2
                  have hwr : IntKind.i64.wrap ((a : Int) + 1) = (a1 : Int) := by rw [ha1']; exact (i64_w _).trans ((w64 (by omega) (by omega)).trans rfl)
                  have ha1z : (a1 : Int) ≤ 41 := by omega
                  obtain ⟨cs, hcsd⟩ : ∃ cs : List Value, cs = (S.drop a).map (Value.int .u64) := ⟨_, rfl⟩
                  have hcsl : cs.length = n - a := by rw [hcsd, List.length_map, List.length_drop, ← HN.out]
                  have HCN := Aside0.mk (show cs.length = Nat.min m2 m1 by rw [hcsl, hm1, hm2]; have := HN1.out; show _ = min _ _; omega)
                  have HFIT := Aside0.mk (show a1 + cs.length ≤ cl.length by have := HN1.out; omega)
                  have HONE := Aside0.mk (show ∀ v ∈ cs, v.oneCell' = true by intro v hv; rw [hcsd] at hv; obtain ⟨y, _, rfl⟩ := List.mem_map.1 hv; rfl)
                  have HH := Aside0.mk (show w1.drew.heap[g]? = some (.cells cl.toArray 23 (0, 0)) from hh)
                  have HPOS := Aside0.mk (show 0 < cs.length → dp = some ⟨g, a1, none⟩ ∧ ∃ ad, sp = some ad ∧ ∀ j v, cs[j]? = some v → w1.drew.cell? (ad.add j) = some v by
                    intro hp
                    rw [hcsl] at hp
                    refine ⟨by rw [ha1']; exact hd1 (by have := HN1.out; omega), ⟨g, a, none⟩, hd2 (by have := HN1.out; omega), fun j v hj => ?_⟩
                    have hjl := (List.getElem?_eq_some_iff.1 hj).1
                    rw [hcsl] at hjl
                    have hcell := (Kd.R_celln 0 HO.out ((a + j : Nat) : Int) (by omega) (by have := HN1.out; omega)).1
                    rw [Int.toNat_natCast] at hcell
                    rw [Addr.add_lit]
                    refine (show w1.cell? _ = _ from hcell).trans ?_
                    rw [hcsd, List.getElem?_map, List.getElem?_drop, List.getElem?_eq_getElem (by rw [← HN.out]; omega)] at hj
                    rw [← hj]
                    unfold rdOf
                    rw [Int.toNat_natCast, List.getD_eq_getElem?_getD, List.getElem?_append_left (by rw [← HN.out]; omega), List.getElem?_eq_getElem (by rw [← HN.out]; omega)]
                    rfl)
                  have HBD := Aside0.mk (show Below w.heap.size w w1.drew from HB.out.drew)
                  have HROW := Aside0.mk (show (splice cl (a + 1) cs).take n1 = ((S ++ [0]).take (a + 1) ++ S.drop a).map (Value.int .u64) by
                    have h1 := copy_row cl ((S ++ [0]).map (Value.int .u64)) cs a n (by rw [← HN1.out]; exact ht) (by rw [List.length_map, HT1.out, HN1.out]) hcsl han
                    rw [← HN1.out] at h1
                    rw [h1, hcsd, ← List.map_take, ← List.map_append])
                  have HSIZE := Aside0.mk (show (splice cl (a + 1) cs).length = cap by rw [length_splice _ _ _ (by rw [← ha1']; exact HFIT.out)]; omega)
                  have HNCC := Aside0.mk hnc
                  have HCM := Aside0.mk hcm
                  have HA1 := Aside0.mk ha1'
                  have HMK := Aside0.mk (fun (W : World) (h : W.heap[g]? = some (.cells (splice cl a1 cs).toArray 23 (0, 0))) => (show Kd.R (Kd.int .u64) 23 W w.heap.size (fun _ => True) (.slice (some ⟨g, 0, none⟩) n1 cap) ((S ++ [0]).take (a + 1) ++ S.drop a) by
                    have hl : ((S ++ [0]).take (a + 1) ++ S.drop a).length = n1 := by
                      rw [List.length_append, List.length_take, HT1.out, List.length_drop, ← HN.out]
                      have := HN1.out
                      have := HAN.out
                      omega
                    have ho : W.ownsRow w.heap.size 23 1 (.slice (some ⟨g, 0, none⟩) n1 cap) ((S ++ [0]).take (a + 1) ++ S.drop a).length (encs (Value.int .u64) ((S ++ [0]).take (a + 1) ++ S.drop a)) := by
                      rw [hl]
                      refine ⟨by rw [encs_length, hl, Nat.mul_one], .inr ⟨g, cap, (splice cl a1 cs).toArray, rfl, HGB.out, h, HNCC.out, HCM.out, by simp only [List.size_toArray]; rw [HA1.out, HSIZE.out, Nat.mul_one], ?_⟩⟩
                      rw [Nat.mul_one, HA1.out]
                      exact HROW.out
                    have hr := Kd.R_of_own (h1 := fun _ => rfl) (ok := fun _ => True) ho (fun _ _ => trivial)
                    have hl2 := hl
                    exact hr))
                  have hazn : (a : Int) < (n1 : Int) := by have := HN1.out; omega
                  have hazn2 : a < n1 := by omega
                  have HAZ := Aside0.mk hazn
                  clear hh hnc hcm hcs ht hcl hd1 hd2 hm1 hm2 ha1' hcsd hcsl han hgb
                  go_region_law (refine step_copy_splice rfl (.tmp 67) (.tmp 70) 33 33 rfl 23 Try.underlying33 (by kernel_rfl) dp sp m1 c1 m2 c2 (by simp [Act.eval, Act.put]) (by simp [Act.eval, Act.put]) g a1 cl 23 HH.out cs HCN.out HPOS.out HFIT.out HONE.out w.heap.size w HBD.out HGB.out ?_; intro w4 hg4 hb4)
                  all_goals
                    have HO4 := Aside0.mk (HMK.out w4 hg4.out)
                    have HB4 := Aside0.mk hb4
                    obtain ⟨hx4, hf4⟩ := Kd.R_celln 0 HO4.out (a : Int) (Int.natCast_nonneg _) HAZ.out
                    rw [Int.toNat_natCast] at hx4 hf4
                    obtain ⟨z4, hz4⟩ : ∃ z, z = rdOf (0 : Int) ((S ++ [0]).take (a + 1) ++ S.drop a) (a : Int) := ⟨_, rfl⟩
                    rw [← hz4] at hx4
                    have HP := (Kd.R_putg HO4.out (a : Int) X).1
                    rw [Int.toNat_natCast, ins_set S a X (by rw [← HN.out]; exact HAN.out)] at HP
                    have HPP := Aside0.mk HP
                    clear hz4 HP hg4 hb4 HO4 HO HB hr1 hr2 hwr HBD HH HPOS HCUR
                    go_wp2_with (first | ((with_reducible refine gate_store (t := 23) (p := 75) rfl ?_); refine store_event (t := 23) (p := 75) (v := ?vo_w20) (w1 := (w4.setCell ⟨g, a, none⟩ (.int .u64 X))) ?hg ?ho ?hn ?hr ?_; (case ho => rfl); (case hg => rfl); (case hn => rfl); (case hr => first | (go_simp; done) | (go_simp; rfl)); intro w20 hw; subst hw; have HB := Aside0.mk (below_set HB4.out HGB.out : Below w.heap.size w (w4.setCell ⟨g, a, none⟩ (.int .u64 X))); have HO := HPP))
                    refine ⟨⟨i + 1, S.take a ++ X :: S.drop a, by first | rfl | go_num, by have := HLT.out; omega, by have := HLT.out; omega, by rw [ins_len S a X (by rw [← HN.out]; exact HAN.out)]; have := HI.out; have := HN.out; omega, ⟨ins_ok HS.out (by rw [← HN.out]; exact HAN.out) HX.out HLO.out HHI.out⟩, HO, HB⟩, ?_⟩
                    have := HLT.out
                    simp [intOf]
                    omega
    · have hcase : (¬ (i : Int) < (len0 : Int)) ∨ ((i : Int) < (len0 : Int) ∧ ¬ (i : Int) < 40) := by omega
      have HS40 := Aside0.mk (show S.length ≤ 40 by omega)
      clear hlt hi40 hil hSi
      rcases hcase with h1 | ⟨h1, h2⟩
      · have hd1 := decide_eq_false h1
        have hd1n : decide (i < len0) = false := decide_eq_false (by omega)
        clear h1
        go_wp2
        go_ret
        exact ⟨_, S, rfl, HO.out, HS.out, HS40.out, HB.out⟩
      · have hd1 := decide_eq_true h1
        have hd1n : decide (i < len0) = true := decide_eq_true (by omega)
        have hd2 := decide_eq_false h2
        have hd2n : decide (i < 40) = false := decide_eq_false (by omega)
        clear h1 h2
        go_wp2
        go_ret
        exact ⟨_, S, rfl, HO.out, HS.out, HS40.out, HB.out⟩
end Go.Proofs.Ytobdfehpbgcloaa.GL
