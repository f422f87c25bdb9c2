import Derived.Laws.CopyOwn
import Derived.Deep.RegionLaw
import Derived.Test.YtkhcmddeeodbkaaZSortedAll16
-- Own texts and, of the words that the kit's print program wrote for this claim, those that are needed here: put together by wip/prune.py.
set_option linter.unusedSimpArgs false
set_option linter.unusedVariables false
namespace Go.Proofs.Ytkhcmddeeodbkaa.XSor
open Go.RowKit Go.Proofs.Ytkhcmddeeodbkaa.G Go.Proofs.YtkhcmddeeodbkaaW.PrintWords Go.Proofs.YtkhcmddeeodbkaaW.PrintLast Go.Proofs.YtkhcmddeeodbkaaW.PrintMore
attribute [local go_sem] max2_int min2_int max_two min_two max_three min_three max_four min_four
def sorted_rec.f (a0_0 : ByteArray) (a0_1 : Int) (a0_2 : Int) (a0_3 : ByteArray) : Option (ByteArray × Bool × Int × Int × ByteArray) := some (a0_0, false, a0_1, a0_2, a0_3)
set_option maxHeartbeats 8000000 in
set_option maxRecDepth 100000 in
theorem sorted_rec.calls (a0_0 : ByteArray) (a0_1 : Int) (a0_2 : Int) (a0_3 : ByteArray) (r1 : ByteArray) (r2 : Bool) (r3 : Int) (r4 : Int) (r5 : ByteArray) (w : World) (h : sorted_rec.f a0_0 a0_1 a0_2 a0_3 = some (r1, r2, r3, r4, r5)) :
    Calls Try.prog 31 #[.agg #[.string a0_0, .int .i64 a0_1, .int .i64 a0_2, .string a0_3]] w fun e w' => e = .returned (.agg #[.string r1, .bool r2, .int .i64 r3, .int .i64 r4, .string r5]) ∧ Below w.heap.size w w' := by
 have hu30 := Try.underlying30
 have hu27 := Try.underlying27
 have hu25 := Try.underlying25
 have HB := Aside0.mk (Below.refl w.heap.size w)
 have H : (some (a0_0, false, a0_1, a0_2, a0_3)) = some (r1, r2, r3, r4, r5) := h
 clear h
 simp only [Option.some.injEq, Prod.mk.injEq] at H
 obtain ⟨rfl, rfl, rfl, rfl, rfl⟩ := H
 go_enter Try.func31, Try.ntmps31
 go_wp2_with (first | ((with_reducible refine gate_dst (N := 1) rfl ?_); refine box_event ?hg (N := 1) ?hd (cs := #[.string a0_0, .int .i64 a0_1, .int .i64 a0_2, .string a0_3]) (t := 30) ?hr ?_; (case hd => rfl); (case hg => rfl); (case hr => first | (go_simp; done) | (go_simp; rfl)); intro gb126 hg w2 hbox hb; have n0_ := Aside0.mk (below_step (by repeat (first | (with_reducible first | exact HB.out | apply below_alloc | apply pw_below_drewN | apply below_drew1) | exact HB.out)) hb); have n1_ := Aside0.mk (hbox); have n2_ := Aside0.mk ((by rw [hg]; exact (below_size (by repeat (first | (with_reducible first | exact HB.out | apply below_alloc | apply pw_below_drewN | apply below_drew1) | exact HB.out))) : w.heap.size ≤ gb126)); have n3_ := Aside0.mk ((by rw [hg]; exact (below_size (by repeat (first | (with_reducible first | exact HB.out | apply below_alloc | apply pw_below_drewN | apply below_drew1) | exact HB.out))) : w.heap.size ≤ gb126)); clear HB; have HB := n0_; have BK126 := n1_; have GW126 := n2_; have GE126 := n3_; clear n0_ n1_ n2_ n3_; clear hb hbox hg) | ((with_reducible refine gate_dst (N := 2) rfl ?_); refine box_event ?hg (N := 2) ?hd (cs := #[.string (⟨#[]⟩ : ByteArray), .bool false, .int .i64 0, .int .i64 0, .string (⟨#[]⟩ : ByteArray)]) (t := 27) ?hr ?_; (case hd => rfl); (case hg => rfl); (case hr => first | (go_simp; done) | (go_simp; rfl)); intro gb127 hg w3 hbox hb; have n0_ := Aside0.mk (blk_below (g := gb126) (o := .cells #[.string a0_0, .int .i64 a0_1, .int .i64 a0_2, .string a0_3] 30 (0, 0)) (by (with_reducible repeat (first | refine blk_drewN ?_ _ | refine blk_drew ?_ | refine blk_alloc ?_ _)); exact BK126.out) hb); have n1_ := Aside0.mk (below_step (by repeat (first | (with_reducible first | exact HB.out | apply below_alloc | apply pw_below_drewN | apply below_drew1 | refine below_set ?_ GE126.out) | exact HB.out)) hb); have n2_ := Aside0.mk (hbox); have n3_ := Aside0.mk ((by rw [hg]; exact (below_size (by repeat (first | (with_reducible first | exact HB.out | apply below_alloc | apply pw_below_drewN | apply below_drew1 | refine below_set ?_ GE126.out) | exact HB.out))) : w.heap.size ≤ gb127)); have n4_ := Aside0.mk ((by rw [hg]; exact (below_size (by repeat (first | (with_reducible first | exact HB.out | apply below_alloc | apply pw_below_drewN | apply below_drew1 | refine below_set ?_ GE126.out) | exact HB.out))) : w.heap.size ≤ gb127)); have n5_ := Aside0.mk ((by rw [hg]; exact Nat.ne_of_lt (blk_lt (g := gb126) (o := .cells #[.string a0_0, .int .i64 a0_1, .int .i64 a0_2, .string a0_3] 30 (0, 0)) (by (with_reducible repeat (first | refine blk_drewN ?_ _ | refine blk_drew ?_ | refine blk_alloc ?_ _)); exact BK126.out)) : gb126 ≠ gb127)); have n6_ := Aside0.mk ((by rw [hg]; exact Nat.ne_of_gt (blk_lt (g := gb126) (o := .cells #[.string a0_0, .int .i64 a0_1, .int .i64 a0_2, .string a0_3] 30 (0, 0)) (by (with_reducible repeat (first | refine blk_drewN ?_ _ | refine blk_drew ?_ | refine blk_alloc ?_ _)); exact BK126.out)) : gb127 ≠ gb126)); clear BK126; clear HB; have BK126 := n0_; have HB := n1_; have BK127 := n2_; have GW127 := n3_; have GE127 := n4_; have NB126_127 := n5_; have NB127_126 := n6_; clear n0_ n1_ n2_ n3_ n4_ n5_ n6_; clear hb hbox hg; have hnb4 := NB126_127.out; have hnc4 := NB127_126.out; have hcz5_0 : w3.cell? ⟨gb126, 0, none⟩ = some (.string a0_0) := (blk_cell BK126.out 0).trans rfl; have hcz5_1 : w3.cell? ⟨gb126, 1, none⟩ = some (.int .i64 a0_1) := (blk_cell BK126.out 1).trans rfl; have hcz5_2 : w3.cell? ⟨gb126, 2, none⟩ = some (.int .i64 a0_2) := (blk_cell BK126.out 2).trans rfl; have hcz5_3 : w3.cell? ⟨gb126, 3, none⟩ = some (.string a0_3) := (blk_cell BK126.out 3).trans rfl; have hfz5_0 := blk_frozen BK126.out 0; have hfz5_1 := blk_frozen BK126.out 1; have hfz5_2 := blk_frozen BK126.out 2; have hfz5_3 := blk_frozen BK126.out 3; have hcz6_0 : w3.cell? ⟨gb127, 0, none⟩ = some (.string (⟨#[]⟩ : ByteArray)) := (blk_cell BK127.out 0).trans rfl; have hcz6_1 : w3.cell? ⟨gb127, 1, none⟩ = some (.bool false) := (blk_cell BK127.out 1).trans rfl; have hcz6_2 : w3.cell? ⟨gb127, 2, none⟩ = some (.int .i64 0) := (blk_cell BK127.out 2).trans rfl; have hcz6_3 : w3.cell? ⟨gb127, 3, none⟩ = some (.int .i64 0) := (blk_cell BK127.out 3).trans rfl; have hcz6_4 : w3.cell? ⟨gb127, 4, none⟩ = some (.string (⟨#[]⟩ : ByteArray)) := (blk_cell BK127.out 4).trans rfl; have hfz6_0 := blk_frozen BK127.out 0; have hfz6_1 := blk_frozen BK127.out 1; have hfz6_2 := blk_frozen BK127.out 2; have hfz6_3 := blk_frozen BK127.out 3; have hfz6_4 := blk_frozen BK127.out 4))
 refine bodyPost_ret (results_cell_row rfl _ _ gb127 27 #[.string a0_0, .bool false, .int .i64 a0_1, .int .i64 a0_2, .string a0_3] (0, 0) _ rfl (by (with_reducible repeat (first | refine blk_drewN ?_ _ | refine blk_drew ?_ | refine blk_alloc ?_ _)); refine blk_put (cs := #[.string a0_0, .bool false, .int .i64 a0_1, .int .i64 a0_2, .string (⟨#[]⟩ : ByteArray)]) ?_ 4 _ rfl; (with_reducible repeat (first | refine blk_drewN ?_ _ | refine blk_drew ?_ | refine blk_alloc ?_ _)); refine blk_put (cs := #[.string a0_0, .bool false, .int .i64 a0_1, .int .i64 0, .string (⟨#[]⟩ : ByteArray)]) ?_ 3 _ rfl; (with_reducible repeat (first | refine blk_drewN ?_ _ | refine blk_drew ?_ | refine blk_alloc ?_ _)); refine blk_put (cs := #[.string a0_0, .bool false, .int .i64 0, .int .i64 0, .string (⟨#[]⟩ : ByteArray)]) ?_ 2 _ rfl; (with_reducible repeat (first | refine blk_drewN ?_ _ | refine blk_drew ?_ | refine blk_alloc ?_ _)); refine blk_put (cs := #[.string a0_0, .bool false, .int .i64 0, .int .i64 0, .string (⟨#[]⟩ : ByteArray)]) ?_ 1 _ rfl; (with_reducible repeat (first | refine blk_drewN ?_ _ | refine blk_drew ?_ | refine blk_alloc ?_ _)); refine blk_put (cs := #[.string (⟨#[]⟩ : ByteArray), .bool false, .int .i64 0, .int .i64 0, .string (⟨#[]⟩ : ByteArray)]) ?_ 0 _ rfl; (with_reducible repeat (first | refine blk_drewN ?_ _ | refine blk_drew ?_ | refine blk_alloc ?_ _)); exact BK127.out) Try.underlying27 rfl (by kernel_rfl)) rfl ?_
 exact ⟨by first | rfl | (simp [errW_none, errW_some] <;> rfl) | (simp [*, errW_none, errW_some] <;> rfl), by repeat (first | (with_reducible first | exact HB.out | apply below_alloc | apply pw_below_drewN | apply below_drew1 | refine below_set ?_ GE126.out | refine below_set ?_ GE127.out) | exact HB.out)⟩
end Go.Proofs.Ytkhcmddeeodbkaa.XSor
namespace Go.Proofs.Ytkhcmddeeodbkaa.GL
open Go.RowKit Go.Proofs.YtkhcmddeeodbkaaW.PrintWords Go.Proofs.YtkhcmddeeodbkaaW.PrintLast Go.Proofs.YtkhcmddeeodbkaaW.PrintMore Go.Proofs.Ytkhcmddeeodbkaa.Q Go.Proofs.Ytkhcmddeeodbkaa.XSor Go.Proofs.Ytkhcmddeeodbkaa.G
def RowPost (w : World) (R : List Pr) (e : Ending) (w' : World) : Prop := ∃ A c, e = .returned (.slice A R.length c) ∧ Kd.C k30 w' A R.length R ∧ R.length ≤ c ∧ Below w.heap.size w w'
def OwnPost (w : World) (R : List Pr) (e : Ending) (w' : World) : Prop := ∃ v, e = .returned v ∧ Kd.R k30 30 w' w.heap.size (fun _ => True) v R ∧ Below w.heap.size w w'
theorem appP {ops : Array Oper} {rest : List Oper} {o : Oper} {a : Act} {Q : Exit → Act → World → Prop} {w0 W : World} (hgd : o.guard = none) (s x : Operand)
    (ho : o.op = .call { callee := .builtin .append, args := #[s, x], argTypes := #[22, 22] }) (v : Value) (xs ys : List Pr) (A : Option Addr) (m c : Nat) (hs : a.eval s = v) (hx : a.eval x = .slice A m c)
    (HO : Kd.R k30 30 W w0.heap.size (fun _ => True) v xs) (HR : Kd.C k30 W A m ys) (HB : Below w0.heap.size w0 W) (hl : xs.length + m ≤ 1000000)
    (h : ∀ v1 w1, Kd.R k30 30 w1 w0.heap.size (fun _ => True) v1 (xs ++ ys) → Below w0.heap.size w0 w1 → wpList Try.prog ops Q rest (a.put o.dst v1) w1) : wpList Try.prog ops Q (o :: rest) a W :=
 Kd.R_append_rows k30 (w0 := w0) w0.heap.size hgd s x 22 30 (.agg #[(.string ⟨#[]⟩), (.int .i64 0), (.int .i64 0), (.string ⟨#[]⟩)]) 48 ho Try.underlying22 info30 (by rfl) (by decide) (by omega) v xs ys A m c (fun _ => True) (fun _ => False) hs hx HO HR (fun _ _ h => h) (fun _ h => h.elim) (fun _ _ => trivial) HB HB.size (by omega) (fun v1 w1 h1 h2 _ _ => h v1 w1 h1 h2)
set_option maxRecDepth 1000000 in
theorem nil_p (c : Nat) (W : World) : (binOp .eql 22 (.slice none 0 c) (.slice none 0 0)).run Try.prog W = .ok (.bool true) W := by rfl
set_option maxRecDepth 1000000 in
theorem some_p (a : Addr) (n c : Nat) (W : World) : (binOp .eql 22 (.slice (some a) n c) (.slice none 0 0)).run Try.prog W = .ok (.bool false) W := by rfl
set_option maxRecDepth 1000000 in
set_option maxHeartbeats 8000000 in
theorem clone_p {w : World} {A : Option Addr} {n c : Nat} {L : List Pr} (hn : n = L.length) (hC : Kd.C k30 w A n L) (hc : n ≤ c) (hl : n ≤ 100000) :
    Calls Try.prog 29 #[.slice A n c] w (OwnPost w L) := by
 rcases A with _ | ad
 · have h0 : n = 0 := by
     rcases Nat.eq_zero_or_pos n with h | h
     · exact h
     · obtain ⟨x, e, _⟩ := hC.2.2 h
       cases e
   subst h0
   have HE := Aside0.mk (List.eq_nil_of_length_eq_zero hn.symm)
   clear hn hC hc hl
   have hnp := nil_p
   have hsp := some_p
   go_enter Try.func29, Try.ntmps29
   go_wp2
   go_ret
   rw [HE.out]
   exact ⟨_, rfl, Kd.R_nil _ _ _ _ _, Below.refl _ _⟩
 · have HN := Aside0.mk hn
   have HC := Aside0.mk hC
   have HL := Aside0.mk hl
   have HB := Aside0.mk (Below.refl w.heap.size w)
   clear hn hC hc hl
   have hnp := nil_p
   have hsp := some_p
   go_enter Try.func29, Try.ntmps29
   go_wp2_with (first
    | ((with_reducible refine gate_dst (N := 5) rfl ?_); refine Kd.R_lit k30 (w0 := w) w.heap.size 30 ?hg (N := 5) ?hd (xs := ([] : List Pr)) (inner := []) (ok := fun _ => True) (okp := fun _ => True) ?hr (Reps.none _ _) (fun _ hk => hk) trivial HB.out HB.out.size (by simp) ?_; (case hd => rfl); (case hg => rfl); (case hr => first | (go_simp; done) | (go_simp; rfl)); intro v5 w5 ho hb hg hat; have HO := Aside0.mk ho; have n1_ := Aside0.mk hb; clear HB; have HB := n1_; clear n1_ ho hb hg hat)
    | ((with_reducible refine gate_builtin (b := .append) (xs := #[.tmp 5, .tmp 6]) rfl ?_); at_builtin; refine appP (w0 := w) rfl (.tmp 5) (.tmp 6) rfl v5 [] L (some ad) n c rfl rfl HO.out (Kd.C_below HC.out HB.out) HB.out (by have := HL.out; simp; omega) ?_; intro v6 w6 ho hb; rw [List.nil_append] at ho; have HC6 := Aside0.mk ho; have n1_ := Aside0.mk hb; clear HB HO; have HB := n1_; clear n1_ ho hb))
   go_ret
   exact ⟨_, rfl, HC6.out, HB.out⟩
set_option maxRecDepth 1000000 in
set_option maxHeartbeats 8000000 in
theorem st_List {w : World} {g : Nat} {L : List Pr} (h : SO w g L) :
    Calls Try.prog 27 #[.pointer (some ⟨g, 0, none⟩)] w (RowPost w L) := by
 obtain ⟨Al, cl, Ah, ch, Aa, ca, P, h⟩ := h
 obtain ⟨n, hn⟩ : ∃ n, n = L.length := ⟨_, rfl⟩
 have hb := h.blk
 have hrow := h.lrow
 have hcap := h.lcap
 have hmost := h.most
 rw [← hn] at hb hrow hcap hmost
 have hc0 : w.cell? ⟨g, 0, none⟩ = some (.slice Al n cl) := (blk_cell hb 0).trans rfl
 have HCL := Aside0.mk (clone_p hn hrow hcap (by omega))
 clear hb h hn hrow hcap hmost
 go_enter Try.func27, Try.ntmps27
 go_wp2_with (first
  | (go_at_call 29; refine HCL.out.mono ?_; rintro e w1 ⟨v, rfl, hR, hb⟩; obtain ⟨A, c, rfl, hc, hC⟩ := Kd.R_reads hR; have HC := Aside0.mk (And.intro hC (And.intro hc hb)); clear hC hc hb hR))
 go_ret
 exact ⟨A, c, rfl, HC.out⟩
def encP (L : List Pr) : List Int := putN L.length ++ L.flatMap (fun p => putR (recP p))
theorem flatP_len {L : List Pr} (h : ∀ p ∈ L, SmR (recP p)) : (L.flatMap (fun p => putR (recP p))).length ≤ 80 * L.length := by
 induction L with
 | nil => simp
 | cons x r ih =>
   have := putR_len (h x List.mem_cons_self)
   have := ih (fun y hy => h y (List.mem_cons_of_mem _ hy))
   simp only [List.flatMap_cons, List.length_append, List.length_cons]
   omega
def preP (L : List Pr) (i : Nat) : List Int := putN L.length ++ (L.take i).flatMap (fun p => putR (recP p))
theorem preP_len {L : List Pr} (hl : L.length ≤ 1000) (h : ∀ p ∈ L, SmR (recP p)) (i : Nat) : (preP L i).length ≤ 80010 := by
 have h2 := flatP_len (L := L.take i) (fun x hx => h x (List.mem_of_mem_take hx))
 have h3 := putN_len (n := (L.length : Int)) (by unfold I64; omega)
 have h4 : (L.take i).length ≤ L.length := by rw [List.length_take]; omega
 unfold preP
 rw [List.length_append]
 omega
theorem preP_step {L : List Pr} {i : Nat} (h : i < L.length) : preP L (i + 1) = preP L i ++ putR (recP (rd_T30 L (i : Int))) := by
 have e : rd_T30 L (i : Int) = L[i] := by simp [rd_T30, h]
 unfold preP
 rw [List.take_succ_eq_append_getElem h, List.flatMap_append, e]
 simp [List.append_assoc]
theorem preP_all (L : List Pr) : preP L L.length = encP L := by unfold preP encP; rw [List.take_length]
set_option maxRecDepth 1000000 in
set_option maxHeartbeats 8000000 in
theorem st_Bytes {w : World} {g : Nat} {L : List Pr} (h : SO w g L) (hsm : ∀ p ∈ L, SmR (recP p)) :
    Calls Try.prog 23 #[.pointer (some ⟨g, 0, none⟩)] w fun e w' => ∃ v, e = .returned v ∧ Kd.R (Kd.int .u8) 5 w' w.heap.size (fun _ => True) v (encP L) ∧ Below w.heap.size w w' := by
 obtain ⟨Al, cl, Ah, ch, Aa, ca, P, h⟩ := h
 obtain ⟨n, hn⟩ : ∃ n, n = L.length := ⟨_, rfl⟩
 have hb := h.blk
 have hrow := h.lrow
 have hmost := h.most
 rw [← hn] at hb hmost
 have HBL := Aside0.mk hb
 have HRW := Aside0.mk hrow
 have HMO := Aside0.mk hmost
 have HSM := Aside0.mk hsm
 have HN := Aside0.mk hn
 have hnz : (n : Int) ≤ 1000 := by omega
 obtain ⟨k0, hk0⟩ := (num_Put_ev (n := (n : Int)) (by unfold I64; omega) [] (by simp)).rounds
 rw [List.nil_append] at hk0
 have HK0 := Aside0.mk hk0
 have hc0 : w.cell? ⟨g, 0, none⟩ = some (.slice Al n cl) := (blk_cell hb 0).trans rfl
 have HB := Aside0.mk (Below.refl w.heap.size w)
 clear hb h hn hrow hmost hsm hk0
 go_enter Try.func23, Try.ntmps23
 go_wp2_with (first
  | (go_at_call 51; (with_reducible refine (num_Put.calls k0 (fun _ => True) (.slice none 0 0) [] (n : Int) _ w w HB.out (Kd.R_nil _ _ _ _ _) HK0.out).mono ?_); rintro e w1 ⟨v1, rfl, hR, hb, _⟩; have HR := Aside0.mk (Kd.R_mono hR (fun _ _ => trivial)); have n1_ := Aside0.mk hb; clear HB hR hb hc0; have HB := n1_; clear n1_; have hc0 : w1.cell? ⟨g, 0, none⟩ = some (.slice Al n cl) := (blk_cell (blk_below HBL.out HB.out) 0).trans rfl))
 clear hc0
 go_loopw [3, 19] (fun v3 v19 wr => ∃ (i : Nat), v19 = .int .i64 i ∧ i ≤ n ∧ Aside0 (Kd.R (Kd.int .u8) 5 wr w.heap.size (fun _ => True) v3 (preP L i)) ∧ Aside0 (Below w.heap.size w wr)) (fun _ v _ => n - (intOf v).toNat)
 case atStart => exact ⟨0, by first | rfl | go_num, Nat.zero_le _, ⟨by unfold preP; rw [List.take_zero, List.flatMap_nil, List.append_nil, ← HN.out]; exact HR.out⟩, HB⟩
 case round =>
  clear HR HB
  obtain ⟨i, rfl, hi, HR, HB⟩ := hrel
  by_cases hlt : i < n
  · have hltz : (i : Int) < (L.length : Int) := by rw [← HN.out]; omega
    have hltz2 : (i : Int) < (n : Int) := by omega
    have hl1 : decide ((i : Int) < (n : Int)) = true := decide_eq_true (by omega)
    have hl2 := decide_eq_true hlt
    have HLT := Aside0.mk hlt
    obtain ⟨ad, e, h0, h1, h2, h3⟩ := at_T30 HRW.out (i : Int) (Int.natCast_nonneg _) hltz
    cases e
    simp only [Int.toNat_natCast] at h0 h1 h2 h3
    replace h0 := (HB.out.cell (World.block_lt_of_cell? w _ h0)).trans h0
    replace h1 := (HB.out.cell (World.block_lt_of_cell? w _ h1)).trans h1
    replace h2 := (HB.out.cell (World.block_lt_of_cell? w _ h2)).trans h2
    replace h3 := (HB.out.cell (World.block_lt_of_cell? w _ h3)).trans h3
    have hst := preP_step (L := L) (i := i) (by rw [← HN.out]; exact hlt)
    obtain ⟨x, hx⟩ : ∃ x, x = rd_T30 L (i : Int) := ⟨_, rfl⟩
    rw [← hx] at h0 h1 h2 h3 hst
    have hxm : x ∈ L := by
     have e : rd_T30 L (i : Int) = L[i]'(by rw [← HN.out]; exact hlt) := by simp [rd_T30, ← HN.out, hlt]
     rw [hx, e]; exact List.getElem_mem _
    obtain ⟨D, hD⟩ : ∃ D, D = preP L i := ⟨_, rfl⟩
    have HDL := Aside0.mk (show D.length ≤ 80010 by rw [hD]; exact preP_len (by rw [← HN.out]; exact HMO.out) HSM.out i)
    rw [← hD] at HR hst
    obtain ⟨k1, hk1⟩ := (record_Put_ev (HSM.out x hxm) D (by have := HDL.out; omega)).rounds
    have HK1 := Aside0.mk (show record_Put.f k1 D x.f0 false x.f1.f0 x.f1.f1 x.f1.f2 = some (preP L (i + 1)) by rw [hst]; exact hk1)
    have HRC := Aside0.mk (show sorted_rec.f x.f0 x.f1.f0 x.f1.f1 x.f1.f2 = some (x.f0, false, x.f1.f0, x.f1.f1, x.f1.f2) from rfl)
    clear hst hx hxm hD hk1 hlt hltz hi
    go_wp2_with (first
     | ((with_reducible refine gate_dst (N := 5) rfl ?_); refine box_event ?hg (N := 5) ?hd (cs := pr4 ⟨⟨#[]⟩, ⟨0, 0, ⟨#[]⟩⟩⟩) (t := 30) ?hr ?_; (case hd => rfl); (case hg => rfl); (case hr => first | (go_simp; done) | (go_simp; rfl)); intro g7 hg w7 hbox hb; have G7 := Aside0.mk (show w.heap.size ≤ g7 by rw [hg]; exact HB.out.size); have B7 := Aside0.mk hbox; have n1_ := Aside0.mk (below_step HB.out hb); have n2_ := Aside0.mk (Kd.R_mono (Kd.R_bound HR.out) (fun k hk => (show k ≠ g7 by have := hk.2.2.1; omega))); have n3_ := Aside0.mk (Kd.R_below n2_.out hb); clear HB HR n2_ h0 h1 h2 h3 hbox hg hb; have HB := n1_; have HR := n3_; clear n1_ n3_; have hs0 : w7.cell? ⟨g7, 0, none⟩ = some (.string ⟨#[]⟩) := (blk_cell B7.out 0).trans rfl; have hs1 : w7.cell? ⟨g7, 1, none⟩ = some (.int .i64 0) := (blk_cell B7.out 1).trans rfl; have hs2 : w7.cell? ⟨g7, 2, none⟩ = some (.int .i64 0) := (blk_cell B7.out 2).trans rfl; have hs3 : w7.cell? ⟨g7, 3, none⟩ = some (.string ⟨#[]⟩) := (blk_cell B7.out 3).trans rfl; have hf0 := blk_frozen B7.out 0; have hf1 := blk_frozen B7.out 1; have hf2 := blk_frozen B7.out 2; have hf3 := blk_frozen B7.out 3)
     | ((with_reducible refine gate_store (t := 30) (p := 5) rfl ?_); refine store_event (t := 30) (p := 5) (v := ?vo1) (w1 := ((((w7.setCell ⟨g7, 0, none⟩ (.string x.f0)).setCell ⟨g7, 1, none⟩ (.int .i64 x.f1.f0)).setCell ⟨g7, 2, none⟩ (.int .i64 x.f1.f1)).setCell ⟨g7, 3, none⟩ (.string x.f1.f2))) ?hg ?ho ?hn ?hr ?_; (case ho => rfl); (case hg => rfl); (case hn => rfl); (case hr => first | (go_simp; done) | (go_simp; rfl)); intro w8 hw; have n1_ : Aside0 (Below w.heap.size w w8) := ⟨by rw [hw]; exact bel4 HB.out G7.out⟩; have n2_ : Aside0 (Kd.R (Kd.int .u8) 5 w8 w.heap.size (fun _ => True) u3 D) := ⟨by rw [hw]; exact Kd.R_mono (Kd.R_far (Kd.R_far (Kd.R_far (Kd.R_far HR.out (fun _ h => h) _) (fun _ h => h) _) (fun _ h => h) _) (fun _ h => h) _) (fun _ _ => trivial)⟩; have n3_ : Aside0 (w8.heap[g7]? = some (.cells (pr4 x) 30 (0, 0))) := ⟨by rw [hw]; exact put4 B7.out⟩; clear HB HR B7 hs0 hs1 hs2 hs3 hf0 hf1 hf2 hf3 hw; have HB := n1_; have HR := n2_; have B7 := n3_; clear n1_ n2_ n3_; have hs0 : w8.cell? ⟨g7, 0, none⟩ = some (.string x.f0) := (blk_cell B7.out 0).trans rfl; have hs1 : w8.cell? ⟨g7, 1, none⟩ = some (.int .i64 x.f1.f0) := (blk_cell B7.out 1).trans rfl; have hs2 : w8.cell? ⟨g7, 2, none⟩ = some (.int .i64 x.f1.f1) := (blk_cell B7.out 2).trans rfl; have hs3 : w8.cell? ⟨g7, 3, none⟩ = some (.string x.f1.f2) := (blk_cell B7.out 3).trans rfl)
     | (go_at_call 31; (with_reducible refine (sorted_rec.calls x.f0 x.f1.f0 x.f1.f1 x.f1.f2 x.f0 false x.f1.f0 x.f1.f1 x.f1.f2 _ HRC.out).mono ?_); rintro e w9 ⟨rfl, hb⟩; have n1_ := Aside0.mk (below_step HB.out hb); have n2_ := Aside0.mk (Kd.R_below HR.out hb); clear HB HR hb hs0 hs1 hs2 hs3; have HB := n1_; have HR := n2_; clear n1_ n2_)
     | (go_at_call 52; (with_reducible refine (record_Put.calls k1 (fun _ => True) u3 D x.f0 false x.f1.f0 x.f1.f1 x.f1.f2 (preP L (i + 1)) w w9 HB.out HR.out HK1.out).mono ?_); rintro e w10 ⟨v10, rfl, hR, hb, _⟩; have n1_ := Aside0.mk hb; have n2_ := Aside0.mk (Kd.R_mono hR (fun _ _ => trivial)); clear HB HR hR hb; have HB := n1_; have HR := n2_; clear n1_ n2_))
    refine ⟨⟨i + 1, by first | rfl | go_num, by have := HLT.out; omega, HR, HB⟩, ?_⟩
    have := HLT.out
    simp [intOf]
    omega
  · obtain rfl : i = n := by omega
    have hl1 : decide ((i : Int) < (i : Int)) = false := decide_eq_false (by omega)
    have hl2 : decide (i < i) = false := decide_eq_false (by omega)
    clear hlt hi
    go_wp2
    go_ret
    exact ⟨_, rfl, by rw [← preP_all, ← HN.out]; exact HR.out, HB.out⟩
end Go.Proofs.Ytkhcmddeeodbkaa.GL
namespace Go.Proofs.Ytkhcmddeeodbkaa.Q
open Go.RowKit Go.Proofs.YtkhcmddeeodbkaaW.PrintWords Go.Proofs.YtkhcmddeeodbkaaW.PrintMore Go.Proofs.Ytkhcmddeeodbkaa.G Go.Proofs.Ytkhcmddeeodbkaa.XSor Go.Proofs.Ytkhcmddeeodbkaa.GL
def WkR (x : Rc) : Prop := x.f2.f2.size < 17592186044416 ∧ I64 x.f2.f0 ∧ I64 x.f2.f1
theorem getV_ok {l : List Int} (hb : Byt l) : (getV l).2.2.1.size < 17592186044416 ∧ I64 (getV l).1 ∧ I64 (getV l).2.1 := by
 have b1 := getN_i64 (hb.drop (getN l).2.1.toNat)
 have b2 := getT_size _ (hb.drop (getN l).2.1.toNat)
 have z : I64 0 := by unfold I64; omega
 have z1 : I64 1 := by unfold I64; omega
 have z2 : I64 2 := by unfold I64; omega
 have e0 : (⟨#[]⟩ : ByteArray).size < 17592186044416 := by decide
 unfold getV
 split
 · split
   · split
     · exact ⟨e0, z1, b1⟩
     · exact ⟨e0, z, z⟩
   · split
     · split
       · split
         · exact ⟨by simp only; omega, z2, z⟩
         · exact ⟨e0, z, z⟩
       · exact ⟨e0, z, z⟩
     · exact ⟨e0, z, z⟩
 · exact ⟨e0, z, z⟩
theorem getR_ok {l : List Int} (hb : Byt l) : WkR (getR l).1 := by
 have b := getV_ok (hb.drop (getT l).2.1.toNat)
 have z : I64 0 := by unfold I64; omega
 have e0 : (⟨#[]⟩ : ByteArray).size < 17592186044416 := by decide
 unfold getR
 split
 · split
   · unfold tailR
     split
     · split
       · exact ⟨e0, z, z⟩
       · split
         · exact b
         · exact ⟨e0, z, z⟩
     · exact ⟨e0, z, z⟩
   · exact ⟨e0, z, z⟩
 · exact ⟨e0, z, z⟩
theorem getR_key (l : List Int) : (getR l).1.f0.size ≤ 16 := by
 have e0 : (⟨#[]⟩ : ByteArray).size ≤ 16 := by decide
 unfold getR
 split
 · split
   · rename_i h
     unfold keyB at h
     have := of_decide_eq_true h
     unfold tailR
     split
     · split
       · exact this.2
       · split
         · exact this.2
         · exact e0
     · exact e0
   · exact e0
 · exact e0
def prR (r : Rc) : Pr := ⟨r.f0, r.f2⟩
def readP (l : List Int) : Nat → Int → List Pr → Option (List Pr)
 | 0, _, acc => some acc
 | d + 1, p, acc => if (getR (l.drop p.toNat)).2.2 = 0 ∧ (getR (l.drop p.toNat)).1.f1 = false then readP l d (p + (getR (l.drop p.toNat)).2.1) (acc ++ [prR (getR (l.drop p.toNat)).1]) else none
theorem readP_succ (l : List Int) (d : Nat) (p : Int) (acc : List Pr) : readP l (d + 1) p acc = if (getR (l.drop p.toNat)).2.2 = 0 ∧ (getR (l.drop p.toNat)).1.f1 = false then readP l d (p + (getR (l.drop p.toNat)).2.1) (acc ++ [prR (getR (l.drop p.toNat)).1]) else none := rfl
def decP (l : List Int) : Option (List Pr) := if (getN l).2.2 = 0 ∧ 0 ≤ (getN l).1 ∧ (getN l).1 ≤ 1000 then readP l (getN l).1.toNat (getN l).2.1 [] else none
def OpenP (l : List Int) (L : List Pr) : Prop := decP l = some L ∧ MayP L ∧ encP L = l
theorem readP_put : ∀ (r : List Pr) (pre : List Int) (acc : List Pr), (∀ x ∈ r, okP x = true ∧ I64 x.f1.f1) → readP (pre ++ r.flatMap (fun p => putR (recP p))) r.length (pre.length : Int) acc = some (acc ++ r) := by
 intro r
 induction r with
 | nil => intro pre acc _; simp [readP]
 | cons x r ih =>
   intro pre acc h
   have hx := h x List.mem_cons_self
   rw [List.length_cons, readP_succ, List.flatMap_cons, Int.toNat_natCast, List.drop_left, getR_put (x := recP x) hx.1 hx.2]
   simp only
   rw [if_pos ⟨by first | trivial | rfl, by first | trivial | rfl⟩]
   have := ih (pre ++ putR (recP x)) (acc ++ [x]) (fun y hy => h y (List.mem_cons_of_mem _ hy))
   rw [List.append_assoc, List.append_assoc, List.length_append, Int.natCast_add] at this
   exact this
theorem decP_enc {L : List Pr} (h : MayP L) (hi : ∀ x ∈ L, I64 x.f1.f1) : decP (encP L) = some L := by
 have hl := h.1
 have hg : getN (encP L) = ((L.length : Int), ((putN (L.length : Int)).length : Int), 0) := by unfold encP; exact getN_put (by unfold I64; omega) _
 unfold decP
 rw [hg]
 simp only
 rw [if_pos ⟨by first | trivial | rfl, by omega, by omega⟩, Int.toNat_natCast]
 exact readP_put L _ [] (fun x hx => ⟨h.ok hx, hi x hx⟩)
end Go.Proofs.Ytkhcmddeeodbkaa.Q
namespace Go.Proofs.Ytkhcmddeeodbkaa.GL
open Go.RowKit Go.Proofs.YtkhcmddeeodbkaaW.PrintWords Go.Proofs.YtkhcmddeeodbkaaW.PrintLast Go.Proofs.YtkhcmddeeodbkaaW.PrintMore Go.Proofs.Ytkhcmddeeodbkaa.Q Go.Proofs.Ytkhcmddeeodbkaa.XSor Go.Proofs.Ytkhcmddeeodbkaa.G
theorem run_copyN {P : Program} (w : World) (dT sT ty elem : TypeId) (size g o dLen dCap : Nat) (a : Addr) (sLen sCap : Nat) (cur : Array Value) (t : TypeId) (cs : List Value) (hu : P.underlying dT = some (.slice elem)) (hs : (P.info? elem).map (·.size) = some size)
    (hg : w.heap[g]? = some (.cells cur t (0, 0))) (hn : cs.length = Nat.min sLen dLen * size)
    (hsrc : ∀ j v, cs[j]? = some v → w.cell? (a.add j) = some v) (hfit : o + cs.length ≤ cur.size) (h1 : ∀ v ∈ cs, v.oneCell' = true) :
    (Builtin.copy_ #[dT, sT] ty #[.slice (some ⟨g, o, none⟩) dLen dCap, .slice (some a) sLen sCap]).run P w =
      .ok (goInt (Nat.min sLen dLen)) (w.setRow g (cur.toList.take o ++ cs ++ cur.toList.drop (o + cs.length)).toArray) := by
 have hl := run_loadCells_list (P := P) w a cs hsrc
 have hst := run_storeCells_at P g o t cs 0 cur w hg (by simpa using hfit) h1
 cases hq : P.info? elem with
 | none => simp [hq] at hs
 | some i =>
   have hi : i.size = size := by simpa [hq] using hs
   simp [Builtin.copy_, run_underlying hu, Builtin.lenOf, Builtin.firstCells, sizeOf, typeInfo, hq, hi, ← hn, hl, hst]
theorem run_copyN0 {P : Program} (w : World) (dT sT ty elem : TypeId) (size : Nat) (d a : Option Addr) (dLen dCap sLen sCap : Nat) (hu : P.underlying dT = some (.slice elem)) (hs : (P.info? elem).map (·.size) = some size) (hn : Nat.min sLen dLen = 0) :
    (Builtin.copy_ #[dT, sT] ty #[.slice d dLen dCap, .slice a sLen sCap]).run P w = .ok (goInt 0) w := by
 cases hq : P.info? elem with
 | none => simp [hq] at hs
 | some i =>
   have hl : ∀ (x : Addr), (loadCells x 0).run P w = .ok #[] w := fun x => by simpa using run_loadCells_list (P := P) w x [] (by simp)
   cases d <;> cases a <;> simp [Builtin.copy_, run_underlying hu, Builtin.lenOf, Builtin.firstCells, sizeOf, typeInfo, hq, hn, storeCells, hl]
theorem step_copyN {P : Program} {ops : Array Oper} {o : Oper} {a : Act} {w : World} {K : Act → World → Prop} {Q : Exit → Act → World → Prop} {E : Prop} (hw : Region.wanted o (yielded ops a.tmps) = true) (d s : Operand) (dT sT : TypeId)
    (ho : o.op = .call { callee := .builtin .copy, args := #[d, s], argTypes := #[dT, sT] }) (elem : TypeId) (size : Nat) (hu : P.underlying dT = some (.slice elem)) (hsz : (P.info? elem).map (·.size) = some size) (hsp : 0 < size)
    (dp sp : Option Addr) (dLen dCap sLen sCap : Nat) (hd : a.eval d = .slice dp dLen dCap) (hs : a.eval s = .slice sp sLen sCap)
    (g off : Nat) (cur : List Value) (t : TypeId) (hg : w.heap[g]? = some (.cells cur.toArray t (0, 0))) (cs : List Value) (n : Nat) (hnn : n = Nat.min sLen dLen) (hn : cs.length = n * size)
    (hpos : 0 < n → dp = some ⟨g, off, none⟩ ∧ ∃ ad, sp = some ad ∧ ∀ j v, cs[j]? = some v → w.cell? (ad.add j) = some v)
    (hfit : off + cs.length ≤ cur.length) (h1 : ∀ v ∈ cs, v.oneCell' = true) (B : Nat) (w0 : World) (hb : RowKit.Below B w0 w) (hBg : B ≤ g)
    (h : ∀ w', w'.heap[g]? = some (.cells (splice cur off cs).toArray t (0, 0)) → RowKit.Below B w0 w' → (∀ k, k ≠ g → w'.heap[k]? = w.heap[k]?) → w'.heap.size = w.heap.size → K (a.put o.dst (goInt n)) w') :
    if Region.wanted o (yielded ops a.tmps) = true then Oper.wp P o a w K Q else E := by
 rw [if_pos hw]
 subst hnn
 by_cases h0 : Nat.min sLen dLen = 0
 · have hc0 : cs.length = 0 := by rw [hn, h0, Nat.zero_mul]
   obtain rfl : cs = [] := List.eq_nil_of_length_eq_zero hc0
   have hrun := run_copyN0 (P := P) w dT sT o.type elem size dp sp dLen dCap sLen sCap hu hsz h0
   unfold Oper.wp
   simp [execOp, ho, resolve, invoke, builtin, hd, hs, hrun, Result.andThen]
   rw [h0] at h
   exact h w (show _ = _ by simpa [splice] using hg) hb (fun _ _ => rfl) rfl
 · obtain ⟨rfl, ad, rfl, hsrc⟩ := hpos (by omega)
   have hrun := run_copyN (P := P) w dT sT o.type elem size g off dLen dCap ad sLen sCap cur.toArray t cs hu hsz hg hn hsrc (by simpa using hfit) h1
   unfold Oper.wp
   simp [execOp, ho, resolve, invoke, builtin, hd, hs, hrun, Result.andThen]
   exact h _ (show _ = _ by simpa [splice] using setRow_heap w g _ _ t _ hg) (below_setRow hb hBg _) (fun k hk => setRow_other w g k _ hk) (setRow_size w g _)
def rc5 (x : Rc) : List Value := [.string x.f0, .bool x.f1, .int .i64 x.f2.f0, .int .i64 x.f2.f1, .string x.f2.f2]
def rowC (L : List Rc) : List Value := L.flatMap rc5
theorem rowC_len (L : List Rc) : (rowC L).length = L.length * 5 := by
 induction L with
 | nil => rfl
 | cons x r ih =>
   show (rc5 x ++ rowC r).length = _
   rw [List.length_append, ih, List.length_cons]
   show 5 + _ = _
   omega
theorem rowC_append (L M : List Rc) : rowC (L ++ M) = rowC L ++ rowC M := by unfold rowC; rw [List.flatMap_append]
theorem rowC_one (L : List Rc) : ∀ v ∈ rowC L, v.oneCell' = true := by
 intro v hv
 obtain ⟨x, _, hx⟩ := List.mem_flatMap.1 hv
 simp only [rc5, List.mem_cons, List.not_mem_nil, or_false] at hx
 rcases hx with rfl | rfl | rfl | rfl | rfl <;> rfl
theorem rowC_of : ∀ (L : List Rc) (inner : List Value), inner.length = L.length * 5 → (∀ j p, L[j]? = some p → (inner.drop (j * 5)).take 5 = rc5 p) → inner = rowC L := by
 intro L
 induction L with
 | nil => intro inner h _; exact List.eq_nil_of_length_eq_zero (by simpa using h)
 | cons x r ih =>
   intro inner h1 h2
   have h0 := h2 0 x rfl
   rw [Nat.zero_mul, List.drop_zero] at h0
   have hr := ih (inner.drop 5) (by rw [List.length_drop, h1, List.length_cons]; omega) (fun j p hj => by
    have := h2 (j + 1) p (by simpa using hj)
    rw [List.drop_drop, show 5 + j * 5 = (j + 1) * 5 by omega]
    exact this)
   show inner = rc5 x ++ rowC r
   rw [← h0, ← hr, List.take_append_drop]
theorem rowC_at : ∀ (L : List Rc) (j : Nat) (p : Rc), L[j]? = some p → ((rowC L).drop (j * 5)).take 5 = rc5 p := by
 intro L
 induction L with
 | nil => intro j p h; simp at h
 | cons x r ih =>
   intro j p h
   show ((rc5 x ++ rowC r).drop (j * 5)).take 5 = _
   rcases j with _ | j
   · obtain rfl : x = p := by simpa using h
     rfl
   · rw [show (j + 1) * 5 = 5 + j * 5 by omega, ← List.drop_drop]
     exact ih j p (by simpa using h)
theorem R_cells {W : World} {base : Nat} {ok : Nat → Prop} {v : Value} {L : List Rc} (h : Kd.R k27 27 W base ok v L) (hL : 0 < L.length) :
    ∃ g cap cl, v = .slice (some ⟨g, 0, none⟩) L.length cap ∧ base ≤ g ∧ W.heap[g]? = some (.cells (List.toArray cl) 27 (0, 0)) ∧ L.length ≤ cap ∧ cap ≤ maxLen ∧ cl.length = cap * 5 ∧ cl.take (L.length * 5) = rowC L := by
 obtain ⟨hok, inner, hown, hr⟩ := h
 have hin := rowC_of L inner hr.1 (fun j p hj => k27_openM (hr.2 j p hj))
 obtain ⟨hl, ⟨rfl, h0⟩ | ⟨g, cap, cur, rfl, hg, hh, hnc, hcm, hcs, ht⟩⟩ := hown
 · omega
 · exact ⟨g, cap, cur.toList, rfl, hg, by simpa using hh, hnc, hcm, by have h5 : cur.size = cap * 5 := hcs; simpa using h5, by rw [← hin]; exact ht⟩
theorem R_of_cells {W : World} {base g cap : Nat} {cl : List Value} {L : List Rc} (hg : base ≤ g) (hh : W.heap[g]? = some (.cells (List.toArray cl) 27 (0, 0))) (hnc : L.length ≤ cap) (hcm : cap ≤ maxLen) (hcs : cl.length = cap * 5) (ht : cl.take (L.length * 5) = rowC L) :
    Kd.R k27 27 W base (fun _ => True) (.slice (some ⟨g, 0, none⟩) L.length cap) L := by
 refine ⟨fun _ _ => trivial, rowC L, ⟨rowC_len L, .inr ⟨g, cap, List.toArray cl, rfl, hg, hh, hnc, hcm, (show (List.toArray cl).size = cap * 5 by simpa using hcs), (show (List.toArray cl).toList.take (L.length * 5) = rowC L by simpa using ht)⟩⟩, rowC_len L, fun j p hj => ?_⟩
 have := rowC_at L j p hj
 show Kd.M k27 W base _ p (((rowC L).drop (j * 5)).take 5)
 rw [this]
 exact k27_mkM W base _ p
end Go.Proofs.Ytkhcmddeeodbkaa.GL
namespace Go.Proofs.Ytkhcmddeeodbkaa.XSor
open Go.RowKit Go.Proofs.Ytkhcmddeeodbkaa.G Go.Proofs.YtkhcmddeeodbkaaW.PrintWords Go.Proofs.YtkhcmddeeodbkaaW.PrintLast Go.Proofs.YtkhcmddeeodbkaaW.PrintMore
attribute [local go_sem] max2_int min2_int max_two min_two max_three min_three max_four min_four
def loessref10_Find.l0 : Nat → List (S27) → ByteArray → Int → Option (ByteArray × Bool × Int × Int × ByteArray × Bool)
 | 0, _, _, _ => none
 | k + 1, x0, x1, x6 => if x6 < (x0.length : Int) then (if 0 ≤ x6 then (if ((rd_T27 x0 x6).f0).toList = x1.toList then (some ((rd_T27 x0 x6).f0, (rd_T27 x0 x6).f1, (rd_T27 x0 x6).f2.f0, (rd_T27 x0 x6).f2.f1, (rd_T27 x0 x6).f2.f2, true)) else (loessref10_Find.l0 k x0 x1 (wrap64 (x6 + 1)))) else (none)) else (some ((⟨#[]⟩ : ByteArray), false, 0, 0, (⟨#[]⟩ : ByteArray), false))
def loessref10_Find.f (k : Nat) (l0 : List (S27)) (a1 : ByteArray) : Option (ByteArray × Bool × Int × Int × ByteArray × Bool) := loessref10_Find.l0 k l0 a1 0
theorem loessref10_Find.mono_l : ∀ k, (∀ y0 y1 y2, LeO (loessref10_Find.l0 k y0 y1 y2) (loessref10_Find.l0 (k + 1) y0 y1 y2))
 | 0 => fun _ _ _ r h => by simp [loessref10_Find.l0] at h
 | k + 1 => by
   have ih0 := loessref10_Find.mono_l k
   · intro y0 y1 y2
     unfold loessref10_Find.l0
     repeat' first
     | (with_reducible exact ih0 _ _ _)
     | (with_reducible exact LeO.refl _)
     | (with_reducible exact LeO.none _)
     | (with_reducible refine LeO.ite ?_ ?_)
     | (with_reducible refine LeO.bind ?_ (fun _ => ?_))
     | exact ih0 _ _ _
     | exact LeO.none _
     | refine LeO.ite ?_ ?_
     | refine LeO.bind ?_ (fun _ => ?_)
theorem loessref10_Find.mono : ∀ a0 a1 k, LeO (loessref10_Find.f k a0 a1) (loessref10_Find.f (k + 1) a0 a1) := by
 intro a0 a1 k
 have ih0 := loessref10_Find.mono_l k
 unfold loessref10_Find.f
 repeat' first
     | (with_reducible exact ih0 _ _ _)
     | (with_reducible exact LeO.refl _)
     | (with_reducible exact LeO.none _)
     | (with_reducible refine LeO.ite ?_ ?_)
     | (with_reducible refine LeO.bind ?_ (fun _ => ?_))
     | exact ih0 _ _ _
     | exact LeO.none _
     | refine LeO.ite ?_ ?_
     | refine LeO.bind ?_ (fun _ => ?_)
set_option maxHeartbeats 8000000 in
set_option maxRecDepth 100000 in
theorem loessref10_Find.calls (k : Nat) (A0 : Option Addr) (c0 : Nat) (l0 : List (S27)) (a1 : ByteArray) (r1 : ByteArray) (r2 : Bool) (r3 : Int) (r4 : Int) (r5 : ByteArray) (r6 : Bool) (w : World) (hr0 : Kd.C k27 w A0 l0.length l0) (hc0 : l0.length ≤ c0) (h : loessref10_Find.f k l0 a1 = some (r1, r2, r3, r4, r5, r6)) :
    Calls Try.prog 63 #[.slice A0 l0.length c0, .string a1] w fun e w' => e = .returned (.tuple #[.agg #[.string r1, .bool r2, .int .i64 r3, .int .i64 r4, .string r5], .bool r6]) ∧ Below w.heap.size w w' := by
 have hu27 := Try.underlying27
 have HR0 := Aside0.mk hr0
 have HC0 := Aside0.mk hc0
 clear hr0 hc0
 have HB := Aside0.mk (Below.refl w.heap.size w)
 have H : (loessref10_Find.l0 k l0 a1 0) = some (r1, r2, r3, r4, r5, r6) := h
 clear h
 have H' := Aside0.mk H
 clear H
 go_enter Try.func63, Try.ntmps63
 go_wp2_with (first | ((with_reducible refine gate_dst (N := 4) rfl ?_); refine box_event ?hg (N := 4) ?hd (cs := #[.string (⟨#[]⟩ : ByteArray), .bool false, .int .i64 0, .int .i64 0, .string (⟨#[]⟩ : ByteArray)]) (t := 27) ?hr ?_; (case hd => rfl); (case hg => rfl); (case hr => first | (go_simp; done) | (go_simp; rfl)); intro gb177 hg w3 hbox hb; have n0_ := Aside0.mk (below_step (by repeat (first | (with_reducible first | exact HB.out | apply below_alloc | apply pw_below_drewN | apply below_drew1) | exact HB.out)) hb); have n1_ := Aside0.mk (hbox); have n2_ := Aside0.mk ((by rw [hg]; exact (below_size (by repeat (first | (with_reducible first | exact HB.out | apply below_alloc | apply pw_below_drewN | apply below_drew1) | exact HB.out))) : w.heap.size ≤ gb177)); have n3_ := Aside0.mk ((by rw [hg]; exact (below_size (by repeat (first | (with_reducible first | exact HB.out | apply below_alloc | apply pw_below_drewN | apply below_drew1) | exact HB.out))) : w.heap.size ≤ gb177)); clear HB; have HB := n0_; have BK177 := n1_; have GW177 := n2_; have GE177 := n3_; clear n0_ n1_ n2_ n3_; clear hb hbox hg))
 go_loopg [6] k (fun kq v6 w' => ∃ (x6_1 : Int) (x178000_1 : ByteArray) (x178001_1 : Bool) (x178002_1 : Int) (x178003_1 : Int) (x178004_1 : ByteArray), v6 = .int .i64 x6_1 ∧ Aside0 (loessref10_Find.l0 kq l0 a1 x6_1 = some (r1, r2, r3, r4, r5, r6)) ∧ Aside0 (kq ≤ k) ∧ Aside0 (w'.heap[gb177]? = some (.cells #[.string x178000_1, .bool x178001_1, .int .i64 x178002_1, .int .i64 x178003_1, .string x178004_1] 27 (0, 0))) ∧ Aside0 (Below w.heap.size w w'))
 case atStart => exact ⟨(0), ((⟨#[]⟩ : ByteArray)), (false), (0), (0), ((⟨#[]⟩ : ByteArray)), (by first | rfl | (simp; done) | (simp [*]; done)), H', ⟨Nat.le_refl _⟩, ⟨by (with_reducible repeat (first | refine blk_drewN ?_ _ | refine blk_drew ?_ | refine blk_alloc ?_ _)); exact BK177.out⟩, ⟨by repeat (first | (with_reducible first | exact HB.out | apply below_alloc | apply pw_below_drewN | apply below_drew1 | refine below_set ?_ GE177.out) | exact HB.out)⟩⟩
 case round =>
  clear H'
  try clear p2
  obtain ⟨x6_1, x178000_1, x178001_1, x178002_1, x178003_1, x178004_1, rfl, HA, HK1, BK177, HB⟩ := hrel
  cases gk with
  | zero => exact absurd HA.out (by simp [loessref10_Find.l0])
  | succ k1 =>
    have H := HA.out
    clear HA
    simp only [loessref10_Find.l0] at H
    by_cases c4 : x6_1 < (l0.length : Int)
    · rw [if_pos c4] at H
      have c4b0 : decide (x6_1 < (l0.length : Int)) = true := decide_eq_true c4
      clear c4
      by_cases c5 : 0 ≤ x6_1
      · rw [if_pos c5] at H
        have c5b0 : decide (0 ≤ x6_1) = true := decide_eq_true c5
        clear c5
        by_cases c6 : ((rd_T27 l0 x6_1).f0).toList = a1.toList
        · rw [if_pos c6] at H
          have c6b0 : (((rd_T27 l0 x6_1).f0).toList == a1.toList) = true := beq_iff_eq.mpr c6
          have c6b1 : (((rd_T27 l0 x6_1).f0).toList != a1.toList) = false := bne_eq_false_iff_eq.mpr c6
          clear c6
          simp only [Option.some.injEq, Prod.mk.injEq] at H
          obtain ⟨rfl, rfl, rfl, rfl, rfl, rfl⟩ := H
          have p178 : 0 ≤ (x6_1 : Int) := of_decide_eq_true (by first | (with_reducible assumption) | assumption)
          have q178 : x6_1 < (l0.length : Int) := of_decide_eq_true (by first | (with_reducible assumption) | assumption)
          obtain ⟨ad178, e178, hx178_0, hx178_1, hx178_2, hx178_3, hx178_4⟩ := at_T27 HR0.out x6_1 p178 q178
          cases e178
          replace hx178_0 := (HB.out.cell (World.block_lt_of_cell? w _ hx178_0)).trans hx178_0
          replace hx178_1 := (HB.out.cell (World.block_lt_of_cell? w _ hx178_1)).trans hx178_1
          replace hx178_2 := (HB.out.cell (World.block_lt_of_cell? w _ hx178_2)).trans hx178_2
          replace hx178_3 := (HB.out.cell (World.block_lt_of_cell? w _ hx178_3)).trans hx178_3
          replace hx178_4 := (HB.out.cell (World.block_lt_of_cell? w _ hx178_4)).trans hx178_4
          replace p178 := eq_true p178
          replace q178 := eq_true q178
          have p179 : 0 ≤ (x6_1 : Int) := of_decide_eq_true (by first | (with_reducible assumption) | assumption)
          have q179 : x6_1 < (l0.length : Int) := of_decide_eq_true (by first | (with_reducible assumption) | assumption)
          obtain ⟨ad179, e179, hx179_0, hx179_1, hx179_2, hx179_3, hx179_4⟩ := at_T27 HR0.out x6_1 p179 q179
          obtain rfl : ad178 = ad179 := (by injection e179)
          replace hx179_0 := (HB.out.cell (World.block_lt_of_cell? w _ hx179_0)).trans hx179_0
          replace hx179_1 := (HB.out.cell (World.block_lt_of_cell? w _ hx179_1)).trans hx179_1
          replace hx179_2 := (HB.out.cell (World.block_lt_of_cell? w _ hx179_2)).trans hx179_2
          replace hx179_3 := (HB.out.cell (World.block_lt_of_cell? w _ hx179_3)).trans hx179_3
          replace hx179_4 := (HB.out.cell (World.block_lt_of_cell? w _ hx179_4)).trans hx179_4
          replace p179 := eq_true p179
          replace q179 := eq_true q179
          have hcz7_0 : wr.cell? ⟨gb177, 0, none⟩ = some (.string x178000_1) := (blk_cell BK177.out 0).trans rfl
          have hcz7_1 : wr.cell? ⟨gb177, 1, none⟩ = some (.bool x178001_1) := (blk_cell BK177.out 1).trans rfl
          have hcz7_2 : wr.cell? ⟨gb177, 2, none⟩ = some (.int .i64 x178002_1) := (blk_cell BK177.out 2).trans rfl
          have hcz7_3 : wr.cell? ⟨gb177, 3, none⟩ = some (.int .i64 x178003_1) := (blk_cell BK177.out 3).trans rfl
          have hcz7_4 : wr.cell? ⟨gb177, 4, none⟩ = some (.string x178004_1) := (blk_cell BK177.out 4).trans rfl
          have hfz7_0 := blk_frozen BK177.out 0
          have hfz7_1 := blk_frozen BK177.out 1
          have hfz7_2 := blk_frozen BK177.out 2
          have hfz7_3 := blk_frozen BK177.out 3
          have hfz7_4 := blk_frozen BK177.out 4
          go_wp2
          refine bodyPost_ret (results_ct rfl _ _ gb177 27 #[.string ((rd_T27 l0 x6_1).f0), .bool ((rd_T27 l0 x6_1).f1), .int .i64 ((rd_T27 l0 x6_1).f2.f0), .int .i64 ((rd_T27 l0 x6_1).f2.f1), .string ((rd_T27 l0 x6_1).f2.f2)] (0, 0) _ rfl (by (with_reducible repeat (first | refine blk_drewN ?_ _ | refine blk_drew ?_ | refine blk_alloc ?_ _)); refine blk_put (cs := #[.string ((rd_T27 l0 x6_1).f0), .bool ((rd_T27 l0 x6_1).f1), .int .i64 ((rd_T27 l0 x6_1).f2.f0), .int .i64 ((rd_T27 l0 x6_1).f2.f1), .string x178004_1]) ?_ 4 _ rfl; (with_reducible repeat (first | refine blk_drewN ?_ _ | refine blk_drew ?_ | refine blk_alloc ?_ _)); refine blk_put (cs := #[.string ((rd_T27 l0 x6_1).f0), .bool ((rd_T27 l0 x6_1).f1), .int .i64 ((rd_T27 l0 x6_1).f2.f0), .int .i64 x178003_1, .string x178004_1]) ?_ 3 _ rfl; (with_reducible repeat (first | refine blk_drewN ?_ _ | refine blk_drew ?_ | refine blk_alloc ?_ _)); refine blk_put (cs := #[.string ((rd_T27 l0 x6_1).f0), .bool ((rd_T27 l0 x6_1).f1), .int .i64 x178002_1, .int .i64 x178003_1, .string x178004_1]) ?_ 2 _ rfl; (with_reducible repeat (first | refine blk_drewN ?_ _ | refine blk_drew ?_ | refine blk_alloc ?_ _)); refine blk_put (cs := #[.string ((rd_T27 l0 x6_1).f0), .bool x178001_1, .int .i64 x178002_1, .int .i64 x178003_1, .string x178004_1]) ?_ 1 _ rfl; (with_reducible repeat (first | refine blk_drewN ?_ _ | refine blk_drew ?_ | refine blk_alloc ?_ _)); refine blk_put (cs := #[.string x178000_1, .bool x178001_1, .int .i64 x178002_1, .int .i64 x178003_1, .string x178004_1]) ?_ 0 _ rfl; (with_reducible repeat (first | refine blk_drewN ?_ _ | refine blk_drew ?_ | refine blk_alloc ?_ _)); exact BK177.out) Try.underlying27 rfl (by kernel_rfl)) rfl ?_
          exact ⟨by first | rfl | (simp [errW_none, errW_some] <;> rfl) | (simp [*, errW_none, errW_some] <;> rfl), by repeat (first | (with_reducible first | exact HB.out | apply below_alloc | apply pw_below_drewN | apply below_drew1 | refine below_set ?_ GE177.out) | exact HB.out)⟩
        · rw [if_neg c6] at H
          have c6b0 : (((rd_T27 l0 x6_1).f0).toList == a1.toList) = false := beq_eq_false_iff_ne.mpr c6
          have c6b1 : (((rd_T27 l0 x6_1).f0).toList != a1.toList) = true := bne_iff_ne.mpr c6
          have H' := Aside0.mk H
          clear H
          have p178 : 0 ≤ (x6_1 : Int) := of_decide_eq_true (by first | (with_reducible assumption) | assumption)
          have q178 : x6_1 < (l0.length : Int) := of_decide_eq_true (by first | (with_reducible assumption) | assumption)
          obtain ⟨ad178, e178, hx178_0, hx178_1, hx178_2, hx178_3, hx178_4⟩ := at_T27 HR0.out x6_1 p178 q178
          cases e178
          replace hx178_0 := (HB.out.cell (World.block_lt_of_cell? w _ hx178_0)).trans hx178_0
          replace hx178_1 := (HB.out.cell (World.block_lt_of_cell? w _ hx178_1)).trans hx178_1
          replace hx178_2 := (HB.out.cell (World.block_lt_of_cell? w _ hx178_2)).trans hx178_2
          replace hx178_3 := (HB.out.cell (World.block_lt_of_cell? w _ hx178_3)).trans hx178_3
          replace hx178_4 := (HB.out.cell (World.block_lt_of_cell? w _ hx178_4)).trans hx178_4
          replace p178 := eq_true p178
          replace q178 := eq_true q178
          go_wp2
          go_roundg k1
          case measure => have := HK1.out; omega
          case rel => exact ⟨(wrap64 (x6_1 + 1)), (x178000_1), (x178001_1), (x178002_1), (x178003_1), (x178004_1), (by first | rfl | (simp; done) | (simp [*]; done)), H', ⟨by have := HK1.out; omega⟩, ⟨by (with_reducible repeat (first | refine blk_drewN ?_ _ | refine blk_drew ?_ | refine blk_alloc ?_ _)); exact BK177.out⟩, ⟨by repeat (first | (with_reducible first | exact HB.out | apply below_alloc | apply pw_below_drewN | apply below_drew1 | refine below_set ?_ GE177.out) | exact HB.out)⟩⟩
      · rw [if_neg c5] at H
        exact absurd H (by simp)
    · rw [if_neg c4] at H
      have c4b0 : decide (x6_1 < (l0.length : Int)) = false := decide_eq_false c4
      clear c4
      simp only [Option.some.injEq, Prod.mk.injEq] at H
      obtain ⟨rfl, rfl, rfl, rfl, rfl, rfl⟩ := H
      have hcz8_0 : wr.cell? ⟨gb177, 0, none⟩ = some (.string x178000_1) := (blk_cell BK177.out 0).trans rfl
      have hcz8_1 : wr.cell? ⟨gb177, 1, none⟩ = some (.bool x178001_1) := (blk_cell BK177.out 1).trans rfl
      have hcz8_2 : wr.cell? ⟨gb177, 2, none⟩ = some (.int .i64 x178002_1) := (blk_cell BK177.out 2).trans rfl
      have hcz8_3 : wr.cell? ⟨gb177, 3, none⟩ = some (.int .i64 x178003_1) := (blk_cell BK177.out 3).trans rfl
      have hcz8_4 : wr.cell? ⟨gb177, 4, none⟩ = some (.string x178004_1) := (blk_cell BK177.out 4).trans rfl
      have hfz8_0 := blk_frozen BK177.out 0
      have hfz8_1 := blk_frozen BK177.out 1
      have hfz8_2 := blk_frozen BK177.out 2
      have hfz8_3 := blk_frozen BK177.out 3
      have hfz8_4 := blk_frozen BK177.out 4
      go_wp2
      refine bodyPost_ret (results_ct rfl _ _ gb177 27 #[.string (⟨#[]⟩ : ByteArray), .bool false, .int .i64 0, .int .i64 0, .string (⟨#[]⟩ : ByteArray)] (0, 0) _ rfl (by (with_reducible repeat (first | refine blk_drewN ?_ _ | refine blk_drew ?_ | refine blk_alloc ?_ _)); refine blk_put (cs := #[.string (⟨#[]⟩ : ByteArray), .bool false, .int .i64 0, .int .i64 0, .string x178004_1]) ?_ 4 _ rfl; (with_reducible repeat (first | refine blk_drewN ?_ _ | refine blk_drew ?_ | refine blk_alloc ?_ _)); refine blk_put (cs := #[.string (⟨#[]⟩ : ByteArray), .bool false, .int .i64 0, .int .i64 x178003_1, .string x178004_1]) ?_ 3 _ rfl; (with_reducible repeat (first | refine blk_drewN ?_ _ | refine blk_drew ?_ | refine blk_alloc ?_ _)); refine blk_put (cs := #[.string (⟨#[]⟩ : ByteArray), .bool false, .int .i64 x178002_1, .int .i64 x178003_1, .string x178004_1]) ?_ 2 _ rfl; (with_reducible repeat (first | refine blk_drewN ?_ _ | refine blk_drew ?_ | refine blk_alloc ?_ _)); refine blk_put (cs := #[.string (⟨#[]⟩ : ByteArray), .bool x178001_1, .int .i64 x178002_1, .int .i64 x178003_1, .string x178004_1]) ?_ 1 _ rfl; (with_reducible repeat (first | refine blk_drewN ?_ _ | refine blk_drew ?_ | refine blk_alloc ?_ _)); refine blk_put (cs := #[.string x178000_1, .bool x178001_1, .int .i64 x178002_1, .int .i64 x178003_1, .string x178004_1]) ?_ 0 _ rfl; (with_reducible repeat (first | refine blk_drewN ?_ _ | refine blk_drew ?_ | refine blk_alloc ?_ _)); exact BK177.out) Try.underlying27 rfl (by kernel_rfl)) rfl ?_
      exact ⟨by first | rfl | (simp [errW_none, errW_some] <;> rfl) | (simp [*, errW_none, errW_some] <;> rfl), by repeat (first | (with_reducible first | exact HB.out | apply below_alloc | apply pw_below_drewN | apply below_drew1 | refine below_set ?_ GE177.out) | exact HB.out)⟩
end Go.Proofs.Ytkhcmddeeodbkaa.XSor
