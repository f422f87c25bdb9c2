import Derived.Test.YtkhcmddeeodbkaaZSortedAll24
import Derived.Test.YtkhcmddeeodbkaaZSortedAll26
import Derived.Test.YtkhcmddeeodbkaaZSortedAll27
-- Own texts and, of the words that the kit's print program wrote for this claim, those that are needed here: put together by wip/prune.py.
set_option linter.unusedSimpArgs false
set_option linter.unusedVariables false
namespace Go.Proofs.Ytkhcmddeeodbkaa.GL
open Go.RowKit Go.Proofs.YtkhcmddeeodbkaaW.PrintWords Go.Proofs.YtkhcmddeeodbkaaW.PrintLast Go.Proofs.YtkhcmddeeodbkaaW.PrintMore Go.Proofs.Ytkhcmddeeodbkaa.Q Go.Proofs.Ytkhcmddeeodbkaa.XSor Go.Proofs.Ytkhcmddeeodbkaa.G
theorem refHash_p {s : ByteArray} (w : World) (hs : s.size < 17592186044416) : Calls Try.prog 39 #[.string s] w fun e w' => e = .returned (.int .u64 (H s)) ∧ Below w.heap.size w w' := by
 obtain ⟨k, hk⟩ := (refHash_ev hs).rounds
 exact loessref6_Hash.calls k s _ w hk
theorem ref_RankI {w : World} {A : Option Addr} {c m : Nat} {L : List Bool} {o : Option Int} (n h : Int) (hm : m = L.length) (hC : Kd.C Kd.bool w A m L) (hc : m ≤ c) (hl : L.length < 100000000000) (hh : 0 ≤ h ∧ h < 18446744073709551616) (h0 : 0 ≤ n) (h1 : n ≤ 4096) (ho : rankI L h n = o) :
    Calls Try.prog 66 #[.slice A m c, .int .i64 n, .int .u64 h] w fun e w' => e = .returned (.tuple #[.int .i64 (numP o).1, .bool (numP o).2]) ∧ Below w.heap.size w w' := by
 subst hm
 subst ho
 obtain ⟨k, hk⟩ := (rankF_ev L h n hl hh.1 hh.2 h0 h1).rounds
 refine (loessref6_Rank.calls k A c L n h (numP (rankI L h n)).1 (numP (rankI L h n)).2 w hC hc hk).mono ?_
 rintro e w' ⟨rfl, ⟨nd, rfl⟩⟩
 exact ⟨rfl, pw_below_drewN (Below.refl _ _) nd⟩
def cntH (L : List Pr) (y : Int) (i : Nat) : Nat := ((L.take i).filter (fun p => decide (H p.f0 = y))).length
theorem cntH_succ {L : List Pr} {y : Int} {i : Nat} (h : i < L.length) : cntH L y (i + 1) = cntH L y i + (if H (rd_T30 L (i : Int)).f0 = y then 1 else 0) := by
 unfold cntH
 rw [take_i h, List.filter_append, List.length_append]
 by_cases c : H (rd_T30 L (i : Int)).f0 = y
 · rw [if_pos c, List.filter_cons_of_pos (by simp [c])]; rfl
 · rw [if_neg c, List.filter_cons_of_neg (by simp [c])]; rfl
theorem cntH_le (L : List Pr) (y : Int) (i : Nat) : cntH L y i ≤ i := by
 unfold cntH
 refine Nat.le_trans (List.length_filter_le _ _) ?_
 rw [List.length_take]
 omega
theorem hashes_p {w : World} {A : Option Addr} {n c k : Nat} {L : List Pr} {S : List Int} (hn : n = L.length) (hC : Kd.C k30 w A n L) (hc : n ≤ c) (h : loessref22_Hashes.f k L = some S) :
    Calls Try.prog 65 #[.slice A n c] w fun e w' => ∃ A1 c1, e = .returned (.slice A1 S.length c1) ∧ Kd.C (Kd.int .u64) w' A1 S.length S ∧ S.length ≤ c1 ∧ Below w.heap.size w w' := by
 subst hn
 refine (loessref22_Hashes.calls k A c L S w hC hc h).mono ?_
 rintro e w' ⟨v, rfl, hR, hb⟩
 obtain ⟨A1, c1, rfl, h1, h2⟩ := Kd.R_reads hR
 exact ⟨A1, c1, rfl, h2, h1, hb⟩
theorem tree_p {w : World} {A : Option Addr} {m c k : Nat} {S : List Int} {T : List Bool} (hm : m = S.length) (hC : Kd.C (Kd.int .u64) w A m S) (hc : m ≤ c) (h : loessref6_Tree.f k S 0 = some T) :
    Calls Try.prog 67 #[.slice A m c, .int .i64 0] w fun e w' => ∃ A1 c1, e = .returned (.slice A1 T.length c1) ∧ Kd.C Kd.bool w' A1 T.length T ∧ T.length ≤ c1 ∧ Below w.heap.size w w' := by
 subst hm
 refine (loessref6_Tree.calls k A c S 0 T w hC hc h).mono ?_
 rintro e w' ⟨v, rfl, hR, hb⟩
 obtain ⟨A1, c1, rfl, h1, h2⟩ := Kd.R_reads hR
 exact ⟨A1, c1, rfl, h2, h1, hb⟩
set_option maxRecDepth 1000000 in
set_option maxHeartbeats 8000000 in
theorem ref_SortedReads {w : World} {A : Option Addr} {n c : Nat} {L : List Pr} {k : ByteArray} (hn : n = L.length) (hC : Kd.C k30 w A n L) (hc : n ≤ c) (hm : MayP L) (hsz : ∀ p ∈ L, p.f0.size < 17592186044416) (hk : k.size < 17592186044416) :
    Calls Try.prog 47 #[.slice A n c, .string k] w fun e w' => e = .returned (.int .i64 (likeL L k).length) ∧ Below w.heap.size w w' := by
 have HN := Aside0.mk hn
 have HC := Aside0.mk hC
 have HCC := Aside0.mk hc
 have HM := Aside0.mk hm
 have HK := Aside0.mk hsz
 have HKZ := Aside0.mk hk
 have HNL := Aside0.mk (show n ≤ 1000 by rw [hn]; exact hm.1)
 have HB := Aside0.mk (Below.refl w.heap.size w)
 obtain ⟨S, hS⟩ : ∃ S, S = hsL L := ⟨_, rfl⟩
 obtain ⟨k1, hk1⟩ := (hashes_ev L (by have := hm.1; omega) hsz).rounds
 rw [← hS] at hk1
 have HK1 := Aside0.mk hk1
 have HSL := Aside0.mk (show S.length ≤ 1000 by rw [hS]; have := hsL_len_le L; have := hm.1; omega)
 have hinv := hsL_inv L hm.sortH
 rw [← hS] at hinv
 have HOKT := Aside0.mk (OkT.all hinv.1 (by rw [hS]; exact hs_u64 hm.sortH))
 have HUS := Aside0.mk (show U64s S by rw [hS]; exact hs_u64 hm.sortH)
 obtain ⟨T, hT⟩ : ∃ T, T = treeG 64 S := ⟨_, rfl⟩
 have HTT := Aside0.mk hT
 have HSS := Aside0.mk hS
 have HTL := Aside0.mk (show T.length < 100000000000 by rw [hT, hS]; exact tree_len hm.1)
 have hnz : (n : Int) ≤ 1000 := by have := HNL.out; omega
 clear hn hC hc hm hsz hk hS hk1 hinv hT
 obtain ⟨m, hm⟩ : ∃ m, m = S.length := ⟨_, rfl⟩
 have HMM := Aside0.mk hm
 have HML := Aside0.mk (show m ≤ 1000 by rw [hm]; exact HSL.out)
 obtain ⟨kt, hkt⟩ := (tree_ev 64 S 0 (by decide) (by decide) (by have := HSL.out; omega) HOKT.out HUS.out).rounds
 rw [← HTT.out] at hkt
 have HKT := Aside0.mk hkt
 obtain ⟨o, ho⟩ : ∃ o, rankI T (H k) (m : Int) = o := ⟨_, rfl⟩
 have HO := Aside0.mk ho
 obtain ⟨R, hR⟩ : ∃ R, R = (likeL L k).length := ⟨_, rfl⟩
 have HR := Aside0.mk (show R = (match o with | none => [] | some q => ofH L (S.getD q.toNat 0)).length by
  rw [hR, ← ho]
  unfold likeL treeOf
  rw [← HSS.out, ← HTT.out, ← hm]
  rfl)
 rw [← hR]
 have hob : ∀ q, o = some q → 0 ≤ q ∧ q.toNat < m := fun q hq => by
  have h := rankI_bd (L := L) (h := H k) (q := q) (by unfold treeOf; rw [← HSS.out, ← HTT.out, ← hm, ho, hq])
  rw [← HSS.out, ← hm] at h
  exact h
 clear hm hkt ho hR
 go_enter Try.func47, Try.ntmps47
 cases o with
 | none =>
   clear hob
   go_wp2_with (first
    | (go_at_call 65; (with_reducible refine (hashes_p HN.out HC.out HCC.out HK1.out).mono ?_); rintro e w1 ⟨A1, c1, rfl, hC, hc, hb⟩; have HS1 := Aside0.mk hC; have HN1 := Aside0.mk hc; rw [← HMM.out] at HS1 HN1 ⊢; have n1_ := Aside0.mk (below_step HB.out hb); clear HB; have HB := n1_; clear n1_; clear hC hc hb)
    | (go_at_call 67; (with_reducible refine (tree_p HMM.out HS1.out HN1.out HKT.out).mono ?_); rintro e w2 ⟨A2, c2, rfl, hC, hc, hb⟩; have HS2 := Aside0.mk hC; have HN2 := Aside0.mk hc; have n2_ := Aside0.mk (Kd.C_below HS1.out hb); clear HS1; have HS1 := n2_; clear n2_; have n1_ := Aside0.mk (below_step HB.out hb); clear HB; have HB := n1_; clear n1_; clear hC hc hb)
    | (go_at_call 39; (with_reducible refine (refHash_p _ HKZ.out).mono ?_); rintro e w3 ⟨rfl, hb⟩; have n2_ := Aside0.mk (Kd.C_below HS1.out hb); have n3_ := Aside0.mk (Kd.C_below HS2.out hb); clear HS1 HS2; have HS1 := n2_; have HS2 := n3_; clear n2_ n3_; have n1_ := Aside0.mk (below_step HB.out hb); clear HB; have HB := n1_; clear n1_; clear hb)
    | (go_at_call 66; refine (ref_RankI (m : Int) (H k) rfl HS2.out HN2.out HTL.out (H_range k) (Int.natCast_nonneg _) (by have := HML.out; omega) HO.out).mono ?_; rintro e w4 ⟨rfl, hb⟩; have n2_ := Aside0.mk (Kd.C_below HS1.out hb); clear HS1 HS2; have HS1 := n2_; clear n2_; have n1_ := Aside0.mk (below_step HB.out hb); clear HB; have HB := n1_; clear n1_; clear hb; simp only [numP, Option.getD, Option.isSome]))
   go_ret
   exact ⟨by rw [HR.out]; rfl, HB.out⟩
 | some q0 =>
   obtain ⟨hq0, hqm⟩ := hob q0 rfl
   obtain ⟨q, rfl⟩ := Int.eq_ofNat_of_zero_le hq0
   rw [Int.toNat_natCast] at hqm
   obtain ⟨y, hy⟩ : ∃ y, y = S.getD q 0 := ⟨_, rfl⟩
   have HQM := Aside0.mk hqm
   have HY := Aside0.mk hy
   have HRY := Aside0.mk (show R = cntH L y L.length by rw [HR.out, hy]; unfold cntH; rw [List.take_length]; rfl)
   clear hob hq0 hqm hy
   go_wp2_with (first
    | (go_at_call 65; (with_reducible refine (hashes_p HN.out HC.out HCC.out HK1.out).mono ?_); rintro e w1 ⟨A1, c1, rfl, hC, hc, hb⟩; have HS1 := Aside0.mk hC; have HN1 := Aside0.mk hc; rw [← HMM.out] at HS1 HN1 ⊢; have n1_ := Aside0.mk (below_step HB.out hb); clear HB; have HB := n1_; clear n1_; clear hC hc hb)
    | (go_at_call 67; (with_reducible refine (tree_p HMM.out HS1.out HN1.out HKT.out).mono ?_); rintro e w2 ⟨A2, c2, rfl, hC, hc, hb⟩; have HS2 := Aside0.mk hC; have HN2 := Aside0.mk hc; have n2_ := Aside0.mk (Kd.C_below HS1.out hb); clear HS1; have HS1 := n2_; clear n2_; have n1_ := Aside0.mk (below_step HB.out hb); clear HB; have HB := n1_; clear n1_; clear hC hc hb)
    | (go_at_call 39; (with_reducible refine (refHash_p _ HKZ.out).mono ?_); rintro e w3 ⟨rfl, hb⟩; have n2_ := Aside0.mk (Kd.C_below HS1.out hb); have n3_ := Aside0.mk (Kd.C_below HS2.out hb); clear HS1 HS2; have HS1 := n2_; have HS2 := n3_; clear n2_ n3_; have n1_ := Aside0.mk (below_step HB.out hb); clear HB; have HB := n1_; clear n1_; clear hb)
    | (go_at_call 66; refine (ref_RankI (m : Int) (H k) rfl HS2.out HN2.out HTL.out (H_range k) (Int.natCast_nonneg _) (by have := HML.out; omega) HO.out).mono ?_; rintro e w4 ⟨rfl, hb⟩; have n2_ := Aside0.mk (Kd.C_below HS1.out hb); clear HS1 HS2; have HS1 := n2_; clear n2_; have n1_ := Aside0.mk (below_step HB.out hb); clear HB; have HB := n1_; clear n1_; clear hb; simp only [numP, Option.getD, Option.isSome]))
   obtain ⟨bd, e, hz⟩ := Kd.at_int HS1.out (q : Int) (Int.natCast_nonneg _) (by have := HQM.out; omega)
   cases e
   have hz0 : w4.cell? (bd.add q) = some (.int .u64 y) := by
    rw [HY.out]
    exact hz
   have K0 := Aside0.mk hz0
   have hqz : (q : Int) < (m : Int) := by have := HQM.out; omega
   have hq00 : (0 : Int) ≤ (q : Int) := by omega
   have HX := Aside0.mk (Below.refl w4.heap.size w4)
   have HC4 := Aside0.mk (Kd.C_below HC.out HB.out)
   clear hz hz0
   go_wp2
   go_loopw [8, 9] (fun v8 v9 wr => ∃ (i : Nat), v9 = .int .i64 i ∧ i ≤ n ∧ v8 = .int .i64 (cntH L y i) ∧ Aside0 (Below w4.heap.size w4 wr)) (fun _ v _ => n - (intOf v).toNat)
   case atStart => exact ⟨0, by first | rfl | go_num, Nat.zero_le _, by first | rfl | go_num, HX⟩
   case round =>
    clear HX
    obtain ⟨i, rfl, hi, rfl, HW⟩ := hrel
    obtain ⟨ct, hct⟩ : ∃ c, c = cntH L y i := ⟨_, rfl⟩
    have hctb : (ct : Int) ≤ 1000 := by have := cntH_le L y i; have := HNL.out; omega
    have hct0 : (0 : Int) ≤ (ct : Int) := by omega
    have HCT := Aside0.mk hct
    rw [← hct]
    by_cases hlt : i < n
    · have HLT := Aside0.mk hlt
      have hltz : (i : Int) < (L.length : Int) := by rw [← HN.out]; omega
      have hltz2 : (i : Int) < (n : Int) := by omega
      have hl1 : decide ((i : Int) < (n : Int)) = true := decide_eq_true (by omega)
      have hl2 := decide_eq_true hlt
      have HST := Aside0.mk (cntH_succ (L := L) (y := y) (i := i) (by rw [← HN.out]; exact hlt))
      obtain ⟨ad, e, h0, _, _, _⟩ := at_T30 (by have := HC4.out; rw [HN.out] at this; exact this) (i : Int) (Int.natCast_nonneg _) hltz
      cases e
      simp only [Int.toNat_natCast] at h0
      have hxL : rd_T30 L (i : Int) ∈ L := by
       have e : rd_T30 L (i : Int) = L[i]'(by rw [← HN.out]; exact HLT.out) := by simp [rd_T30, ← HN.out, hlt]
       rw [e]
       exact List.getElem_mem _
      obtain ⟨x, hx⟩ : ∃ x, x = rd_T30 L (i : Int) := ⟨_, rfl⟩
      rw [← hx] at h0 HST hxL
      have HKX := Aside0.mk (HK.out x hxL)
      have H0 := Aside0.mk h0
      clear hx hxL hltz hlt hi h0 hct
      go_upto_region 9 with (fail)
      refine start_ (n := 11) (S := fun w' => w'.cell? (ad.add (i * 4)) = some (.string x.f0) ∧ w'.cell? (bd.add q) = some (.int .u64 y)) (ds := []) #[false, false, false, false, false, false, false, false, false, false, false] (by kernel_rfl) rfl rfl ⟨((HW.out.drew.cell (World.block_lt_of_cell? w4 _ H0.out)).trans H0.out), ((HW.out.drew.cell (World.block_lt_of_cell? w4 _ K0.out)).trans K0.out)⟩ (fun hHeld => ?_)
      refine pure_ (i := 0) (N := some 30) (v := ?_) (a' := ?_) #[true, false, false, false, false, false, false, false, false, false, false] rfl rfl (by kernel_rfl) (fun _ _ _ h => h) (Or.inl ⟨by rfl, ?_⟩) ?_ ?_
      rotate_left
      · intro w'
        go_simp
        with_reducible rfl
      rotate_left
      · simp only [Act.put, List.setIfInBounds_toArray, List.set_cons_zero, List.set_cons_succ, i64_w, i32_w]
        rfl
      refine pure_ (i := 1) (N := some 31) (v := ?_) (a' := ?_) #[true, true, false, false, false, false, false, false, false, false, false] rfl rfl (by kernel_rfl) (fun _ _ _ h => h) (Or.inl ⟨by rfl, ?_⟩) ?_ ?_
      rotate_left
      · intro w'
        go_simp
        with_reducible rfl
      rotate_left
      · simp only [Act.put, List.setIfInBounds_toArray, List.set_cons_zero, List.set_cons_succ, i64_w, i32_w]
        rfl
      refine pure_ (i := 2) (N := some 32) (v := ?_) (a' := ?_) #[true, true, true, false, false, false, false, false, false, false, false] rfl rfl (by kernel_rfl) (fun _ _ _ h => h) (Or.inl ⟨by rfl, ?_⟩) ?_ ?_
      rotate_left
      · intro w'
        go_simp
        with_reducible rfl
      rotate_left
      · simp only [Act.put, List.setIfInBounds_toArray, List.set_cons_zero, List.set_cons_succ, i64_w, i32_w]
        rfl
      refine pure_ (i := 3) (N := some 33) (v := ?_) (a' := ?_) #[true, true, true, true, false, false, false, false, false, false, false] rfl rfl (by kernel_rfl) (fun _ _ _ h => h) (Or.inl ⟨by rfl, ?_⟩) ?_ ?_
      rotate_left
      · intro w'
        go_simp
        with_reducible rfl
      rotate_left
      · simp only [Act.put, List.setIfInBounds_toArray, List.set_cons_zero, List.set_cons_succ, i64_w, i32_w]
        rfl
      refine pure_ (i := 6) (N := some 36) (v := ?_) (a' := ?_) #[true, true, true, true, false, false, true, false, false, false, false] rfl rfl (by kernel_rfl) (fun _ _ _ h => h) (Or.inl ⟨by rfl, ?_⟩) ?_ ?_
      rotate_left
      · intro w'
        go_simp
        with_reducible rfl
      rotate_left
      · simp only [Act.put, List.setIfInBounds_toArray, List.set_cons_zero, List.set_cons_succ, i64_w, i32_w]
        rfl
      refine pure_ (i := 7) (N := some 37) (v := ?_) (a' := ?_) #[true, true, true, true, false, false, true, true, false, false, false] rfl rfl (by kernel_rfl) (fun _ _ _ h => h) (Or.inl ⟨by rfl, ?_⟩) ?_ ?_
      rotate_left
      · intro w'
        go_simp
        with_reducible rfl
      rotate_left
      · simp only [Act.put, List.setIfInBounds_toArray, List.set_cons_zero, List.set_cons_succ, i64_w, i32_w]
        rfl
      refine pure_ (i := 8) (N := some 38) (v := ?_) (a' := ?_) #[true, true, true, true, false, false, true, true, true, false, false] rfl rfl (by kernel_rfl) (fun _ _ _ h => h) (Or.inl ⟨by rfl, ?_⟩) ?_ ?_
      rotate_left
      · intro w'
        go_simp
        with_reducible rfl
      rotate_left
      · simp only [Act.put, List.setIfInBounds_toArray, List.set_cons_zero, List.set_cons_succ, i64_w, i32_w]
        rfl
      refine take_ (i := 4) (N := some 34) (v := ?_) (a' := ?_) #[true, true, true, true, true, false, true, true, true, false, false] rfl rfl (by kernel_rfl) (fun _ _ _ h => h) (Or.inl ⟨by rfl, ?_⟩) hHeld ?_ ?_
      rotate_left
      · rintro w' ⟨s0, s1⟩
        go_simp
        with_reducible rfl
      rotate_left
      · simp only [Act.put, List.setIfInBounds_toArray, List.set_cons_zero, List.set_cons_succ, i64_w, i32_w]
        rfl
      refine take_ (i := 9) (N := some 39) (v := ?_) (a' := ?_) #[true, true, true, true, true, false, true, true, true, true, false] rfl rfl (by kernel_rfl) (fun _ _ _ h => h) (Or.inl ⟨by rfl, ?_⟩) hHeld ?_ ?_
      rotate_left
      · rintro w' ⟨s0, s1⟩
        go_simp
        with_reducible rfl
      rotate_left
      · simp only [Act.put, List.setIfInBounds_toArray, List.set_cons_zero, List.set_cons_succ, i64_w, i32_w]
        rfl
      refine one_ (i := 5) (N := some 35) #[true, true, true, true, true, true, true, true, true, true, false] rfl rfl (by kernel_rfl) (by decide) (fun K hK => ?_)
      refine goes_ Try.func39 (by kernel_rfl) rfl #[.string x.f0] (by rfl) rfl rfl (by simp only [List.map_toArray, List.map_cons, List.map_nil]; rfl) ?_
      with_reducible refine (refHash_p _ HKX.out).mono ?_
      rintro e w6 ⟨rfl, hb⟩
      refine ⟨_, rfl, ?_⟩
      have n1_ := Aside0.mk (below_step (by first | exact HW.out | exact HW.out.drew) hb)
      clear HW hb
      have HW := n1_
      clear n1_
      refine hK.out _ _ ⟨((HW.out.cell (World.block_lt_of_cell? w4 _ H0.out)).trans H0.out), ((HW.out.cell (World.block_lt_of_cell? w4 _ K0.out)).trans K0.out)⟩ (fun hHeld => ?_)
      clear hK K
      refine norm_ (a' := ?_) ?_ ?_
      rotate_left
      · show Act.put _ (some 35) _ = _
        simp only [Act.put, List.setIfInBounds_toArray, List.set_cons_zero, List.set_cons_succ, i64_w, i32_w]
        rfl
      refine pure_ (i := 10) (N := some 40) (v := ?_) (a' := ?_) #[true, true, true, true, true, true, true, true, true, true, true] rfl rfl (by kernel_rfl) (fun _ _ _ h => h) (Or.inl ⟨by rfl, ?_⟩) ?_ ?_
      rotate_left
      · intro w'
        go_simp
        with_reducible rfl
      rotate_left
      · simp only [Act.put, List.setIfInBounds_toArray, List.set_cons_zero, List.set_cons_succ, i64_w, i32_w]
        rfl
      refine done_ (by kernel_rfl) ?_
      by_cases he : H x.f0 = y
      · have he2 : (H x.f0 == y) = true := by simp [he]
        have HE := Aside0.mk (show ct + 1 = cntH L y (i + 1) by rw [HST.out, if_pos he, HCT.out])
        clear he
        go_wp2
        refine ⟨⟨i + 1, by first | rfl | go_num, by have := HLT.out; omega, by rw [← HE.out]; first | rfl | go_num, HW⟩, ?_⟩
        have := HLT.out
        simp [intOf]
        omega
      · have he2 : (H x.f0 == y) = false := by simp [he]
        have HE := Aside0.mk (show ct = cntH L y (i + 1) by rw [HST.out, if_neg he, HCT.out, Nat.add_zero])
        clear he
        go_wp2
        refine ⟨⟨i + 1, by first | rfl | go_num, by have := HLT.out; omega, by rw [← HE.out], HW⟩, ?_⟩
        have := HLT.out
        simp [intOf]
        omega
    · obtain rfl : i = n := by omega
      have hl1 : decide ((i : Int) < (i : Int)) = false := decide_eq_false (by omega)
      have hl2 : decide (i < i) = false := decide_eq_false (by omega)
      have HE := Aside0.mk (show R = ct by rw [HRY.out, HCT.out, ← HN.out])
      clear hlt hi hct
      go_wp2
      go_ret
      exact ⟨by rw [HE.out]; rfl, below_step HB.out HW.out⟩
end Go.Proofs.Ytkhcmddeeodbkaa.GL
namespace Go.Proofs.Ytkhcmddeeodbkaa.GL
open Go.RowKit Go.Proofs.YtkhcmddeeodbkaaW.PrintWords Go.Proofs.YtkhcmddeeodbkaaW.PrintLast Go.Proofs.YtkhcmddeeodbkaaW.PrintMore Go.Proofs.Ytkhcmddeeodbkaa.Q Go.Proofs.Ytkhcmddeeodbkaa.XSor Go.Proofs.Ytkhcmddeeodbkaa.G
theorem st_LenB {w : World} {g n : Nat} {L : List Pr} (h : SO w g L) (hn : n = L.length) : Calls Try.prog 18 #[.pointer (some ⟨g, 0, none⟩)] w fun e w' => e = .returned (.int .i64 n) ∧ Below w.heap.size w w' := by
 subst hn
 refine (st_Len h).mono ?_
 rintro e w' ⟨h1, rfl⟩
 exact ⟨h1, Below.refl _ _⟩
theorem st_ListN {w : World} {g n : Nat} {L : List Pr} (h : SO w g L) (hn : n = L.length) : Calls Try.prog 27 #[.pointer (some ⟨g, 0, none⟩)] w fun e w' => ∃ A c, e = .returned (.slice A n c) ∧ Kd.C k30 w' A n L ∧ Below w.heap.size w w' := by
 subst hn
 refine (st_List h).mono ?_
 rintro e w' ⟨A, c, h1, h2, _, h3⟩
 exact ⟨A, c, h1, h2, h3⟩
theorem reads_r {W : World} {g : Nat} {L : List Pr} {k : ByteArray} {m : Nat} (h : SO W g L) (hk : k.size < 17592186044416) (hv : m = (likeL L k).length) : Calls Try.prog 20 #[.pointer (some ⟨g, 0, none⟩), .string k] W fun e w' => e = .returned (.int .i64 m) ∧ Below W.heap.size W w' := by
 rw [hv]
 exact st_Reads (k := k) h hk
theorem find_uniqP {D : List Pr} (h : D.Pairwise (fun a b => ltK a.f0 b.f0 = true)) {y : Pr} (hy : y ∈ D) : findP D y.f0 = some y := by
 unfold findP
 induction D with
 | nil => cases hy
 | cons x r ih =>
   obtain ⟨h1, h2⟩ := List.pairwise_cons.1 h
   rcases List.mem_cons.1 hy with rfl | hy
   · exact List.find?_cons_of_pos (decide_eq_true rfl)
   · have hx : x.f0 ≠ y.f0 := fun e => by
       have h3 := h1 y hy
       rw [e, ltK_irr] at h3
       cases h3
     rw [List.find?_cons_of_neg (by rw [decide_eq_false hx]; exact Bool.false_ne_true)]
     exact ih h2 hy
theorem val_self {L : List Pr} (hm : MayP L) {x : Pr} (hx : x ∈ L) : valP L x.f0 = (x.f1, true) := by
 unfold valP
 rw [find_uniqP hm.rise hx]
theorem refVal_p {w : World} {A : Option Addr} {n c : Nat} {L : List Pr} {k : ByteArray} {u : Rw} {b : Bool} (hn : n = L.length) (hC : Kd.C k30 w A n L) (hc : n ≤ c) (hl : n ≤ 1000000) (hv : valP L k = (u, b)) :
    Calls Try.prog 46 #[.slice A n c, .string k] w fun e w' => e = .returned (.tuple #[.agg #[.int .i64 u.f0, .int .i64 u.f1, .string u.f2], .bool b]) ∧ Below w.heap.size w w' := by
 subst hn
 obtain ⟨k0, hk0⟩ := (val_ev L k hl).rounds
 rw [hv] at hk0
 exact loessref22_Val.calls k0 A c L k u.f0 u.f1 u.f2 b w hC hc hk0
set_option maxRecDepth 1000000 in
set_option maxHeartbeats 8000000 in
theorem law_right {w : World} {g : Nat} {A : Option Addr} {n c : Nat} {L : List Pr} {ask : ByteArray} (hS : SO w g L) (hn : n = L.length) (hC : Kd.C k30 w A n L) (hc : n ≤ c) (hm : MayP L) (hsr : ∀ p ∈ L, SmR (recP p)) (hask : ask.size < 17592186044416) :
    Calls Try.prog 21 #[.pointer (some ⟨g, 0, none⟩), .slice A n c, .string ask] w fun e w' => e = .returned (.bool true) ∧ Below w.heap.size w w' := by
 have HS := Aside0.mk hS
 have HN := Aside0.mk hn
 have HC := Aside0.mk hC
 have HCC := Aside0.mk hc
 have HMP := Aside0.mk hm
 have HSR := Aside0.mk hsr
 have HASK := Aside0.mk hask
 have HN1 := Aside0.mk (show n ≤ 1000 by rw [hn]; exact hm.1)
 have HNL := Aside0.mk (show n ≤ 1000000 by rw [hn]; have := hm.1; omega)
 have HW := Aside0.mk (Below.refl w.heap.size w)
 have hnz : (n : Int) ≤ 1000 := by have := HN1.out; omega
 have hne : ((n : Int) != (n : Int)) = false := by simp
 obtain ⟨t, ht⟩ : ∃ t, t = strOfNums (encP L) := ⟨_, rfl⟩
 have HT := Aside0.mk ht
 have htt : (t.toList == t.toList) = true := beq_self_eq_true _
 clear hS hn hC hc hm hsr hask ht
 go_enter Try.func21, Try.ntmps21
 go_upto_region 1 with (fail)
 refine start_ (n := 21) (S := fun w' => True) (ds := []) #[false, false, false, false, false, false, false, false, false, false, false, false, false, false, false, false, false, false, false, false, false] (by kernel_rfl) rfl rfl trivial (fun hHeld => ?_)
 refine pure_ (i := 0) (N := some 14) (v := ?_) (a' := ?_) #[true, false, false, false, false, false, false, false, false, false, false, false, false, false, false, false, false, false, false, false, false] rfl rfl (by kernel_rfl) (fun _ _ _ h => h) (Or.inl ⟨by rfl, ?_⟩) ?_ ?_
 rotate_left
 · intro w'
   go_simp
   with_reducible rfl
 rotate_left
 · simp only [Act.put, List.setIfInBounds_toArray, List.set_cons_zero, List.set_cons_succ, i64_w, i32_w]
   rfl
 refine pure_ (i := 2) (N := some 16) (v := ?_) (a' := ?_) #[true, false, true, false, false, false, false, false, false, false, false, false, false, false, false, false, false, false, false, false, false] rfl rfl (by kernel_rfl) (fun _ _ _ h => h) (Or.inl ⟨by rfl, ?_⟩) ?_ ?_
 rotate_left
 · intro w'
   go_simp
   with_reducible rfl
 rotate_left
 · simp only [Act.put, List.setIfInBounds_toArray, List.set_cons_zero, List.set_cons_succ, i64_w, i32_w]
   rfl
 refine pure_ (i := 3) (N := some 17) (v := ?_) (a' := ?_) #[true, false, true, true, false, false, false, false, false, false, false, false, false, false, false, false, false, false, false, false, false] rfl rfl (by kernel_rfl) (fun _ _ _ h => h) (Or.inl ⟨by rfl, ?_⟩) ?_ ?_
 rotate_left
 · intro w'
   go_simp
   with_reducible rfl
 rotate_left
 · simp only [Act.put, List.setIfInBounds_toArray, List.set_cons_zero, List.set_cons_succ, i64_w, i32_w]
   rfl
 refine one_ (i := 1) (N := some 15) #[true, true, true, true, false, false, false, false, false, false, false, false, false, false, false, false, false, false, false, false, false] rfl rfl (by kernel_rfl) (by decide) (fun K hK => ?_)
 refine goes_ Try.func18 (by kernel_rfl) rfl #[.pointer (some ⟨g, 0, none⟩)] (by rfl) rfl rfl (by simp only [List.map_toArray, List.map_cons, List.map_nil]; rfl) ?_
 with_reducible refine (st_LenB (HS.out.below (by first | exact HW.out | exact HW.out.drew)) HN.out).mono ?_
 rintro e w1 ⟨rfl, hb⟩
 refine ⟨_, rfl, ?_⟩
 have n1_ := Aside0.mk (below_step (by first | exact HW.out | exact HW.out.drew) hb)
 clear HW hb
 have HW := n1_
 clear n1_
 refine hK.out _ _ trivial (fun hHeld => ?_)
 clear hK K
 refine norm_ (a' := ?_) ?_ ?_
 rotate_left
 · show Act.put _ (some 15) _ = _
   simp only [Act.put, List.setIfInBounds_toArray, List.set_cons_zero, List.set_cons_succ, i64_w, i32_w]
   rfl
 refine pure_ (i := 4) (N := some 18) (v := ?_) (a' := ?_) #[true, true, true, true, true, false, false, false, false, false, false, false, false, false, false, false, false, false, false, false, false] rfl rfl (by kernel_rfl) (fun _ _ _ h => h) (Or.inl ⟨by rfl, ?_⟩) ?_ ?_
 rotate_left
 · intro w'
   go_simp
   with_reducible rfl
 rotate_left
 · simp only [Act.put, List.setIfInBounds_toArray, List.set_cons_zero, List.set_cons_succ, i64_w, i32_w]
   rfl
 refine pure_ (i := 5) (N := some 19) (v := ?_) (a' := ?_) #[true, true, true, true, true, true, false, false, false, false, false, false, false, false, false, false, false, false, false, false, false] rfl rfl (by kernel_rfl) (fun _ _ _ h => h) (Or.inl ⟨by rfl, ?_⟩) ?_ ?_
 rotate_left
 · intro w'
   go_simp
   with_reducible rfl
 rotate_left
 · simp only [Act.put, List.setIfInBounds_toArray, List.set_cons_zero, List.set_cons_succ, i64_w, i32_w]
   rfl
 refine pure_ (i := 6) (N := some 20) (v := ?_) (a' := ?_) #[true, true, true, true, true, true, true, false, false, false, false, false, false, false, false, false, false, false, false, false, false] rfl rfl (by kernel_rfl) (fun _ _ _ h => h) (Or.inl ⟨by rfl, ?_⟩) ?_ ?_
 rotate_left
 · intro w'
   go_simp
   with_reducible rfl
 rotate_left
 · simp only [Act.put, List.setIfInBounds_toArray, List.set_cons_zero, List.set_cons_succ, i64_w, i32_w]
   rfl
 refine pure_ (i := 8) (N := some 22) (v := ?_) (a' := ?_) #[true, true, true, true, true, true, true, false, true, false, false, false, false, false, false, false, false, false, false, false, false] rfl rfl (by kernel_rfl) (fun _ _ _ h => h) (Or.inl ⟨by rfl, ?_⟩) ?_ ?_
 rotate_left
 · intro w'
   go_simp
   with_reducible rfl
 rotate_left
 · simp only [Act.put, List.setIfInBounds_toArray, List.set_cons_zero, List.set_cons_succ, i64_w, i32_w]
   rfl
 refine one_ (i := 7) (N := some 21) #[true, true, true, true, true, true, true, true, true, false, false, false, false, false, false, false, false, false, false, false, false] rfl rfl (by kernel_rfl) (by decide) (fun K hK => ?_)
 refine goes_ Try.func27 (by kernel_rfl) rfl #[.pointer (some ⟨g, 0, none⟩)] (by rfl) rfl rfl (by simp only [List.map_toArray, List.map_cons, List.map_nil]; rfl) ?_
 with_reducible refine (st_ListN (HS.out.below (by first | exact HW.out | exact HW.out.drew)) HN.out).mono ?_
 rintro e w2 ⟨A21, c21, rfl, hC, hb⟩
 refine ⟨_, rfl, ?_⟩
 have HC21 := Aside0.mk hC
 clear hC
 have n1_ := Aside0.mk (below_step (by first | exact HW.out | exact HW.out.drew) hb)
 clear HW hb
 have HW := n1_
 clear n1_
 refine hK.out _ _ trivial (fun hHeld => ?_)
 clear hK K
 refine norm_ (a' := ?_) ?_ ?_
 rotate_left
 · show Act.put _ (some 21) _ = _
   simp only [Act.put, List.setIfInBounds_toArray, List.set_cons_zero, List.set_cons_succ, i64_w, i32_w]
   rfl
 refine one_ (i := 9) (N := some 23) #[true, true, true, true, true, true, true, true, true, true, false, false, false, false, false, false, false, false, false, false, false] rfl rfl (by kernel_rfl) (by decide) (fun K hK => ?_)
 refine goes_ Try.func44 (by kernel_rfl) rfl #[.slice A21 n c21, .slice A n c] (by rfl) rfl rfl (by simp only [List.map_toArray, List.map_cons, List.map_nil]; rfl) ?_
 with_reducible refine (ref_EqSame HN.out HC21.out (Kd.C_below HC.out (by first | exact HW.out | exact HW.out.drew)) HNL.out).mono ?_
 rintro e w3 ⟨rfl, hb⟩
 refine ⟨_, rfl, ?_⟩
 have n1_ := Aside0.mk (below_step (by first | exact HW.out | exact HW.out.drew) hb)
 clear HW hb
 have HW := n1_
 clear n1_
 refine hK.out _ _ trivial (fun hHeld => ?_)
 clear hK K
 refine norm_ (a' := ?_) ?_ ?_
 rotate_left
 · show Act.put _ (some 23) _ = _
   simp only [Act.put, List.setIfInBounds_toArray, List.set_cons_zero, List.set_cons_succ, i64_w, i32_w]
   rfl
 refine pure_ (i := 10) (N := some 24) (v := ?_) (a' := ?_) #[true, true, true, true, true, true, true, true, true, true, true, false, false, false, false, false, false, false, false, false, false] rfl rfl (by kernel_rfl) (fun _ _ _ h => h) (Or.inl ⟨by rfl, ?_⟩) ?_ ?_
 rotate_left
 · intro w'
   go_simp
   with_reducible rfl
 rotate_left
 · simp only [Act.put, List.setIfInBounds_toArray, List.set_cons_zero, List.set_cons_succ, i64_w, i32_w]
   rfl
 refine pure_ (i := 11) (N := some 25) (v := ?_) (a' := ?_) #[true, true, true, true, true, true, true, true, true, true, true, true, false, false, false, false, false, false, false, false, false] rfl rfl (by kernel_rfl) (fun _ _ _ h => h) (Or.inl ⟨by rfl, ?_⟩) ?_ ?_
 rotate_left
 · intro w'
   go_simp
   with_reducible rfl
 rotate_left
 · simp only [Act.put, List.setIfInBounds_toArray, List.set_cons_zero, List.set_cons_succ, i64_w, i32_w]
   rfl
 refine pure_ (i := 12) (N := some 26) (v := ?_) (a' := ?_) #[true, true, true, true, true, true, true, true, true, true, true, true, true, false, false, false, false, false, false, false, false] rfl rfl (by kernel_rfl) (fun _ _ _ h => h) (Or.inl ⟨by rfl, ?_⟩) ?_ ?_
 rotate_left
 · intro w'
   go_simp
   with_reducible rfl
 rotate_left
 · simp only [Act.put, List.setIfInBounds_toArray, List.set_cons_zero, List.set_cons_succ, i64_w, i32_w]
   rfl
 refine pure_ (i := 13) (N := some 27) (v := ?_) (a' := ?_) #[true, true, true, true, true, true, true, true, true, true, true, true, true, true, false, false, false, false, false, false, false] rfl rfl (by kernel_rfl) (fun _ _ _ h => h) (Or.inl ⟨by rfl, ?_⟩) ?_ ?_
 rotate_left
 · intro w'
   go_simp
   with_reducible rfl
 rotate_left
 · simp only [Act.put, List.setIfInBounds_toArray, List.set_cons_zero, List.set_cons_succ, i64_w, i32_w]
   rfl
 refine pure_ (i := 16) (N := some 30) (v := ?_) (a' := ?_) #[true, true, true, true, true, true, true, true, true, true, true, true, true, true, false, false, true, false, false, false, false] rfl rfl (by kernel_rfl) (fun _ _ _ h => h) (Or.inl ⟨by rfl, ?_⟩) ?_ ?_
 rotate_left
 · intro w'
   go_simp
   with_reducible rfl
 rotate_left
 · simp only [Act.put, List.setIfInBounds_toArray, List.set_cons_zero, List.set_cons_succ, i64_w, i32_w]
   rfl
 refine one_ (i := 14) (N := some 28) #[true, true, true, true, true, true, true, true, true, true, true, true, true, true, true, false, true, false, false, false, false] rfl rfl (by kernel_rfl) (by decide) (fun K hK => ?_)
 refine goes_ Try.func23 (by kernel_rfl) rfl #[.pointer (some ⟨g, 0, none⟩)] (by rfl) rfl rfl (by simp only [List.map_toArray, List.map_cons, List.map_nil]; rfl) ?_
 with_reducible refine (st_Bytes (HS.out.below (by first | exact HW.out | exact HW.out.drew)) HSR.out).mono ?_
 rintro e w4 ⟨v28, rfl, hR, hb⟩
 refine ⟨_, rfl, ?_⟩
 obtain ⟨A28, c28, rfl, hn28, hC28⟩ := Kd.R_reads hR
 have HC28 := Aside0.mk hC28
 clear hR hn28 hC28
 have n1_ := Aside0.mk (below_step (by first | exact HW.out | exact HW.out.drew) hb)
 clear HW hb
 have HW := n1_
 clear n1_
 refine hK.out _ _ trivial (fun hHeld => ?_)
 clear hK K
 refine norm_ (a' := ?_) ?_ ?_
 rotate_left
 · show Act.put _ (some 28) _ = _
   simp only [Act.put, List.setIfInBounds_toArray, List.set_cons_zero, List.set_cons_succ, i64_w, i32_w]
   rfl
 refine join_ (σ := Value) 2 #[true, true, true, true, true, true, true, true, true, true, true, true, true, true, true, true, true, true, true, false, false] (fun s => [(29, .string t), (31, s), (32, .string t)]) (fun s w' => True ∧ Below w.heap.size w w') ?_ ?_
 rotate_left
 · intro hCont
   refine two_ (i := 15) (j := 17) (Ni := some 29) (Nj := some 31) #[true, true, true, true, true, true, true, true, true, true, true, true, true, true, true, true, true, false, false, false, false] #[true, true, true, true, true, true, true, true, true, true, true, true, true, true, true, false, true, true, false, false, false] rfl rfl rfl rfl (by kernel_rfl) (by decide) (by decide) (fun K hK => ?_) (fun K hK => ?_)
   · skip
     have hcv := conv_e (c := c28) HC28.out rfl HT.out
     refine value_ (w1 := ?_) (v := ?_) (by rfl) rfl ?_ ?_
     rotate_left 2
     · go_simp
       constructor
       · rfl
       · rfl
     refine hK.out _ _ trivial (fun hHeld => ?_)
     clear hK K
     refine norm_ (a' := ?_) ?_ ?_
     rotate_left
     · show Act.put _ (some 29) _ = _
       simp only [Act.put, List.setIfInBounds_toArray, List.set_cons_zero, List.set_cons_succ, i64_w, i32_w]
       rfl
     refine one_ (i := 17) (N := some 31) #[true, true, true, true, true, true, true, true, true, true, true, true, true, true, true, true, true, true, false, false, false] rfl rfl (by kernel_rfl) (by decide) (fun K hK => ?_)
     refine goes_ Try.func26 (by kernel_rfl) rfl #[.slice A n c] (by rfl) rfl rfl (by simp only [List.map_toArray, List.map_cons, List.map_nil]; rfl) ?_
     with_reducible refine (ref_PairBytes HN.out (Kd.C_below HC.out (by first | exact HW.out | exact HW.out.drew)) HCC.out HMP.out HSR.out).mono ?_
     rintro e w5 ⟨v31, rfl, hR, hb⟩
     refine ⟨_, rfl, ?_⟩
     obtain ⟨A31, c31, rfl, hn31, hC31⟩ := Kd.R_reads hR
     have HC31 := Aside0.mk hC31
     have n2_ := Aside0.mk (Kd.C_below HC28.out hb)
     clear HC28 hR hn31 hC31
     have HC28 := n2_
     clear n2_
     have n1_ := Aside0.mk (below_step (by first | exact HW.out | exact HW.out.drew) hb)
     clear HW hb
     have HW := n1_
     clear n1_
     refine hK.out _ _ trivial (fun hHeld => ?_)
     clear hK K
     refine norm_ (a' := ?_) ?_ ?_
     rotate_left
     · show Act.put _ (some 31) _ = _
       simp only [Act.put, List.setIfInBounds_toArray, List.set_cons_zero, List.set_cons_succ, i64_w, i32_w]
       rfl
     refine one_ (i := 18) (N := some 32) #[true, true, true, true, true, true, true, true, true, true, true, true, true, true, true, true, true, true, true, false, false] rfl rfl (by kernel_rfl) (by decide) (fun K hK => ?_)
     have hcv2 := conv_e (c := c31) HC31.out rfl HT.out
     refine value_ (w1 := ?_) (v := ?_) (by rfl) rfl ?_ ?_
     rotate_left 2
     · go_simp
       constructor
       · rfl
       · rfl
     refine hK.out _ _ trivial (fun hHeld => ?_)
     clear hK K
     refine norm_ (a' := ?_) ?_ ?_
     rotate_left
     · show Act.put _ (some 32) _ = _
       simp only [Act.put, List.setIfInBounds_toArray, List.set_cons_zero, List.set_cons_succ, i64_w, i32_w]
       rfl
     exact norm_ (by first | (simp only [putAll, Act.put, List.setIfInBounds_toArray, List.set_cons_zero, List.set_cons_succ]; done) | (simp only [putAll, Act.put, List.setIfInBounds_toArray, List.set_cons_zero, List.set_cons_succ]; rfl)) (hCont _ _ ⟨trivial, HW.out⟩)
   · skip
     refine goes_ Try.func26 (by kernel_rfl) rfl #[.slice A n c] (by rfl) rfl rfl (by simp only [List.map_toArray, List.map_cons, List.map_nil]; rfl) ?_
     with_reducible refine (ref_PairBytes HN.out (Kd.C_below HC.out (by first | exact HW.out | exact HW.out.drew)) HCC.out HMP.out HSR.out).mono ?_
     rintro e w5 ⟨v31, rfl, hR, hb⟩
     refine ⟨_, rfl, ?_⟩
     obtain ⟨A31, c31, rfl, hn31, hC31⟩ := Kd.R_reads hR
     have HC31 := Aside0.mk hC31
     have n2_ := Aside0.mk (Kd.C_below HC28.out hb)
     clear HC28 hR hn31 hC31
     have HC28 := n2_
     clear n2_
     have n1_ := Aside0.mk (below_step (by first | exact HW.out | exact HW.out.drew) hb)
     clear HW hb
     have HW := n1_
     clear n1_
     refine hK.out _ _ trivial (fun hHeld => ?_)
     clear hK K
     refine norm_ (a' := ?_) ?_ ?_
     rotate_left
     · show Act.put _ (some 31) _ = _
       simp only [Act.put, List.setIfInBounds_toArray, List.set_cons_zero, List.set_cons_succ, i64_w, i32_w]
       rfl
     refine two_ (i := 15) (j := 18) (Ni := some 29) (Nj := some 32) #[true, true, true, true, true, true, true, true, true, true, true, true, true, true, true, true, true, true, false, false, false] #[true, true, true, true, true, true, true, true, true, true, true, true, true, true, true, false, true, true, true, false, false] rfl rfl rfl rfl (by kernel_rfl) (by decide) (by decide) (fun K hK => ?_) (fun K hK => ?_)
     · skip
       have hcv := conv_e (c := c28) HC28.out rfl HT.out
       refine value_ (w1 := ?_) (v := ?_) (by rfl) rfl ?_ ?_
       rotate_left 2
       · go_simp
         constructor
         · rfl
         · rfl
       refine hK.out _ _ trivial (fun hHeld => ?_)
       clear hK K
       refine norm_ (a' := ?_) ?_ ?_
       rotate_left
       · show Act.put _ (some 29) _ = _
         simp only [Act.put, List.setIfInBounds_toArray, List.set_cons_zero, List.set_cons_succ, i64_w, i32_w]
         rfl
       refine one_ (i := 18) (N := some 32) #[true, true, true, true, true, true, true, true, true, true, true, true, true, true, true, true, true, true, true, false, false] rfl rfl (by kernel_rfl) (by decide) (fun K hK => ?_)
       have hcv2 := conv_e (c := c31) HC31.out rfl HT.out
       refine value_ (w1 := ?_) (v := ?_) (by rfl) rfl ?_ ?_
       rotate_left 2
       · go_simp
         constructor
         · rfl
         · rfl
       refine hK.out _ _ trivial (fun hHeld => ?_)
       clear hK K
       refine norm_ (a' := ?_) ?_ ?_
       rotate_left
       · show Act.put _ (some 32) _ = _
         simp only [Act.put, List.setIfInBounds_toArray, List.set_cons_zero, List.set_cons_succ, i64_w, i32_w]
         rfl
       exact norm_ (by first | (simp only [putAll, Act.put, List.setIfInBounds_toArray, List.set_cons_zero, List.set_cons_succ]; done) | (simp only [putAll, Act.put, List.setIfInBounds_toArray, List.set_cons_zero, List.set_cons_succ]; rfl)) (hCont _ _ ⟨trivial, HW.out⟩)
     · skip
       have hcv2 := conv_e (c := c31) HC31.out rfl HT.out
       refine value_ (w1 := ?_) (v := ?_) (by rfl) rfl ?_ ?_
       rotate_left 2
       · go_simp
         constructor
         · rfl
         · rfl
       refine hK.out _ _ trivial (fun hHeld => ?_)
       clear hK K
       refine norm_ (a' := ?_) ?_ ?_
       rotate_left
       · show Act.put _ (some 32) _ = _
         simp only [Act.put, List.setIfInBounds_toArray, List.set_cons_zero, List.set_cons_succ, i64_w, i32_w]
         rfl
       refine one_ (i := 15) (N := some 29) #[true, true, true, true, true, true, true, true, true, true, true, true, true, true, true, true, true, true, true, false, false] rfl rfl (by kernel_rfl) (by decide) (fun K hK => ?_)
       have hcv := conv_e (c := c28) HC28.out rfl HT.out
       refine value_ (w1 := ?_) (v := ?_) (by rfl) rfl ?_ ?_
       rotate_left 2
       · go_simp
         constructor
         · rfl
         · rfl
       refine hK.out _ _ trivial (fun hHeld => ?_)
       clear hK K
       refine norm_ (a' := ?_) ?_ ?_
       rotate_left
       · show Act.put _ (some 29) _ = _
         simp only [Act.put, List.setIfInBounds_toArray, List.set_cons_zero, List.set_cons_succ, i64_w, i32_w]
         rfl
       exact norm_ (by first | (simp only [putAll, Act.put, List.setIfInBounds_toArray, List.set_cons_zero, List.set_cons_succ]; done) | (simp only [putAll, Act.put, List.setIfInBounds_toArray, List.set_cons_zero, List.set_cons_succ]; rfl)) (hCont _ _ ⟨trivial, HW.out⟩)
 rintro s31 w20 ⟨hHeld, hB⟩
 clear HW
 have HW := Aside0.mk hB
 clear hB
 refine norm_ (a' := ?_) ?_ ?_
 rotate_left
 · simp only [putAll, Act.put, List.setIfInBounds_toArray, List.set_cons_zero, List.set_cons_succ]
   rfl
 refine pure_ (i := 19) (N := some 33) (v := ?_) (a' := ?_) #[true, true, true, true, true, true, true, true, true, true, true, true, true, true, true, true, true, true, true, true, false] rfl rfl (by kernel_rfl) (fun _ _ _ h => h) (Or.inl ⟨by rfl, ?_⟩) ?_ ?_
 rotate_left
 · intro w'
   go_simp
   with_reducible rfl
 rotate_left
 · simp only [Act.put, List.setIfInBounds_toArray, List.set_cons_zero, List.set_cons_succ, i64_w, i32_w]
   rfl
 refine pure_ (i := 20) (N := some 34) (v := ?_) (a' := ?_) #[true, true, true, true, true, true, true, true, true, true, true, true, true, true, true, true, true, true, true, true, true] rfl rfl (by kernel_rfl) (fun _ _ _ h => h) (Or.inl ⟨by rfl, ?_⟩) ?_ ?_
 rotate_left
 · intro w'
   go_simp
   with_reducible rfl
 rotate_left
 · simp only [Act.put, List.setIfInBounds_toArray, List.set_cons_zero, List.set_cons_succ, i64_w, i32_w]
   rfl
 refine done_ (by kernel_rfl) ?_
 go_wp2
 go_loopw [7] (fun v7 wr => ∃ (i : Nat), v7 = .int .i64 i ∧ i ≤ n ∧ Aside0 (Below w.heap.size w wr)) (fun v _ => n - (intOf v).toNat)
 case atStart => exact ⟨0, by first | rfl | go_num, Nat.zero_le _, HW⟩
 case round =>
  clear HW
  obtain ⟨i, rfl, hi, HW⟩ := hrel
  by_cases hlt : i < n
  · have HLT := Aside0.mk hlt
    have hltz : (i : Int) < (L.length : Int) := by rw [← HN.out]; omega
    have hltz2 : (i : Int) < (n : Int) := by omega
    have hl1 : decide ((i : Int) < (n : Int)) = true := decide_eq_true (by omega)
    have hl2 := decide_eq_true hlt
    obtain ⟨ad, e, h0, h1, h2, h3⟩ := at_T30 (by have := HC.out; rw [HN.out] at this; exact this) (i : Int) (Int.natCast_nonneg _) hltz
    cases e
    simp only [Int.toNat_natCast] at h0 h1 h2 h3
    have hxL : rd_T30 L (i : Int) ∈ L := by
     have e : rd_T30 L (i : Int) = L[i]'(by rw [← HN.out]; exact HLT.out) := by simp [rd_T30, ← HN.out, hlt]
     rw [e]
     exact List.getElem_mem _
    obtain ⟨x, hx⟩ : ∃ x, x = rd_T30 L (i : Int) := ⟨_, rfl⟩
    rw [← hx] at h0 h1 h2 h3 hxL
    have H0 := Aside0.mk h0
    have H1 := Aside0.mk h1
    have H2 := Aside0.mk h2
    have H3 := Aside0.mk h3
    have HV := Aside0.mk (val_self HMP.out hxL)
    have HKZ := Aside0.mk (show x.f0.size < 17592186044416 from Nat.lt_of_le_of_lt (HSR.out x hxL).1 (by decide))
    have hq0 : wr.cell? (ad.add (i * 4)) = some (.string x.f0) := (HW.out.cell (World.block_lt_of_cell? w _ H0.out)).trans H0.out
    clear hx hxL hltz hlt hi h0 h1 h2 h3
    go_upto_region 7 with (first
     | (go_at_call 19; (with_reducible refine (get_v (HS.out.below HW.out) HKZ.out HV.out).mono ?_); rintro e w11 ⟨rfl, hb⟩; have n1_ := Aside0.mk (below_step HW.out hb); clear HW; have HW := n1_; clear n1_; clear hb hq0)
     | ((with_reducible refine gate_dst (N := 8) rfl ?_); refine box_event ?hg (N := 8) ?hd (cs := #[.int .i64 0, .int .i64 0, .string ⟨#[]⟩]) (t := 25) ?hr ?_; (case hd => rfl); (case hg => rfl); (case hr => first | (go_simp; done) | (go_simp; rfl)); intro g8 hg w12 hbox hb; have G8 := Aside0.mk (show w.heap.size ≤ g8 by rw [hg]; exact HW.out.size); have B8 := Aside0.mk hbox; have n1_ := Aside0.mk (below_step HW.out hb); clear HW; have HW := n1_; clear n1_; clear hbox hg hb; have hs0 : w12.cell? ⟨g8, 0, none⟩ = some (.int .i64 0) := (blk_cell B8.out 0).trans rfl; have hs1 : w12.cell? ⟨g8, 1, none⟩ = some (.int .i64 0) := (blk_cell B8.out 1).trans rfl; have hs2 : w12.cell? ⟨g8, 2, none⟩ = some (.string ⟨#[]⟩) := (blk_cell B8.out 2).trans rfl; have hf0 := blk_frozen B8.out 0; have hf1 := blk_frozen B8.out 1; have hf2 := blk_frozen B8.out 2)
     | ((with_reducible refine gate_store (t := 25) (p := 8) rfl ?_); refine store_event (t := 25) (p := 8) (v := ?vo8) (w1 := (((w12.setCell ⟨g8, 0, none⟩ (.int .i64 x.f1.f0)).setCell ⟨g8, 1, none⟩ (.int .i64 x.f1.f1)).setCell ⟨g8, 2, none⟩ (.string x.f1.f2))) ?hg ?ho ?hn ?hr ?_; (case ho => rfl); (case hg => rfl); (case hn => rfl); (case hr => first | (go_simp; done) | (go_simp; rfl)); intro w13 hw; have n1_ := Aside0.mk (show Below w.heap.size w w13 by rw [hw]; exact below_set (below_set (below_set HW.out G8.out) G8.out) G8.out); have n2_ := Aside0.mk (show w13.heap[g8]? = some (.cells #[.int .i64 x.f1.f0, .int .i64 x.f1.f1, .string x.f1.f2] 25 (0, 0)) by rw [hw]; exact blk_put (blk_put (blk_put B8.out 0 _ rfl) 1 _ rfl) 2 _ rfl); skip; clear HW B8 hs0 hs1 hs2 hf0 hf1 hf2 hw; have HW := n1_; have B8 := n2_; clear n1_ n2_; skip))
    refine GR.start_p (n := 12) (S := fun w' => w'.cell? ⟨g8, 0, none⟩ = some (.int .i64 x.f1.f0) ∧ w'.cell? ⟨g8, 1, none⟩ = some (.int .i64 x.f1.f1) ∧ w'.cell? ⟨g8, 2, none⟩ = some (.string x.f1.f2) ∧ w'.cell? ⟨(ad.add (i * 4)).block, (ad.add (i * 4)).off + 1, none⟩ = some (.int .i64 x.f1.f0) ∧ w'.cell? ⟨(ad.add (i * 4)).block, (ad.add (i * 4)).off + 2, none⟩ = some (.int .i64 x.f1.f1) ∧ w'.cell? ⟨(ad.add (i * 4)).block, (ad.add (i * 4)).off + 3, none⟩ = some (.string x.f1.f2)) (ds := []) (by kernel_rfl) rfl ⟨(blk_cell (w := w13.drew) B8.out 0).trans rfl, (blk_cell (w := w13.drew) B8.out 1).trans rfl, (blk_cell (w := w13.drew) B8.out 2).trans rfl, ((HW.out.drew.cell (World.block_lt_of_cell? w _ H1.out)).trans H1.out), ((HW.out.drew.cell (World.block_lt_of_cell? w _ H2.out)).trans H2.out), ((HW.out.drew.cell (World.block_lt_of_cell? w _ H3.out)).trans H3.out)⟩ (fun hHeld => ?_)
    repeat (first
     | (refine GR.off_p (a' := ?_) (by simp only [List.getElem?_toArray, List.getElem?_cons_succ, List.getElem?_cons_zero] <;> rfl) (by first | (dsimp only; done) | (dsimp only; rfl) | rfl) (by kernel_rfl) (by exact fun _ _ _ h => h) (by rfl) ?_ ?_; rotate_left; (simp only [Act.put, List.setIfInBounds_toArray, List.set_cons_zero, List.set_cons_succ, i64_w, i32_w]; rfl))
     | (refine GR.pure_p (v := ?_) (a' := ?_) (by simp only [List.getElem?_toArray, List.getElem?_cons_succ, List.getElem?_cons_zero] <;> rfl) (by first | (dsimp only; done) | (dsimp only; rfl) | rfl) (by kernel_rfl) (by exact fun _ _ _ h => h) (by rfl) ?_ ?_ ?_; rotate_left; (intro w'; go_simp; with_reducible rfl); rotate_left; (simp only [Act.put, List.setIfInBounds_toArray, List.set_cons_zero, List.set_cons_succ, i64_w, i32_w]; rfl))
     | (refine GR.take_p (v := ?_) (a' := ?_) (by simp only [List.getElem?_toArray, List.getElem?_cons_succ, List.getElem?_cons_zero] <;> rfl) (by first | (dsimp only; done) | (dsimp only; rfl) | rfl) (by kernel_rfl) (by exact fun _ _ _ h => h) (by rfl) ?_ hHeld ?_ ?_; rotate_left; (rintro w' ⟨s0, s1, s2, s3, s4, s5⟩; go_simp; with_reducible rfl); rotate_left; (simp only [Act.put, List.setIfInBounds_toArray, List.set_cons_zero, List.set_cons_succ, i64_w, i32_w]; rfl))
     | (refine GR.one_p (by simp only [List.getElem?_toArray, List.getElem?_cons_succ, List.getElem?_cons_zero] <;> rfl) (by first | (dsimp only; done) | (dsimp only; rfl) | rfl) (by kernel_rfl) (by decide) (fun K hK => ?_); (first
    | (refine goes_ Try.func45 (by kernel_rfl) rfl #[.agg #[.int .i64 x.f1.f0, .int .i64 x.f1.f1, .string x.f1.f2], .agg #[.int .i64 x.f1.f0, .int .i64 x.f1.f1, .string x.f1.f2]] (by rfl) rfl rfl (by simp only [List.map_toArray, List.map_cons, List.map_nil]; rfl) ?_; (with_reducible refine (eqVal_p x.f1 _).mono ?_); rintro e w14 ⟨rfl, hb⟩; refine ⟨_, rfl, ?_⟩; have n2_ := Aside0.mk (below_step (by first | exact HW.out | exact HW.out.drew) hb); have n3_ := Aside0.mk (blk_below (by first | exact B8.out | exact B8.out) hb); clear HW B8 hb; have HW := n2_; have B8 := n3_; clear n2_ n3_)
    | fail
        ); (refine hK.out _ _ (by first | exact ⟨(blk_cell B8.out 0).trans rfl, (blk_cell B8.out 1).trans rfl, (blk_cell B8.out 2).trans rfl, ((HW.out.cell (World.block_lt_of_cell? w _ H1.out)).trans H1.out), ((HW.out.cell (World.block_lt_of_cell? w _ H2.out)).trans H2.out), ((HW.out.cell (World.block_lt_of_cell? w _ H3.out)).trans H3.out)⟩ | exact ⟨(blk_cell B8.out 0).trans rfl, (blk_cell B8.out 1).trans rfl, (blk_cell B8.out 2).trans rfl, ((HW.out.drew.cell (World.block_lt_of_cell? w _ H1.out)).trans H1.out), ((HW.out.drew.cell (World.block_lt_of_cell? w _ H2.out)).trans H2.out), ((HW.out.drew.cell (World.block_lt_of_cell? w _ H3.out)).trans H3.out)⟩) (fun hHeld => ?_)); clear hK K; refine norm_ (a' := ?_) ?_ ?_; rotate_left; (show Act.put _ _ _ = _; simp only [Act.put, List.setIfInBounds_toArray, List.set_cons_zero, List.set_cons_succ, i64_w, i32_w]; rfl)))
    refine done_ (by kernel_rfl) ?_
    go_wp2
    refine ⟨⟨i + 1, by first | rfl | go_num, by have := HLT.out; omega, HW⟩, ?_⟩
    have := HLT.out
    simp [intOf]
    omega
  · obtain rfl : i = n := by omega
    have hl1 : decide ((i : Int) < (i : Int)) = false := decide_eq_false (by omega)
    have hl2 : decide (i < i) = false := decide_eq_false (by omega)
    obtain ⟨⟨u, b⟩, hub⟩ : ∃ z, valP L ask = z := ⟨_, rfl⟩
    have HV := Aside0.mk hub
    obtain ⟨R, hR⟩ : ∃ R, R = (likeL L ask).length := ⟨_, rfl⟩
    have HRD := Aside0.mk hR
    have HSZ := Aside0.mk (show ∀ p ∈ L, p.f0.size < 17592186044416 from fun p hp => Nat.lt_of_le_of_lt (HSR.out p hp).1 (by decide))
    have hbb : (b == b) = true := beq_self_eq_true _
    clear hlt hi hub hR
    go_wp2_with (first
     | (go_at_call 19; (with_reducible refine (get_v (HS.out.below HW.out) HASK.out HV.out).mono ?_); rintro e w11 ⟨rfl, hb⟩; have n1_ := Aside0.mk (below_step HW.out hb); clear HW; have HW := n1_; clear n1_; clear hb)
     | ((with_reducible refine gate_dst (N := 10) rfl ?_); refine box_event ?hg (N := 10) ?hd (cs := #[.int .i64 0, .int .i64 0, .string ⟨#[]⟩]) (t := 25) ?hr ?_; (case hd => rfl); (case hg => rfl); (case hr => first | (go_simp; done) | (go_simp; rfl)); intro g10 hg w12 hbox hb; have G10 := Aside0.mk (show w.heap.size ≤ g10 by rw [hg]; exact HW.out.size); have B10 := Aside0.mk hbox; have n1_ := Aside0.mk (below_step HW.out hb); clear HW; have HW := n1_; clear n1_; clear hbox hg hb; have hs0 : w12.cell? ⟨g10, 0, none⟩ = some (.int .i64 0) := (blk_cell B10.out 0).trans rfl; have hs1 : w12.cell? ⟨g10, 1, none⟩ = some (.int .i64 0) := (blk_cell B10.out 1).trans rfl; have hs2 : w12.cell? ⟨g10, 2, none⟩ = some (.string ⟨#[]⟩) := (blk_cell B10.out 2).trans rfl; have hf0 := blk_frozen B10.out 0; have hf1 := blk_frozen B10.out 1; have hf2 := blk_frozen B10.out 2)
     | ((with_reducible refine gate_store (t := 25) (p := 10) rfl ?_); refine store_event (t := 25) (p := 10) (v := ?vo10) (w1 := (((w12.setCell ⟨g10, 0, none⟩ (.int .i64 u.f0)).setCell ⟨g10, 1, none⟩ (.int .i64 u.f1)).setCell ⟨g10, 2, none⟩ (.string u.f2))) ?hg ?ho ?hn ?hr ?_; (case ho => rfl); (case hg => rfl); (case hn => rfl); (case hr => first | (go_simp; done) | (go_simp; rfl)); intro w13 hw; have n1_ := Aside0.mk (show Below w.heap.size w w13 by rw [hw]; exact below_set (below_set (below_set HW.out G10.out) G10.out) G10.out); have n2_ := Aside0.mk (show w13.heap[g10]? = some (.cells #[.int .i64 u.f0, .int .i64 u.f1, .string u.f2] 25 (0, 0)) by rw [hw]; exact blk_put (blk_put (blk_put B10.out 0 _ rfl) 1 _ rfl) 2 _ rfl); skip; clear HW B10 hs0 hs1 hs2 hf0 hf1 hf2 hw; have HW := n1_; have B10 := n2_; clear n1_ n2_; skip)
     | (go_at_call 46; (with_reducible refine (refVal_p HN.out (Kd.C_below HC.out HW.out) HCC.out HNL.out HV.out).mono ?_); rintro e w14 ⟨rfl, hb⟩; have n3_ := Aside0.mk (blk_below B10.out hb); clear B10; have B10 := n3_; clear n3_; have n1_ := Aside0.mk (below_step HW.out hb); clear HW; have HW := n1_; clear n1_; clear hb)
     | ((with_reducible refine gate_dst (N := 12) rfl ?_); refine box_event ?hg (N := 12) ?hd (cs := #[.int .i64 0, .int .i64 0, .string ⟨#[]⟩]) (t := 25) ?hr ?_; (case hd => rfl); (case hg => rfl); (case hr => first | (go_simp; done) | (go_simp; rfl)); intro g12 hg w15 hbox hb; have G12 := Aside0.mk (show w.heap.size ≤ g12 by rw [hg]; exact HW.out.size); have NE := Aside0.mk (show g10 ≠ g12 by have := blk_lt B10.out; omega); have n3_ := Aside0.mk (blk_below B10.out hb); clear B10; have B10 := n3_; clear n3_; have B12 := Aside0.mk hbox; have n1_ := Aside0.mk (below_step HW.out hb); clear HW; have HW := n1_; clear n1_; clear hbox hg hb; have hs0 : w15.cell? ⟨g12, 0, none⟩ = some (.int .i64 0) := (blk_cell B12.out 0).trans rfl; have hs1 : w15.cell? ⟨g12, 1, none⟩ = some (.int .i64 0) := (blk_cell B12.out 1).trans rfl; have hs2 : w15.cell? ⟨g12, 2, none⟩ = some (.string ⟨#[]⟩) := (blk_cell B12.out 2).trans rfl; have hf0 := blk_frozen B12.out 0; have hf1 := blk_frozen B12.out 1; have hf2 := blk_frozen B12.out 2)
     | ((with_reducible refine gate_store (t := 25) (p := 12) rfl ?_); refine store_event (t := 25) (p := 12) (v := ?vo12) (w1 := (((w15.setCell ⟨g12, 0, none⟩ (.int .i64 u.f0)).setCell ⟨g12, 1, none⟩ (.int .i64 u.f1)).setCell ⟨g12, 2, none⟩ (.string u.f2))) ?hg ?ho ?hn ?hr ?_; (case ho => rfl); (case hg => rfl); (case hn => rfl); (case hr => first | (go_simp; done) | (go_simp; rfl)); intro w16 hw; have n1_ := Aside0.mk (show Below w.heap.size w w16 by rw [hw]; exact below_set (below_set (below_set HW.out G12.out) G12.out) G12.out); have n2_ := Aside0.mk (show w16.heap[g12]? = some (.cells #[.int .i64 u.f0, .int .i64 u.f1, .string u.f2] 25 (0, 0)) by rw [hw]; exact blk_put (blk_put (blk_put B12.out 0 _ rfl) 1 _ rfl) 2 _ rfl); have n3_ := Aside0.mk (show w16.heap[g10]? = some (.cells #[.int .i64 u.f0, .int .i64 u.f1, .string u.f2] 25 (0, 0)) by rw [hw]; exact blk_far (blk_far (blk_far B10.out NE.out _) NE.out _) NE.out _); clear B10; have B10 := n3_; clear n3_; clear HW B12 hs0 hs1 hs2 hf0 hf1 hf2 hw; have HW := n1_; have B12 := n2_; clear n1_ n2_; have hy0 : w16.cell? ⟨g10, 0, none⟩ = some (.int .i64 u.f0) := (blk_cell B10.out 0).trans rfl; have hy1 : w16.cell? ⟨g10, 1, none⟩ = some (.int .i64 u.f1) := (blk_cell B10.out 1).trans rfl; have hy2 : w16.cell? ⟨g10, 2, none⟩ = some (.string u.f2) := (blk_cell B10.out 2).trans rfl; have hz0 : w16.cell? ⟨g12, 0, none⟩ = some (.int .i64 u.f0) := (blk_cell B12.out 0).trans rfl; have hz1 : w16.cell? ⟨g12, 1, none⟩ = some (.int .i64 u.f1) := (blk_cell B12.out 1).trans rfl; have hz2 : w16.cell? ⟨g12, 2, none⟩ = some (.string u.f2) := (blk_cell B12.out 2).trans rfl)
     | (go_at_call 45; (with_reducible refine (eqVal_p u _).mono ?_); rintro e w17 ⟨rfl, hb⟩; have n1_ := Aside0.mk (below_step HW.out hb); clear HW; have HW := n1_; clear n1_; clear hb)
     | (go_at_call 20; refine (reads_r (HS.out.below HW.out) HASK.out HRD.out).mono ?_; rintro e w18 ⟨rfl, hb⟩; have n1_ := Aside0.mk (below_step HW.out hb); clear HW; have HW := n1_; clear n1_; clear hb)
     | (go_at_call 47; refine (ref_SortedReads HN.out (Kd.C_below HC.out HW.out) HCC.out HMP.out HSZ.out HASK.out).mono ?_; rw [← HRD.out]; rintro e w19 ⟨rfl, hb⟩; have n1_ := Aside0.mk (below_step HW.out hb); clear HW; have HW := n1_; clear n1_; clear hb))
    all_goals (go_ret; exact ⟨rfl, HW.out⟩)
end Go.Proofs.Ytkhcmddeeodbkaa.GL
