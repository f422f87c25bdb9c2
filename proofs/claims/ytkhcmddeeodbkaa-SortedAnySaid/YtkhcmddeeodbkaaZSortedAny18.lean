import Derived.Test.YtkhcmddeeodbkaaZSortedAny17
-- Own texts and, of the words that the kit's print program wrote for this claim, those that are needed here: put together by wip/prune.py.
set_option linter.unusedSimpArgs false
set_option linter.unusedVariables false
namespace Go.Proofs.Ytkhcmddeeodbkaa.GL
open Go.RowKit Go.Proofs.YtkhcmddeeodbkaaW.PrintWords Go.Proofs.YtkhcmddeeodbkaaW.PrintLast Go.Proofs.YtkhcmddeeodbkaaW.PrintMore Go.Proofs.Ytkhcmddeeodbkaa.Q Go.Proofs.Ytkhcmddeeodbkaa.XSor Go.Proofs.Ytkhcmddeeodbkaa.G
def lead (k : Nat) : List Int → Nat
  | [] => 0
  | x :: r => if bitT x k = true then 0 else lead k r + 1
theorem lead_spec (k : Nat) : ∀ ls : List Int, lead k ls ≤ ls.length ∧ (∀ j, j < lead k ls → bitT (ls.getD j 0) k = false) ∧ (lead k ls < ls.length → bitT (ls.getD (lead k ls) 0) k = true) := by
  intro ls
  induction ls with
  | nil => simp [lead]
  | cons x r ih =>
    obtain ⟨h1, h2, h3⟩ := ih
    cases hb : bitT x k with
    | true =>
      have e : lead k (x :: r) = 0 := by rw [lead, if_pos hb]
      rw [e]
      refine ⟨by omega, fun j hj => by omega, fun _ => ?_⟩
      rw [List.getD_cons_zero]
      exact hb
    | false =>
      have e : lead k (x :: r) = lead k r + 1 := by rw [lead, if_neg (by rw [hb]; decide)]
      rw [e, List.length_cons]
      refine ⟨by omega, fun j hj => ?_, fun h => ?_⟩
      · cases j with
        | zero => rw [List.getD_cons_zero]; exact hb
        | succ j => rw [List.getD_cons_succ]; exact h2 j (by omega)
      · rw [List.getD_cons_succ]
        exact h3 (by omega)
def treeG : Nat → List Int → List Bool
  | 0, _ => []
  | k + 1, ls => if ls.length < 2 then [] else gammaBits ((lead k ls : Int) + 1) ++ treeG k (ls.take (lead k ls)) ++ treeG k (ls.drop (lead k ls))
theorem treeG_short (k : Nat) {ls : List Int} (h : ls.length < 2) : treeG k ls = [] := by
  cases k with
  | zero => rfl
  | succ k => rw [treeG, if_pos h]
def OkT (k : Nat) (ls : List Int) : Prop := ls.Pairwise (· < ·) ∧ ∃ c : Int, ∀ x ∈ ls, x / 2 ^ k = c
theorem OkT.zero {ls : List Int} (h : OkT 0 ls) : ls.length < 2 := by
  obtain ⟨hp, c, hc⟩ := h
  match ls, hp, hc with
  | [], _, _ => simp
  | [_], _, _ => simp
  | x :: y :: r, hp, hc =>
    have h1 := hc x (by simp)
    have h2 := hc y (by simp)
    have h3 : x < y := (List.pairwise_cons.1 hp).1 y (by simp)
    rw [Int.pow_zero, Int.ediv_one] at h1 h2
    omega
theorem half (x : Int) (k : Nat) : x / 2 ^ (k + 1) = x / 2 ^ k / 2 := by
  rw [Int.pow_succ, Int.ediv_ediv_of_nonneg (Int.le_of_lt (Int.pow_pos (by decide)))]
theorem bitT_true {x : Int} {k : Nat} (h : bitT x k = true) : x / 2 ^ k = 2 * (x / 2 ^ (k + 1)) + 1 := by
  have h1 : x / 2 ^ k % 2 = 1 := by simpa [bitT] using h
  rw [half]
  omega
theorem bitT_false {x : Int} {k : Nat} (h : bitT x k = false) : x / 2 ^ k = 2 * (x / 2 ^ (k + 1)) := by
  have h1 : ¬ x / 2 ^ k % 2 = 1 := by simpa [bitT] using h
  rw [half]
  omega
theorem mono_div {x y : Int} (k : Nat) (h : x ≤ y) : x / 2 ^ k ≤ y / 2 ^ k := Int.ediv_le_ediv (Int.pow_pos (by decide)) h
theorem OkT.take {k : Nat} {ls : List Int} (h : OkT (k + 1) ls) : OkT k (ls.take (lead k ls)) := by
  obtain ⟨hp, c, hc⟩ := h
  obtain ⟨h1, h2, h3⟩ := lead_spec k ls
  refine ⟨hp.sublist (List.take_sublist _ _), 2 * c, fun x hx => ?_⟩
  obtain ⟨j, hj, rfl⟩ := List.getElem_of_mem hx
  rw [List.length_take] at hj
  rw [List.getElem_take]
  have hb := h2 j (by omega)
  rw [List.getD_eq_getElem?_getD, List.getElem?_eq_getElem (by omega), Option.getD_some] at hb
  rw [bitT_false hb, hc _ (List.getElem_mem _)]
theorem OkT.drop {k : Nat} {ls : List Int} (h : OkT (k + 1) ls) : OkT k (ls.drop (lead k ls)) := by
  obtain ⟨hp, c, hc⟩ := h
  obtain ⟨h1, h2, h3⟩ := lead_spec k ls
  refine ⟨hp.sublist (List.drop_sublist _ _), 2 * c + 1, fun x hx => ?_⟩
  obtain ⟨j, hj, rfl⟩ := List.getElem_of_mem hx
  rw [List.length_drop] at hj
  rw [List.getElem_drop]
  have hb := h3 (by omega)
  rw [List.getD_eq_getElem?_getD, List.getElem?_eq_getElem (by omega), Option.getD_some] at hb
  have h4 := bitT_true hb
  rw [hc _ (List.getElem_mem _)] at h4
  have h5 := hc (ls[lead k ls + j]'(by omega)) (List.getElem_mem _)
  have h6 : ls[lead k ls]'(by omega) ≤ ls[lead k ls + j]'(by omega) := by
    rcases Nat.eq_zero_or_pos j with rfl | hj0
    · exact Int.le_refl _
    · exact Int.le_of_lt (List.pairwise_iff_getElem.1 hp _ _ (by omega) (by omega) (by omega))
  have h7 := mono_div k h6
  rw [half] at h5
  omega
def U64s (ls : List Int) : Prop := ∀ x ∈ ls, 0 ≤ x ∧ x < 18446744073709551616
theorem gammaBits_le1 {x : Int} (h0 : 0 < x) (h1 : x < 18446744073709551616) : (gammaBits x).length ≤ 127 := by
  have hb := Lib.bitLen_le x.toNat 64 (Nat.le_refl _) (by omega)
  rw [gammaBits, if_neg (by omega), List.length_append, numBits_len, numBits_len]
  omega
theorem treeG_le : ∀ (k : Nat) (ls : List Int), ls.length ≤ 4096 → (treeG k ls).length ≤ 127 * (k * ls.length) := by
  intro k
  induction k with
  | zero => intro ls _; simp [treeG]
  | succ k ih =>
    intro ls hl
    rw [treeG]
    by_cases h : ls.length < 2
    · rw [if_pos h]; simp
    · rw [if_neg h]
      have hs := (lead_spec k ls).1
      have h1 := ih (ls.take (lead k ls)) (by rw [List.length_take]; omega)
      have h2 := ih (ls.drop (lead k ls)) (by rw [List.length_drop]; omega)
      have hg := gammaBits_le1 (x := (lead k ls : Int) + 1) (by omega) (by omega)
      rw [List.length_take, Nat.min_eq_left hs] at h1
      rw [List.length_drop] at h2
      rw [List.length_append, List.length_append]
      have e : (k + 1) * ls.length = k * lead k ls + k * (ls.length - lead k ls) + ls.length := by
        rw [Nat.add_mul, Nat.one_mul, ← Nat.mul_add, Nat.add_sub_cancel' hs]
      omega
def BuildPost (base : Nat) (w : World) (p : Nat) (M : List Bool) (e : Ending) (w' : World) : Prop := e = .returned (.tuple #[]) ∧ BO base w' p M ∧ Below base w w'
theorem cutL (A0 : Option Addr) (c0 m : Nat) (ls : List Int) (j : Nat) (hm : m = ls.length) (hj : j ≤ m) (hc : m ≤ c0) :
    ∀ W : World, (Instr.slice 60 (.slice A0 m c0) none (some (.int .i64 j)) none).run Try.prog W = .ok (.slice A0 j c0) W := by
  intro W
  obtain ⟨i0, hi, hi1, hi2, hi3⟩ := info_parts info67
  exact cut_to (P := Try.prog) 60 67 .i64 Try.underlying60 hi A0 m c0 j (by omega) (by omega) hc W
theorem cutR (A0 : Option Addr) (c0 m : Nat) (ls : List Int) (j : Nat) (hm : m = ls.length) (hj : j ≤ m) (hc : m ≤ c0) : ∃ A1 c1 q, q = m - j ∧
    (∀ W : World, (Instr.slice 60 (.slice A0 m c0) (some (.int .i64 j)) none none).run Try.prog W = .ok (.slice A1 q c1) W) ∧
    (∀ W : World, Kd.C (Kd.int .u64) W A0 m ls → Kd.C (Kd.int .u64) W A1 q (ls.drop j)) ∧ q ≤ c1 := by
  subst hm
  obtain ⟨i0, hi0, _, hsz, _⟩ := info_parts info67
  have hcut := cut_from (P := Try.prog) 60 67 .i64 Try.underlying60 hi0 1 hsz A0 ls.length c0 j (by omega) (by omega)
  refine ⟨(if c0 = j then A0 else A0.map (·.add (j * 1))), c0 - j, ls.length - j, rfl, hcut, fun W h => ?_, by omega⟩
  have := Kd.C_drop (m := j) (c := c0) h (by omega) hc
  rw [List.length_drop] at this
  exact this
set_option maxRecDepth 1000000 in
set_option maxHeartbeats 8000000 in
theorem trie_build {w0 : World} {p : Nat} : ∀ (k : Nat) (ls : List Int) (L : List Bool) (w : World) (A : Option Addr) (m c : Nat) (d : Int), k ≤ 64 → d = 64 - (k : Int) → m = ls.length → Kd.C (Kd.int .u64) w0 A m ls → m ≤ c → m ≤ 4096 →
    Below w0.heap.size w0 w → BO w0.heap.size w p L → L.length + 127 * (k * m) < 10000000000 → OkT k ls → U64s ls →
    Calls Try.prog 58 #[.pointer (some ⟨p, 0, none⟩), .slice A m c, .int .i64 d] w (BuildPost w0.heap.size w p (L ++ treeG k ls)) := by
  intro k
  induction k with
  | zero =>
    intro ls L w A m c d _ _ hm _ _ hm4 _ hO _ hok _
    have hsh := hok.zero
    have HE := Aside0.mk (show L ++ treeG 0 ls = L from List.append_nil _)
    have HO := Aside0.mk hO
    have h1 : decide ((m : Int) < 2) = true := decide_eq_true (by omega)
    have h1n : decide (m < 2) = true := decide_eq_true (by omega)
    clear hO hok hsh hm
    go_enter Try.func58, Try.ntmps58
    go_wp2
    refine bodyPost_ret (results_none rfl _ _ _) rfl ?_
    refine ⟨rfl, ?_, Below.refl _ _⟩
    rw [HE.out]
    exact HO.out
  | succ k ih =>
    intro ls L w A m c d hk hd hm hC hc hm4 hB hO hl hok hu
    by_cases hsh : ls.length < 2
    · have HE := Aside0.mk (show L ++ treeG (k + 1) ls = L by rw [treeG_short _ hsh, List.append_nil])
      have HO := Aside0.mk hO
      have h1 : decide ((m : Int) < 2) = true := decide_eq_true (by omega)
      have h1n : decide (m < 2) = true := decide_eq_true (by omega)
      clear hO hok hsh hm hC hB hu ih hl
      go_enter Try.func58, Try.ntmps58
      go_wp2
      refine bodyPost_ret (results_none rfl _ _ _) rfl ?_
      refine ⟨rfl, ?_, Below.refl _ _⟩
      rw [HE.out]
      exact HO.out
    · have h1 : decide ((m : Int) < 2) = false := decide_eq_false (by omega)
      have h1n : decide (m < 2) = false := decide_eq_false (by omega)
      obtain ⟨n, hn⟩ : ∃ n, n = lead k ls := ⟨_, rfl⟩
      have hsp := lead_spec k ls
      rw [← hn] at hsp
      have hnm : n ≤ m := by rw [hm]; exact hsp.1
      have HE := Aside0.mk (show L ++ treeG (k + 1) ls = L ++ gammaBits ((n : Int) + 1) ++ treeG k (ls.take n) ++ treeG k (ls.drop n) by rw [treeG, if_neg hsh, ← hn]; simp [List.append_assoc])
      have HSP := Aside0.mk hsp
      have HC := Aside0.mk hC
      have hct := cutL A c m ls n hm hnm hc
      obtain ⟨A1, c1, q, hq, hcr, hcc, hc1⟩ := cutR A c m ls n hm hnm hc
      have HCR := Aside0.mk (hcc w0 hC)
      have HCL := Aside0.mk (show Kd.C (Kd.int .u64) w0 A n (ls.take n) by
        have := Kd.C_take (k := Kd.int .u64) (m := n) (by rw [hm] at hC; exact hC) (by omega)
        rw [List.length_take, Nat.min_eq_left (by omega)] at this
        exact this)
      have hgl := gammaBits_le1 (x := (n : Int) + 1) (by omega) (by omega)
      have e1 : (k + 1) * m = k * n + k * (m - n) + m := by rw [Nat.add_mul, Nat.one_mul, ← Nat.mul_add, Nat.add_sub_cancel' hnm]
      have htl := treeG_le k (ls.take n) (by rw [List.length_take]; omega)
      rw [List.length_take, Nat.min_eq_left (by omega)] at htl
      have HI1 := Aside0.mk (fun (W : World) (hB : Below w0.heap.size w0 W) (hO : BO w0.heap.size W p (L ++ gammaBits ((n : Int) + 1))) => ih (ls.take n) (L ++ gammaBits ((n : Int) + 1)) W A n c (64 - (k : Int)) (by omega) rfl (by rw [List.length_take]; omega) HCL.out (by omega) (by omega) hB hO (by rw [List.length_append]; omega) (by rw [hn]; exact hok.take) (fun x hx => hu x (List.mem_of_mem_take hx)))
      have HI2 := Aside0.mk (fun (W : World) (hB : Below w0.heap.size w0 W) (hO : BO w0.heap.size W p (L ++ gammaBits ((n : Int) + 1) ++ treeG k (ls.take n))) => ih (ls.drop n) (L ++ gammaBits ((n : Int) + 1) ++ treeG k (ls.take n)) W A1 q c1 (64 - (k : Int)) (by omega) rfl (by rw [List.length_drop]; omega) HCR.out hc1 (by omega) hB hO (by rw [List.length_append, List.length_append, hq]; omega) (by rw [hn]; exact hok.drop) (fun x hx => hu x (List.mem_of_mem_drop hx)))
      have HLL := Aside0.mk (show L.length < 10000000000 by omega)
      have HB := Aside0.mk hB
      have HB2 := Aside0.mk (Below.refl w0.heap.size w)
      have HO := Aside0.mk hO
      have HU := Aside0.mk hu
      have HM := Aside0.mk hm
      have hd0 : d = 63 - (k : Int) := by omega
      have hd1 : (63 : Int) - (k : Int) + 1 = 64 - (k : Int) := by omega
      have hk63 : (k : Int) ≤ 63 := by omega
      have HK := Aside0.mk (show k ≤ 63 by omega)
      have hn4 : (n : Int) ≤ 4096 := by omega
      have hm4' : (m : Int) ≤ 4096 := by omega
      subst hd0
      clear ih hq hok hsh hm hC hO hu hB hsp hl hgl htl e1 hcc hn hk hd
      go_enter Try.func58, Try.ntmps58
      go_wp2
      go_loop [6] (fun v6 => ∃ (j : Nat), v6 = .int .i64 j ∧ j ≤ n) (fun v => n - (intOf v).toNat)
      case atStart => exact ⟨0, by first | rfl | go_num, Nat.zero_le _⟩
      case round =>
        obtain ⟨j, rfl, hj⟩ := hrel
        by_cases hjm : j < m
        · have hjz : (j : Int) < (m : Int) := by omega
          have hjd : decide ((j : Int) < (m : Int)) = true := decide_eq_true hjz
          obtain ⟨ad, e, hx⟩ := Kd.at_int (Kd.C_below HC.out HB.out) (j : Int) (Int.natCast_nonneg _) hjz
          cases e
          obtain ⟨x, hxe⟩ : ∃ x, x = ls.getD j 0 := ⟨_, rfl⟩
          replace hx : w.cell? (ad.add j) = some (.int .u64 x) := by rw [hxe]; exact hx
          have hxu : 0 ≤ x ∧ x < 18446744073709551616 := by
            have hjl : j < ls.length := by rw [← HM.out]; exact hjm
            rw [hxe, List.getD_eq_getElem?_getD, List.getElem?_eq_getElem hjl, Option.getD_some]
            exact HU.out _ (List.getElem_mem _)
          have HX0 := Aside0.mk hxu.1
          have HX1 := Aside0.mk hxu.2
          by_cases hjn : j < n
          · have HBT := Aside0.mk (show bitT x k = false by rw [hxe]; exact HSP.out.2.1 j hjn)
            have HJN := Aside0.mk hjn
            clear hxe hjm hjn hj hxu
            go_wp2_with (first | (go_at_call 75; refine (trie_bit _ HK.out HX0.out HX1.out).mono ?_; rw [HBT.out]; rintro e w' ⟨rfl, rfl⟩))
            go_round
            case rel => exact ⟨j + 1, by first | rfl | go_num, HJN.out⟩
            case measure => have := HJN.out; simp [intOf]; omega
          · obtain rfl : j = n := by omega
            have HBT := Aside0.mk (show bitT x k = true by rw [hxe]; exact HSP.out.2.2 (by rw [← HM.out]; exact hjm))
            clear hxe hjm hjn hj hxu
            go_wp2_with (first
              | (go_at_call 75; refine (trie_bit _ HK.out HX0.out HX1.out).mono ?_; rw [HBT.out]; rintro e w' ⟨rfl, rfl⟩)
              | (go_at_call 76; refine (gamma_Put _ HO.out HB.out.size HLL.out (by omega) (by omega)).mono ?_; rintro e w2 ⟨rfl, hO, hb, hkk⟩; have n0_ := Aside0.mk hO; have n1_ := Aside0.mk (HB.out.trans hb); have n2_ := Aside0.mk (HB2.out.trans hb); clear HO HB HB2; have HO := n0_; have HB := n1_; have HB2 := n2_; clear n0_ n1_ n2_ hO hb hkk)
              | (go_at_call 58; (try rw [hd1]); (first
  | ((with_reducible refine (HI2.out _ HB.out HO.out).mono ?_))
  | ((with_reducible refine (HI1.out _ HB.out HO.out).mono ?_))); rintro e w2 ⟨rfl, hO, hb⟩; have n0_ := Aside0.mk hO; have n1_ := Aside0.mk (HB.out.trans hb); have n2_ := Aside0.mk (HB2.out.trans hb); clear HO HB HB2; have HO := n0_; have HB := n1_; have HB2 := n2_; clear n0_ n1_ n2_ hO hb))
            go_end0
            refine ⟨rfl, ?_, HB2.out⟩
            rw [HE.out]
            exact HO.out
        · obtain rfl : j = m := by omega
          obtain rfl : j = n := by omega
          have hjd : decide ((j : Int) < (j : Int)) = false := decide_eq_false (by omega)
          have hjd2 : decide (j < j) = false := decide_eq_false (by omega)
          clear hjm hj
          go_wp2_with (first
            | (go_at_call 76; refine (gamma_Put _ HO.out HB.out.size HLL.out (by omega) (by omega)).mono ?_; rintro e w2 ⟨rfl, hO, hb, hkk⟩; have n0_ := Aside0.mk hO; have n1_ := Aside0.mk (HB.out.trans hb); have n2_ := Aside0.mk (HB2.out.trans hb); clear HO HB HB2; have HO := n0_; have HB := n1_; have HB2 := n2_; clear n0_ n1_ n2_ hO hb hkk)
            | (go_at_call 58; (try rw [hd1]); (first
  | ((with_reducible refine (HI2.out _ HB.out HO.out).mono ?_))
  | ((with_reducible refine (HI1.out _ HB.out HO.out).mono ?_))); rintro e w2 ⟨rfl, hO, hb⟩; have n0_ := Aside0.mk hO; have n1_ := Aside0.mk (HB.out.trans hb); have n2_ := Aside0.mk (HB2.out.trans hb); clear HO HB HB2; have HO := n0_; have HB := n1_; have HB2 := n2_; clear n0_ n1_ n2_ hO hb))
          go_end0
          refine ⟨rfl, ?_, HB2.out⟩
          rw [HE.out]
          exact HO.out
def buildT (ls : List Int) : Option (List Bool) := if ls.length ≤ 4096 ∧ ls.Pairwise (· < ·) then some (treeG 64 ls) else none
def BuildsPost (w : World) (o : Option (List Bool)) (e : Ending) (w' : World) : Prop :=
  Below w.heap.size w w' ∧ match o with
  | some L => ∃ p, e = .returned (.tuple #[.pointer (some ⟨p, 0, none⟩), .bool true]) ∧ BO w.heap.size w' p L
  | none => e = .returned (.tuple #[.pointer none, .bool false])
theorem pairwise_more {ls : List Int} {i : Nat} (h : (ls.take (i + 1)).Pairwise (· < ·)) (hi : i + 1 < ls.length) (hx : ls.getD i 0 < ls.getD (i + 1) 0) : (ls.take (i + 2)).Pairwise (· < ·) := by
  rw [List.take_succ_eq_append_getElem hi, List.pairwise_append]
  refine ⟨h, by simp, fun a ha b hb => ?_⟩
  simp only [List.mem_singleton] at hb
  subst hb
  rw [List.getD_eq_getElem?_getD, List.getD_eq_getElem?_getD, List.getElem?_eq_getElem (by omega), List.getElem?_eq_getElem hi, Option.getD_some, Option.getD_some] at hx
  obtain ⟨j, hj, rfl⟩ := List.getElem_of_mem ha
  rw [List.length_take] at hj
  rw [List.getElem_take]
  by_cases hji : j = i
  · subst hji; exact hx
  · have := List.pairwise_iff_getElem.1 h j i (by rw [List.length_take]; omega) (by rw [List.length_take]; omega) (by omega)
    rw [List.getElem_take, List.getElem_take] at this
    omega
theorem OkT.all {ls : List Int} (hp : ls.Pairwise (· < ·)) (hu : U64s ls) : OkT 64 ls := by
  refine ⟨hp, 0, fun x hx => ?_⟩
  have := hu x hx
  exact Int.ediv_eq_zero_of_lt this.1 (by have e : (2 : Int) ^ 64 = 18446744073709551616 := rfl; omega)
set_option maxRecDepth 1000000 in
set_option maxHeartbeats 8000000 in
theorem trie_Build {w : World} {A : Option Addr} {m c : Nat} {ls : List Int} (hm : m = ls.length) (hC : Kd.C (Kd.int .u64) w A m ls) (hc : m ≤ c) (hml : m < 1000000000) (hu : U64s ls) :
    Calls Try.prog 33 #[.slice A m c] w (BuildsPost w (buildT ls)) := by
  have hub := Try.underlying101
  have hmz : (m : Int) < 1000000000 := by omega
  by_cases hmost : 4096 < m
  · have e : buildT ls = none := if_neg (fun h => by omega)
    rw [e]
    have h1 : decide ((4096 : Int) < (m : Int)) = true := decide_eq_true (by omega)
    have h1n : decide (4096 < m) = true := decide_eq_true hmost
    clear hm hC hu hmost e hml
    go_enter Try.func33, Try.ntmps33
    go_wp2
    go_ret2
    exact ⟨Below.refl _ _, rfl⟩
  · have h1 : decide ((4096 : Int) < (m : Int)) = false := decide_eq_false (by omega)
    have h1n : decide (4096 < m) = false := decide_eq_false hmost
    obtain ⟨R, hR⟩ : ∃ R, R = buildT ls := ⟨_, rfl⟩
    rw [← hR]
    have HR := Aside0.mk hR
    have HC := Aside0.mk hC
    have HM := Aside0.mk hm
    have HU := Aside0.mk hu
    have HCC := Aside0.mk hc
    have HM4 := Aside0.mk (show m ≤ 4096 by omega)
    have HPW0 := Aside0.mk (show (ls.take 1).Pairwise (· < ·) by cases ls <;> simp)
    clear hR hC hm hu hc hmost hml
    go_enter Try.func33, Try.ntmps33
    go_wp2
    go_loopw [4] (fun v4 wr => ∃ (i : Nat), v4 = .int .i64 ((i : Int) + 1) ∧ i ≤ m ∧ Aside0 ((ls.take (i + 1)).Pairwise (· < ·)) ∧ Aside0 (Drawn0 w wr)) (fun v _ => m + 1 - (intOf v).toNat)
    case atStart => exact ⟨0, by first | rfl | go_num, Nat.zero_le _, HPW0, ⟨Drawn0.refl _⟩⟩
    case round =>
      clear HPW0
      obtain ⟨i, rfl, hi, HPW, HD⟩ := hrel
      obtain ⟨nd, rfl⟩ := HD.out.out
      clear HD
      have hi4 : (i : Int) ≤ 4096 := by have := HM4.out; omega
      by_cases hlt : i + 1 < m
      · have hlz : (i : Int) + 1 < (m : Int) := by omega
        have hld := decide_eq_true hlz
        obtain ⟨ad, e, hx⟩ := Kd.at_int HC.out (i : Int) (Int.natCast_nonneg _) (by omega)
        cases e
        obtain ⟨ad2, e2, hy⟩ := Kd.at_int HC.out ((i : Int) + 1) (by omega) hlz
        cases e2
        obtain ⟨x, hxe⟩ : ∃ x, x = ls.getD i 0 := ⟨_, rfl⟩
        obtain ⟨y, hye⟩ : ∃ y, y = ls.getD (i + 1) 0 := ⟨_, rfl⟩
        have hti : ((i : Int) + 1).toNat = i + 1 := by omega
        replace hx : w.cell? (ad.add i) = some (.int .u64 x) := by rw [hxe]; exact hx
        replace hy : w.cell? (ad.add (i + 1)) = some (.int .u64 y) := by rw [hti] at hy; rw [hye, hy]; unfold rd; rw [hti]
        have hil : i + 1 < ls.length := by rw [← HM.out]; exact hlt
        obtain ⟨j, hj⟩ : ∃ j : Nat, j = i + 1 := ⟨_, rfl⟩
        have hjz : (i : Int) + 1 = (j : Int) := by omega
        have hjm : (j : Int) < (m : Int) := by omega
        have hj1 : (j : Int) - 1 = (i : Int) := by omega
        have hw1 : IntKind.i64.wrap ((j : Int) - 1) = (i : Int) := by rw [hj1]; exact (i64_w _).trans (w64 (by omega) (by omega))
        have him : (i : Int) < (m : Int) := by omega
        rw [hjz] at hld ⊢
        rw [← hj] at hy
        have HJ := Aside0.mk hjz
        clear hti hlz hj hjz hj1
        by_cases hge : y ≤ x
        · have hgd := decide_eq_true hge
          have HE := Aside0.mk (show R = none by
            rw [HR.out]
            refine if_neg (fun h => ?_)
            have := List.pairwise_iff_getElem.1 h.2 i (i + 1) (by omega) hil (by omega)
            rw [List.getD_eq_getElem?_getD, List.getElem?_eq_getElem (by omega), Option.getD_some] at hxe
            rw [List.getD_eq_getElem?_getD, List.getElem?_eq_getElem hil, Option.getD_some] at hye
            omega)
          clear hxe hye hge hil hlt hi
          go_wp2
          go_quiet (fail)
          go_wp2
          go_ret2
          rw [HE.out]
          exact ⟨pw_below_drewN (pw_below_drewN (Below.refl _ _) _) _, rfl⟩
        · have hgd := decide_eq_false hge
          have HPW2 := Aside0.mk (pairwise_more HPW.out hil (by rw [← hxe, ← hye]; omega))
          have HLT := Aside0.mk hlt
          clear hxe hye hge hil hlt hi HPW
          go_wp2
          go_quiet (fail)
          go_wp2
          clear hw1
          have hij := HJ.out
          refine ⟨⟨i + 1, by first | rfl | go_num, by have := HLT.out; omega, HPW2, ⟨⟨_, rfl⟩⟩⟩, ?_⟩
          have := HLT.out
          simp [intOf]
          omega
      · have hld := decide_eq_false (show ¬ (i : Int) + 1 < (m : Int) by omega)
        have HPW2 := Aside0.mk (show ls.Pairwise (· < ·) by have := HPW.out; rw [List.take_of_length_le (by rw [← HM.out]; omega)] at this; exact this)
        have HE := Aside0.mk (show R = some (treeG 64 ls) by rw [HR.out]; exact if_pos ⟨by rw [← HM.out]; exact HM4.out, HPW2.out⟩)
        have HB := Aside0.mk (pw_below_drewN (Below.refl w.heap.size w) nd)
        clear hlt hi
        go_wp2_with (first
          | ((with_reducible refine gate_dst (N := 25) rfl ?_); refine box_event ?hg (N := 25) ?hd (cs := #[.slice none 0 0, .int .i64 0]) (t := 101) ?hr ?_; (case hd => rfl); (case hg => rfl); (case hr => first | (go_simp; done) | (go_simp; rfl)); intro p hg w5 hbox hb; have n0_ := Aside0.mk (BO.new (base := w.heap.size) hbox (by rw [hg]; exact HB.out.size)); have n1_ := Aside0.mk (below_step HB.out hb); clear HB; have HO := n0_; have HB := n1_; clear n0_ n1_; clear hb hbox hg)
          | ((with_reducible refine gate_dst (N := 26) rfl ?_); refine box_event ?hg (N := 26) ?hd (cs := #[.slice none 0 0, .int .i64 0]) (t := 101) ?hr ?_; (case hd => rfl); (case hg => rfl); (case hr => first | (go_simp; done) | (go_simp; rfl)); intro p hg w5 hbox hb; have n0_ := Aside0.mk (BO.new (base := w.heap.size) hbox (by rw [hg]; exact HB.out.size)); have n1_ := Aside0.mk (below_step HB.out hb); clear HB; have HO := n0_; have HB := n1_; clear n0_ n1_; clear hb hbox hg)
          | (go_at_call 58; refine (trie_build 64 ls [] _ A m c 0 (by omega) rfl HM.out HC.out HCC.out HM4.out HB.out HO.out (by have := HM4.out; rw [List.length_nil]; omega) (OkT.all HPW2.out HU.out) HU.out).mono ?_; rintro e w2 ⟨rfl, hO, hb⟩; rw [List.nil_append] at hO; have n0_ := Aside0.mk hO; have n1_ := Aside0.mk (HB.out.trans hb); clear HO HB; have HO := n0_; have HB := n1_; clear n0_ n1_ hO hb))
        go_ret2
        rw [HE.out]
        exact ⟨HB.out, _, rfl, HO.out⟩
end Go.Proofs.Ytkhcmddeeodbkaa.GL
namespace Go.Proofs.Ytkhcmddeeodbkaa.GL
open Go.RowKit Go.Proofs.YtkhcmddeeodbkaaW.PrintWords Go.Proofs.YtkhcmddeeodbkaaW.PrintMore Go.Proofs.Ytkhcmddeeodbkaa.Q Go.Proofs.Ytkhcmddeeodbkaa.XSor Go.Proofs.Ytkhcmddeeodbkaa.G
theorem mod_pow_succ (x : Int) (n : Nat) : x % 2 ^ (n + 1) = (x / 2 ^ n % 2) * 2 ^ n + x % 2 ^ n := by
  have hp : (0 : Int) < 2 ^ n := Int.pow_pos (by decide)
  have h1 := Int.mul_ediv_add_emod x (2 ^ n)
  have h2 := Int.mul_ediv_add_emod (x / 2 ^ n) 2
  have h0 := Int.emod_nonneg x (show (2 : Int) ^ n ≠ 0 by omega)
  have h3 := Int.emod_lt_of_pos x hp
  have e : x = (x / 2 ^ n / 2) * 2 ^ (n + 1) + ((x / 2 ^ n % 2) * 2 ^ n + x % 2 ^ n) := by
    rw [Int.pow_succ]
    generalize hA : x / 2 ^ n = A at *
    generalize hB : (2 : Int) ^ n = B at *
    generalize hC : A / 2 = C at *
    generalize hD : A % 2 = D at *
    have : C * (B * 2) + (D * B + x % B) = B * (2 * C + D) + x % B := by
      rw [Int.mul_add, ← Int.mul_assoc B 2 C, Int.mul_comm (B * 2) C, Int.mul_comm B D]
      omega
    rw [this, h2]
    exact h1.symm
  have hb : 0 ≤ (x / 2 ^ n % 2) * 2 ^ n + x % 2 ^ n ∧ (x / 2 ^ n % 2) * 2 ^ n + x % 2 ^ n < 2 ^ (n + 1) := by
    rw [Int.pow_succ]
    rcases (show x / 2 ^ n % 2 = 0 ∨ x / 2 ^ n % 2 = 1 by omega) with h | h <;> rw [h] <;> omega
  have : x % 2 ^ (n + 1) = ((x / 2 ^ n / 2) * 2 ^ (n + 1) + ((x / 2 ^ n % 2) * 2 ^ n + x % 2 ^ n)) % 2 ^ (n + 1) := by rw [← e]
  rw [this, Int.add_comm, Int.add_mul_emod_self_right, Int.emod_eq_of_lt hb.1 hb.2]
theorem fold_numBits (x : Int) : ∀ (n : Nat) (a : Int), (numBits x n).foldl (fun a b => 2 * a + if b = true then 1 else 0) a = a * 2 ^ n + x % 2 ^ n := by
  intro n
  induction n with
  | zero => intro a; simp [numBits]
  | succ n ih =>
    intro a
    rw [numBits, List.foldl_cons, ih, mod_pow_succ, Int.pow_succ]
    rcases (show x / 2 ^ n % 2 = 0 ∨ x / 2 ^ n % 2 = 1 by omega) with h | h
    · rw [h]
      simp only [beq_iff_eq, show ¬ ((0 : Int) = 1) by decide, if_false]
      rw [Int.add_zero, Int.zero_mul, Int.zero_add, Int.mul_comm 2 a, Int.mul_assoc, Int.mul_comm 2 (2 ^ n)]
    · rw [h]
      simp only [beq_self_eq_true, if_true]
      rw [Int.add_mul, Int.one_mul, Int.mul_comm 2 a, Int.mul_assoc, Int.mul_comm 2 (2 ^ n)]
      omega
theorem numOf_numBits (x : Int) (n : Nat) : numOf (numBits x n) = x % 2 ^ n := by
  unfold numOf
  rw [fold_numBits]
  omega
theorem numAt_mid (A B : List Bool) (x : Int) (n : Nat) (hn : n ≤ 64) : numAt (A ++ numBits x n ++ B) (A.length : Int) (n : Int) = some (x % 2 ^ n) := by
  unfold numAt
  rw [if_pos ⟨by omega, by omega, by omega, by rw [List.length_append, List.length_append, numBits_len]; omega⟩, Int.toNat_natCast, Int.toNat_natCast, List.append_assoc, List.drop_left,
    List.take_append_of_le_length (by rw [numBits_len]; omega), List.take_of_length_le (by rw [numBits_len]; omega), numOf_numBits]
theorem numBits_zero : ∀ n, numBits 0 n = List.replicate n false
  | 0 => rfl
  | n + 1 => by rw [numBits, numBits_zero n, List.replicate_succ]; simp
theorem zeros_rep (B : List Bool) : ∀ (k m : Nat), k < m → zeros (List.replicate k false ++ true :: B) m = k
  | 0, m + 1, _ => by simp [zeros]
  | k + 1, m + 1, h => by rw [List.replicate_succ, List.cons_append, zeros]; simp [zeros_rep B k m (by omega)]
theorem bitLen_pow {x : Nat} (h0 : x ≠ 0) (hx : x < 2 ^ 64) : 2 ^ (Lib.bitLen x - 1) ≤ x ∧ x < 2 ^ Lib.bitLen x := by
  have h1 := Nat.log2_self_le h0
  have h2 := Nat.lt_log2_self (n := x)
  have e : Lib.bitLen x = x.log2 + 1 := by
    rw [Lib.bitLen_shift x.log2 x h1 hx]
    have e : x / 2 ^ x.log2 = 1 := by
      have hp := Nat.two_pow_pos x.log2
      apply Nat.le_antisymm
      · have := (Nat.div_lt_iff_lt_mul hp (x := x) (y := 2)).2 (by rw [Nat.pow_succ] at h2; omega)
        omega
      · exact (Nat.le_div_iff_mul_le hp).2 (by omega)
    rw [e]
    rfl
  rw [e]
  exact ⟨h1, h2⟩
theorem getG_mid (A B : List Bool) (x : Int) (h0 : 0 < x) (h1 : x < 18446744073709551616) : getG (A ++ gammaBits x ++ B) (A.length : Int) = some (x, (A.length : Int) + ((gammaBits x).length : Int)) := by
  obtain ⟨k, hk⟩ : ∃ k, k = Lib.bitLen x.toNat := ⟨_, rfl⟩
  have hkp : 0 < k := by rw [hk]; exact bitLen_pos (by omega)
  have hk64 : k ≤ 64 := by rw [hk]; exact Lib.bitLen_le x.toNat 64 (Nat.le_refl _) (by omega)
  have hpw := bitLen_pow (x := x.toNat) (by omega) (by omega)
  rw [← hk] at hpw
  have hp0 : (2 : Int) ^ (k - 1) ≤ x := by
    have h2 : ((2 ^ (k - 1) : Nat) : Int) ≤ (x.toNat : Int) := by have := hpw.1; omega
    rw [Int.toNat_of_nonneg (by omega)] at h2
    exact_mod_cast h2
  have hp1 : x < (2 : Int) ^ k := by
    have h2 : (x.toNat : Int) < ((2 ^ k : Nat) : Int) := by have := hpw.2; omega
    rw [Int.toNat_of_nonneg (by omega)] at h2
    exact_mod_cast h2
  have hg : gammaBits x = List.replicate (k - 1) false ++ numBits x k := by rw [gammaBits, if_neg (by omega), ← hk, numBits_zero]
  have htop : ∃ R, numBits x k = true :: R := by
    obtain ⟨m, rfl⟩ : ∃ m, k = m + 1 := ⟨k - 1, by omega⟩
    refine ⟨numBits x m, ?_⟩
    rw [numBits]
    have hq : (0 : Int) < 2 ^ m := Int.pow_pos (by decide)
    have e : x / 2 ^ m = 1 := by
      rw [Nat.add_sub_cancel] at hp0
      apply Int.le_antisymm
      · have := Int.ediv_lt_of_lt_mul hq (show x < 2 * 2 ^ m by rw [Int.pow_succ] at hp1; omega)
        omega
      · exact Int.le_ediv_of_mul_le hq (by omega)
    rw [e]
    rfl
  obtain ⟨R, hR⟩ := htop
  have hz : zeros ((A ++ gammaBits x ++ B).drop A.length) 64 = k - 1 := by
    rw [List.append_assoc, List.drop_left, hg, hR, List.append_assoc, List.cons_append]
    exact zeros_rep _ _ _ (by omega)
  unfold getG
  rw [if_neg (by omega), Int.toNat_natCast, hz, if_neg (by omega)]
  have ha : (A.length : Int) + ((k - 1 : Nat) : Int) = ((A ++ List.replicate (k - 1) false).length : Int) := by rw [List.length_append, List.length_replicate]; omega
  have hn : (((k - 1 : Nat) : Int) + 1) = (k : Int) := by omega
  rw [ha, hn, hg, ← List.append_assoc, numAt_mid _ B x k hk64, Int.emod_eq_of_lt (by omega) hp1]
  simp only [Option.map_some, List.length_append, List.length_replicate, numBits_len]
  congr 2
  omega
end Go.Proofs.Ytkhcmddeeodbkaa.GL
namespace Go.Proofs.Ytkhcmddeeodbkaa.GL
open Go.RowKit Go.Proofs.YtkhcmddeeodbkaaW.PrintWords Go.Proofs.YtkhcmddeeodbkaaW.PrintMore Go.Proofs.Ytkhcmddeeodbkaa.Q Go.Proofs.Ytkhcmddeeodbkaa.XSor
theorem treeG_s {k : Nat} {ls : List Int} (h : ¬ ls.length < 2) : treeG (k + 1) ls = gammaBits ((lead k ls : Int) + 1) ++ treeG k (ls.take (lead k ls)) ++ treeG k (ls.drop (lead k ls)) := if_neg h
theorem skipT_sh {L : List Bool} (k : Nat) {at_ n : Int} (h : n < 2) : skipT L k at_ n = some at_ := by cases k <;> exact if_pos h
theorem skipT_l {L : List Bool} {k : Nat} {at_ n : Int} (h : ¬ n < 2) : skipT L (k + 1) at_ n = match readT L at_ n with
    | none => none
    | some (l, e) => match skipT L k e l with
      | none => none
      | some t => skipT L k t (n - l) := if_neg h
theorem read_tree (A B : List Bool) (m : Nat) (n : Int) (hm : (m : Int) ≤ n) (hn : n ≤ 4096) : readT (A ++ gammaBits ((m : Int) + 1) ++ B) (A.length : Int) n = some ((m : Int), ((A ++ gammaBits ((m : Int) + 1)).length : Int)) := by
  unfold readT
  rw [getG_mid A B ((m : Int) + 1) (by omega) (by omega)]
  show (if n < (m : Int) + 1 - 1 then none else some ((m : Int) + 1 - 1, (A.length : Int) + ((gammaBits ((m : Int) + 1)).length : Int))) = _
  rw [if_neg (by omega), List.length_append, Int.add_sub_cancel]
  rfl
theorem skip_tree : ∀ (k : Nat) (ls : List Int) (A B : List Bool), ls.length ≤ 4096 → OkT k ls → skipT (A ++ treeG k ls ++ B) k (A.length : Int) (ls.length : Int) = some ((A.length : Int) + ((treeG k ls).length : Int)) := by
  intro k
  induction k with
  | zero =>
    intro ls A B _ hok
    have h := hok.zero
    rw [skipT_sh 0 (by omega), treeG_short 0 h]
    simp
  | succ k ih =>
    intro ls A B hl hok
    by_cases h : ls.length < 2
    · rw [skipT_sh _ (by omega), treeG_short _ h]
      simp
    · have hs := (lead_spec k ls).1
      have e : A ++ treeG (k + 1) ls ++ B = A ++ gammaBits ((lead k ls : Int) + 1) ++ (treeG k (ls.take (lead k ls)) ++ treeG k (ls.drop (lead k ls)) ++ B) := by rw [treeG_s h]; simp [List.append_assoc]
      have h1 := ih (ls.take (lead k ls)) (A ++ gammaBits ((lead k ls : Int) + 1)) (treeG k (ls.drop (lead k ls)) ++ B) (by rw [List.length_take]; omega) hok.take
      have h2 := ih (ls.drop (lead k ls)) (A ++ gammaBits ((lead k ls : Int) + 1) ++ treeG k (ls.take (lead k ls))) B (by rw [List.length_drop]; omega) hok.drop
      rw [List.length_take, Nat.min_eq_left hs] at h1
      rw [List.length_drop] at h2
      have e1 : A ++ gammaBits ((lead k ls : Int) + 1) ++ treeG k (ls.take (lead k ls)) ++ (treeG k (ls.drop (lead k ls)) ++ B) = A ++ gammaBits ((lead k ls : Int) + 1) ++ (treeG k (ls.take (lead k ls)) ++ treeG k (ls.drop (lead k ls)) ++ B) := by simp [List.append_assoc]
      have e2 : A ++ gammaBits ((lead k ls : Int) + 1) ++ treeG k (ls.take (lead k ls)) ++ treeG k (ls.drop (lead k ls)) ++ B = A ++ gammaBits ((lead k ls : Int) + 1) ++ (treeG k (ls.take (lead k ls)) ++ treeG k (ls.drop (lead k ls)) ++ B) := by simp [List.append_assoc]
      rw [e1] at h1
      rw [e2] at h2
      rw [e, skipT_l (by omega), read_tree _ _ _ _ (by omega) (by omega)]
      simp only [h1]
      have e3 : ((A ++ gammaBits ((lead k ls : Int) + 1)).length : Int) + ((treeG k (ls.take (lead k ls))).length : Int) = ((A ++ gammaBits ((lead k ls : Int) + 1) ++ treeG k (ls.take (lead k ls))).length : Int) := by rw [List.length_append (bs := treeG k (ls.take (lead k ls)))]; rfl
      have e4 : (ls.length : Int) - (lead k ls : Int) = ((ls.length - lead k ls : Nat) : Int) := by omega
      rw [e3, e4, h2, treeG_s h]
      simp only [List.length_append, Option.some.injEq]
      omega
theorem ok_bit {k : Nat} {ls : List Int} (h : OkT (k + 1) ls) {i : Nat} (hi : i < ls.length) (hl : lead k ls ≤ i) : bitT ls[i] k = true := by
  obtain ⟨hp, c, hc⟩ := h
  obtain ⟨h1, h2, h3⟩ := lead_spec k ls
  have hb := h3 (by omega)
  rw [List.getD_eq_getElem?_getD, List.getElem?_eq_getElem (by omega), Option.getD_some] at hb
  have h4 := bitT_true hb
  rw [hc _ (List.getElem_mem _)] at h4
  have h5 := hc ls[i] (List.getElem_mem _)
  have h6 : ls[lead k ls]'(by omega) ≤ ls[i] := by
    rcases Nat.eq_or_lt_of_le hl with he | hlt
    · subst he; exact Int.le_refl _
    · exact Int.le_of_lt (List.pairwise_iff_getElem.1 hp _ _ (by omega) (by omega) hlt)
  have h7 := mono_div k h6
  rw [half] at h5
  unfold bitT
  have : ls[i] / 2 ^ k % 2 = 1 := by omega
  rw [this]
  rfl
theorem rank_tree : ∀ (k : Nat) (ls : List Int) (A B : List Bool) (i : Nat) (a h : Int), ls[i]? = some h → ls.length ≤ 4096 → OkT k ls → rankT (A ++ treeG k ls ++ B) h k (A.length : Int) (ls.length : Int) a = some (a + (i : Int)) := by
  intro k
  induction k with
  | zero =>
    intro ls A B i a h hih _ hok
    obtain ⟨hi, _⟩ := List.getElem?_eq_some_iff.1 hih
    have h := hok.zero
    have e1 : ls.length = 1 := by omega
    obtain rfl : i = 0 := by omega
    have e2 : (ls.length : Int) = 1 := by omega
    rw [e2, rankT_1]
    simp
  | succ k ih =>
    intro ls A B i a y hih hl hok
    obtain ⟨hi, hy⟩ := List.getElem?_eq_some_iff.1 hih
    by_cases h : ls.length < 2
    · obtain rfl : i = 0 := by omega
      have e2 : (ls.length : Int) = 1 := by omega
      rw [e2, rankT_1]
      simp
    · have hs := (lead_spec k ls).1
      have hb := (lead_spec k ls).2.1
      have e : A ++ treeG (k + 1) ls ++ B = A ++ gammaBits ((lead k ls : Int) + 1) ++ (treeG k (ls.take (lead k ls)) ++ treeG k (ls.drop (lead k ls)) ++ B) := by rw [treeG_s h]; simp [List.append_assoc]
      have e1 : A ++ gammaBits ((lead k ls : Int) + 1) ++ treeG k (ls.take (lead k ls)) ++ (treeG k (ls.drop (lead k ls)) ++ B) = A ++ gammaBits ((lead k ls : Int) + 1) ++ (treeG k (ls.take (lead k ls)) ++ treeG k (ls.drop (lead k ls)) ++ B) := by simp [List.append_assoc]
      have e2 : A ++ gammaBits ((lead k ls : Int) + 1) ++ treeG k (ls.take (lead k ls)) ++ treeG k (ls.drop (lead k ls)) ++ B = A ++ gammaBits ((lead k ls : Int) + 1) ++ (treeG k (ls.take (lead k ls)) ++ treeG k (ls.drop (lead k ls)) ++ B) := by simp [List.append_assoc]
      rw [e, rankT_s (by omega), read_tree _ _ _ _ (by omega) (by omega)]
      by_cases hlt : i < lead k ls
      · have hbf := hb i hlt
        rw [List.getD_eq_getElem?_getD, hih, Option.getD_some] at hbf
        have h1 := ih (ls.take (lead k ls)) (A ++ gammaBits ((lead k ls : Int) + 1)) (treeG k (ls.drop (lead k ls)) ++ B) i a y (by rw [List.getElem?_take_of_lt hlt]; exact hih) (by rw [List.length_take]; omega) hok.take
        rw [List.length_take, Nat.min_eq_left hs, e1] at h1
        simp only [hbf]
        exact h1
      · have hbt := ok_bit hok hi (by omega)
        rw [hy] at hbt
        have h0 := skip_tree k (ls.take (lead k ls)) (A ++ gammaBits ((lead k ls : Int) + 1)) (treeG k (ls.drop (lead k ls)) ++ B) (by rw [List.length_take]; omega) hok.take
        rw [List.length_take, Nat.min_eq_left hs, e1] at h0
        have h2 := ih (ls.drop (lead k ls)) (A ++ gammaBits ((lead k ls : Int) + 1) ++ treeG k (ls.take (lead k ls))) B (i - lead k ls) (a + (lead k ls : Int)) y (by rw [List.getElem?_drop, show lead k ls + (i - lead k ls) = i by omega]; exact hih) (by rw [List.length_drop]; omega) hok.drop
        have e3 : ((A ++ gammaBits ((lead k ls : Int) + 1)).length : Int) + ((treeG k (ls.take (lead k ls))).length : Int) = ((A ++ gammaBits ((lead k ls : Int) + 1) ++ treeG k (ls.take (lead k ls))).length : Int) := by rw [List.length_append (bs := treeG k (ls.take (lead k ls)))]; rfl
        have e4 : (ls.length : Int) - (lead k ls : Int) = ((ls.length - lead k ls : Nat) : Int) := by omega
        rw [List.length_drop, e2] at h2
        simp only [hbt, h0, e3, e4, h2]
        rw [if_pos trivial]
        congr 1
        omega
theorem rank_found {ls : List Int} {i : Nat} (hi : i < ls.length) (hl : ls.length ≤ 4096) (hp : ls.Pairwise (· < ·)) (hu : U64s ls) : rankI (treeG 64 ls) ls[i] (ls.length : Int) = some (i : Int) := by
  unfold rankI
  rw [if_neg (by omega)]
  have := rank_tree 64 ls [] [] i 0 ls[i] (List.getElem?_eq_getElem hi) hl (OkT.all hp hu)
  simpa using this
theorem rank_rng {L : List Bool} {h : Int} : ∀ (k : Nat) (at_ n a r : Int), 0 ≤ n → rankT L h k at_ n a = some r → a ≤ r ∧ r < a + n := by
  intro k
  induction k with
  | zero =>
    intro at_ n a r hn h
    rw [rankT] at h
    split at h
    · cases h
    · split at h
      · injection h with h; omega
      · cases h
  | succ k ih =>
    intro at_ n a r hn hr
    by_cases hz : n = 0
    · subst hz; rw [rankT_0] at hr; cases hr
    · by_cases ho : n = 1
      · subst ho; rw [rankT_1] at hr; injection hr with hr; omega
      · rw [rankT_s (by omega)] at hr
        cases hrd : readT L at_ n with
        | none => rw [hrd] at hr; cases hr
        | some le =>
          obtain ⟨l, e⟩ := le
          rw [hrd] at hr
          have hsp := readT_spec hrd
          by_cases hb : bitT h k = true
          · simp only [if_pos hb] at hr
            cases hs : skipT L k e l with
            | none => simp only [hs] at hr; cases hr
            | some t =>
              simp only [hs] at hr
              have := ih t (n - l) (a + l) r (by omega) hr
              omega
          · simp only [if_neg hb] at hr
            have := ih e l a r (by omega) hr
            omega
end Go.Proofs.Ytkhcmddeeodbkaa.GL
namespace Go.Proofs.Ytkhcmddeeodbkaa.GL
open Go.RowKit Go.Proofs.YtkhcmddeeodbkaaW.PrintWords Go.Proofs.YtkhcmddeeodbkaaW.PrintMore Go.Proofs.Ytkhcmddeeodbkaa.Q Go.Proofs.Ytkhcmddeeodbkaa.XSor
def treeOf (L : List Pr) : List Bool := treeG 64 (hsL L)
def likeL (L : List Pr) (k : ByteArray) : List Pr := match rankI (treeOf L) (H k) ((hsL L).length : Int) with
  | none => []
  | some q => ofH L ((hsL L).getD q.toNat 0)
theorem rankI_bd {L : List Pr} {h q : Int} (e : rankI (treeOf L) h ((hsL L).length : Int) = some q) : 0 ≤ q ∧ q.toNat < (hsL L).length := by
  unfold rankI at e
  split at e
  · cases e
  · have := rank_rng 64 0 _ 0 q (by omega) e
    omega
theorem tree_build {L : List Pr} (hs : SortH L) (hl : L.length ≤ 1000) : buildT (hsL L) = some (treeOf L) := if_pos ⟨by have := hsL_len_le L; omega, (hsL_inv L hs).1⟩
theorem tree_len {L : List Pr} (hl : L.length ≤ 1000) : (treeOf L).length < 100000000000 := by
  have := hsL_len_le L
  have h2 := treeG_le 64 (hsL L) (by omega)
  unfold treeOf
  omega
theorem hs_u64 {L : List Pr} (hs : SortH L) : U64s (hsL L) := hsL_u hs
theorem like_of {L : List Pr} (hs : SortH L) (hl : L.length ≤ 1000) {k : ByteArray} (h : H k ∈ hsL L) : likeL L k = ofH L (H k) := by
  obtain ⟨i, hi, e⟩ := List.getElem_of_mem h
  have := rank_found hi (by have := hsL_len_le L; omega) (hsL_inv L hs).1 (hs_u64 hs)
  rw [e] at this
  unfold likeL treeOf
  rw [this]
  show ofH L ((hsL L).getD (i : Int).toNat 0) = _
  rw [Int.toNat_natCast, List.getD_eq_getElem?_getD, List.getElem?_eq_getElem hi, Option.getD_some, e]
theorem like_sub (L : List Pr) (k : ByteArray) : ∀ p ∈ likeL L k, p ∈ L := by
  intro p hp
  unfold likeL at hp
  split at hp
  · cases hp
  · exact (List.mem_filter.1 hp).1
theorem like_find {L : List Pr} (hs : SortH L) (hl : L.length ≤ 1000) (k : ByteArray) : findP (likeL L k) k = findP L k := by
  unfold findP
  by_cases h : H k ∈ hsL L
  · rw [like_of hs hl h]
    unfold ofH
    rw [List.find?_filter]
    congr 1
    funext p
    by_cases e : p.f0 = k
    · simp [e]
    · simp [e]
  · have hno : ∀ p ∈ L, ¬ (decide (p.f0 = k) = true) := fun p hp e => h (by
      have e := of_decide_eq_true e
      rw [← e]
      exact (hsL_inv L hs).2.1 p hp)
    rw [List.find?_eq_none.2 hno, List.find?_eq_none.2 (fun p hp => hno p (like_sub L k p hp))]
end Go.Proofs.Ytkhcmddeeodbkaa.GL
