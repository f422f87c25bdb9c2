/- trie.build, Build by hand. -/
import Derived.Test.YtobdfehpbgcloaaGTrieRk
import Derived.Deep.QuietTactic
import Derived.BigQuiet
namespace Go.Proofs.Ytobdfehpbgcloaa.GL
open Go.RowKit Go.Proofs.YtobdfehpbgcloaaW.PrintWords Go.Proofs.YtobdfehpbgcloaaW.PrintLast Go.Proofs.YtobdfehpbgcloaaW.PrintMore Go.Proofs.Ytobdfehpbgcloaa.Q Go.Proofs.Ytobdfehpbgcloaa.XTri Go.Proofs.Ytobdfehpbgcloaa.G
set_option linter.unusedVariables false
set_option linter.unusedSimpArgs false
/-- How many stand ahead whose bit is not set. -/
def lead (k : Nat) : List Int → Nat
  | [] => 0
  | x :: r => if bitT x k = true then 0 else lead k r + 1
theorem lead_spec (k : Nat) : ∀ ls : List Int, lead k ls ≤ ls.length ∧ (∀ j, j < lead k ls → bitT (ls.getD j 0) k = false) ∧ (lead k ls < ls.length → bitT (ls.getD (lead k ls) 0) k = true) := by
  intro ls
  induction ls with
  | nil => simp [lead]
  | cons x r ih =>
    obtain ⟨h1, h2, h3⟩ := ih
    cases hb : bitT x k with
    | true =>
      have e : lead k (x :: r) = 0 := by rw [lead, if_pos hb]
      rw [e]
      refine ⟨by omega, fun j hj => by omega, fun _ => ?_⟩
      rw [List.getD_cons_zero]
      exact hb
    | false =>
      have e : lead k (x :: r) = lead k r + 1 := by rw [lead, if_neg (by rw [hb]; decide)]
      rw [e, List.length_cons]
      refine ⟨by omega, fun j hj => ?_, fun h => ?_⟩
      · cases j with
        | zero => rw [List.getD_cons_zero]; exact hb
        | succ j => rw [List.getD_cons_succ]; exact h2 j (by omega)
      · rw [List.getD_cons_succ]
        exact h3 (by omega)
/-- The tree of numbers. -/
def treeG : Nat → List Int → List Bool
  | 0, _ => []
  | k + 1, ls => if ls.length < 2 then [] else gammaBits ((lead k ls : Int) + 1) ++ treeG k (ls.take (lead k ls)) ++ treeG k (ls.drop (lead k ls))
theorem treeG_short (k : Nat) {ls : List Int} (h : ls.length < 2) : treeG k ls = [] := by
  cases k with
  | zero => rfl
  | succ k => rw [treeG, if_pos h]
/-- Rising numbers that are alike above some bits. -/
def OkT (k : Nat) (ls : List Int) : Prop := ls.Pairwise (· < ·) ∧ ∃ c : Int, ∀ x ∈ ls, x / 2 ^ k = c
theorem OkT.zero {ls : List Int} (h : OkT 0 ls) : ls.length < 2 := by
  obtain ⟨hp, c, hc⟩ := h
  match ls, hp, hc with
  | [], _, _ => simp
  | [_], _, _ => simp
  | x :: y :: r, hp, hc =>
    have h1 := hc x (by simp)
    have h2 := hc y (by simp)
    have h3 : x < y := (List.pairwise_cons.1 hp).1 y (by simp)
    rw [Int.pow_zero, Int.ediv_one] at h1 h2
    omega
theorem half (x : Int) (k : Nat) : x / 2 ^ (k + 1) = x / 2 ^ k / 2 := by
  rw [Int.pow_succ, Int.ediv_ediv_of_nonneg (Int.le_of_lt (Int.pow_pos (by decide)))]
theorem bitT_true {x : Int} {k : Nat} (h : bitT x k = true) : x / 2 ^ k = 2 * (x / 2 ^ (k + 1)) + 1 := by
  have h1 : x / 2 ^ k % 2 = 1 := by simpa [bitT] using h
  rw [half]
  omega
theorem bitT_false {x : Int} {k : Nat} (h : bitT x k = false) : x / 2 ^ k = 2 * (x / 2 ^ (k + 1)) := by
  have h1 : ¬ x / 2 ^ k % 2 = 1 := by simpa [bitT] using h
  rw [half]
  omega
theorem mono_div {x y : Int} (k : Nat) (h : x ≤ y) : x / 2 ^ k ≤ y / 2 ^ k := Int.ediv_le_ediv (Int.pow_pos (by decide)) h
theorem OkT.take {k : Nat} {ls : List Int} (h : OkT (k + 1) ls) : OkT k (ls.take (lead k ls)) := by
  obtain ⟨hp, c, hc⟩ := h
  obtain ⟨h1, h2, h3⟩ := lead_spec k ls
  refine ⟨hp.sublist (List.take_sublist _ _), 2 * c, fun x hx => ?_⟩
  obtain ⟨j, hj, rfl⟩ := List.getElem_of_mem hx
  rw [List.length_take] at hj
  rw [List.getElem_take]
  have hb := h2 j (by omega)
  rw [List.getD_eq_getElem?_getD, List.getElem?_eq_getElem (by omega), Option.getD_some] at hb
  rw [bitT_false hb, hc _ (List.getElem_mem _)]
theorem OkT.drop {k : Nat} {ls : List Int} (h : OkT (k + 1) ls) : OkT k (ls.drop (lead k ls)) := by
  obtain ⟨hp, c, hc⟩ := h
  obtain ⟨h1, h2, h3⟩ := lead_spec k ls
  refine ⟨hp.sublist (List.drop_sublist _ _), 2 * c + 1, fun x hx => ?_⟩
  obtain ⟨j, hj, rfl⟩ := List.getElem_of_mem hx
  rw [List.length_drop] at hj
  rw [List.getElem_drop]
  have hb := h3 (by omega)
  rw [List.getD_eq_getElem?_getD, List.getElem?_eq_getElem (by omega), Option.getD_some] at hb
  have h4 := bitT_true hb
  rw [hc _ (List.getElem_mem _)] at h4
  have h5 := hc (ls[lead k ls + j]'(by omega)) (List.getElem_mem _)
  have h6 : ls[lead k ls]'(by omega) ≤ ls[lead k ls + j]'(by omega) := by
    rcases Nat.eq_zero_or_pos j with rfl | hj0
    · exact Int.le_refl _
    · exact Int.le_of_lt (List.pairwise_iff_getElem.1 hp _ _ (by omega) (by omega) (by omega))
  have h7 := mono_div k h6
  rw [half] at h5
  omega
def U64s (ls : List Int) : Prop := ∀ x ∈ ls, 0 ≤ x ∧ x < 18446744073709551616
theorem gammaBits_le1 {x : Int} (h0 : 0 < x) (h1 : x < 18446744073709551616) : (gammaBits x).length ≤ 127 := by
  have hb := Lib.bitLen_le x.toNat 64 (Nat.le_refl _) (by omega)
  rw [gammaBits, if_neg (by omega), List.length_append, numBits_len, numBits_len]
  omega
theorem treeG_le : ∀ (k : Nat) (ls : List Int), ls.length ≤ 4096 → (treeG k ls).length ≤ 127 * (k * ls.length) := by
  intro k
  induction k with
  | zero => intro ls _; simp [treeG]
  | succ k ih =>
    intro ls hl
    rw [treeG]
    by_cases h : ls.length < 2
    · rw [if_pos h]; simp
    · rw [if_neg h]
      have hs := (lead_spec k ls).1
      have h1 := ih (ls.take (lead k ls)) (by rw [List.length_take]; omega)
      have h2 := ih (ls.drop (lead k ls)) (by rw [List.length_drop]; omega)
      have hg := gammaBits_le1 (x := (lead k ls : Int) + 1) (by omega) (by omega)
      rw [List.length_take, Nat.min_eq_left hs] at h1
      rw [List.length_drop] at h2
      rw [List.length_append, List.length_append]
      have e : (k + 1) * ls.length = k * lead k ls + k * (ls.length - lead k ls) + ls.length := by
        rw [Nat.add_mul, Nat.one_mul, ← Nat.mul_add, Nat.add_sub_cancel' hs]
      omega
def BuildPost (base : Nat) (w : World) (p : Nat) (M : List Bool) (e : Ending) (w' : World) : Prop := e = .returned (.tuple #[]) ∧ BO base w' p M ∧ Below base w w'
theorem cutL (A0 : Option Addr) (c0 m : Nat) (ls : List Int) (j : Nat) (hm : m = ls.length) (hj : j ≤ m) (hc : m ≤ c0) :
    ∀ W : World, (Instr.slice 33 (.slice A0 m c0) none (some (.int .i64 j)) none).run Try.prog W = .ok (.slice A0 j c0) W := by
  intro W
  obtain ⟨i0, hi, hi1, hi2, hi3⟩ := info_parts info23
  exact cut_to (P := Try.prog) 33 23 .i64 Try.underlying33 hi A0 m c0 j (by omega) (by omega) hc W
theorem cutR (A0 : Option Addr) (c0 m : Nat) (ls : List Int) (j : Nat) (hm : m = ls.length) (hj : j ≤ m) (hc : m ≤ c0) : ∃ A1 c1 q, q = m - j ∧
    (∀ W : World, (Instr.slice 33 (.slice A0 m c0) (some (.int .i64 j)) none none).run Try.prog W = .ok (.slice A1 q c1) W) ∧
    (∀ W : World, Kd.C (Kd.int .u64) W A0 m ls → Kd.C (Kd.int .u64) W A1 q (ls.drop j)) ∧ q ≤ c1 := by
  subst hm
  obtain ⟨i0, hi0, _, hsz, _⟩ := info_parts info23
  have hcut := cut_from (P := Try.prog) 33 23 .i64 Try.underlying33 hi0 1 hsz A0 ls.length c0 j (by omega) (by omega)
  refine ⟨(if c0 = j then A0 else A0.map (·.add (j * 1))), c0 - j, ls.length - j, rfl, hcut, fun W h => ?_, by omega⟩
  have := Kd.C_drop (m := j) (c := c0) h (by omega) hc
  rw [List.length_drop] at this
  exact this
set_option maxRecDepth 1000000 in
set_option maxHeartbeats 8000000 in
theorem trie_build {w0 : World} {p : Nat} : ∀ (k : Nat) (ls : List Int) (L : List Bool) (w : World) (A : Option Addr) (m c : Nat) (d : Int), k ≤ 64 → d = 64 - (k : Int) → m = ls.length → Kd.C (Kd.int .u64) w0 A m ls → m ≤ c → m ≤ 4096 →
    Below w0.heap.size w0 w → BO w0.heap.size w p L → L.length + 127 * (k * m) < 10000000000 → OkT k ls → U64s ls →
    Calls Try.prog 24 #[.pointer (some ⟨p, 0, none⟩), .slice A m c, .int .i64 d] w (BuildPost w0.heap.size w p (L ++ treeG k ls)) := by
  intro k
  induction k with
  | zero =>
    intro ls L w A m c d _ _ hm _ _ hm4 _ hO _ hok _
    have hsh := hok.zero
    have HE := Aside0.mk (show L ++ treeG 0 ls = L from List.append_nil _)
    have HO := Aside0.mk hO
    have h1 : decide ((m : Int) < 2) = true := decide_eq_true (by omega)
    have h1n : decide (m < 2) = true := decide_eq_true (by omega)
    clear hO hok hsh hm
    go_enter Try.func24, Try.ntmps24
    go_wp2
    refine bodyPost_ret (results_none rfl _ _ _) rfl ?_
    refine ⟨rfl, ?_, Below.refl _ _⟩
    rw [HE.out]
    exact HO.out
  | succ k ih =>
    intro ls L w A m c d hk hd hm hC hc hm4 hB hO hl hok hu
    by_cases hsh : ls.length < 2
    · have HE := Aside0.mk (show L ++ treeG (k + 1) ls = L by rw [treeG_short _ hsh, List.append_nil])
      have HO := Aside0.mk hO
      have h1 : decide ((m : Int) < 2) = true := decide_eq_true (by omega)
      have h1n : decide (m < 2) = true := decide_eq_true (by omega)
      clear hO hok hsh hm hC hB hu ih hl
      go_enter Try.func24, Try.ntmps24
      go_wp2
      refine bodyPost_ret (results_none rfl _ _ _) rfl ?_
      refine ⟨rfl, ?_, Below.refl _ _⟩
      rw [HE.out]
      exact HO.out
    · have h1 : decide ((m : Int) < 2) = false := decide_eq_false (by omega)
      have h1n : decide (m < 2) = false := decide_eq_false (by omega)
      obtain ⟨n, hn⟩ : ∃ n, n = lead k ls := ⟨_, rfl⟩
      have hsp := lead_spec k ls
      rw [← hn] at hsp
      have hnm : n ≤ m := by rw [hm]; exact hsp.1
      have HE := Aside0.mk (show L ++ treeG (k + 1) ls = L ++ gammaBits ((n : Int) + 1) ++ treeG k (ls.take n) ++ treeG k (ls.drop n) by rw [treeG, if_neg hsh, ← hn]; simp [List.append_assoc])
      have HSP := Aside0.mk hsp
      have HC := Aside0.mk hC
      have hct := cutL A c m ls n hm hnm hc
      obtain ⟨A1, c1, q, hq, hcr, hcc, hc1⟩ := cutR A c m ls n hm hnm hc
      have HCR := Aside0.mk (hcc w0 hC)
      have HCL := Aside0.mk (show Kd.C (Kd.int .u64) w0 A n (ls.take n) by
        have := Kd.C_take (k := Kd.int .u64) (m := n) (by rw [hm] at hC; exact hC) (by omega)
        rw [List.length_take, Nat.min_eq_left (by omega)] at this
        exact this)
      have hgl := gammaBits_le1 (x := (n : Int) + 1) (by omega) (by omega)
      have e1 : (k + 1) * m = k * n + k * (m - n) + m := by rw [Nat.add_mul, Nat.one_mul, ← Nat.mul_add, Nat.add_sub_cancel' hnm]
      have htl := treeG_le k (ls.take n) (by rw [List.length_take]; omega)
      rw [List.length_take, Nat.min_eq_left (by omega)] at htl
      have HI1 := Aside0.mk (fun (W : World) (hB : Below w0.heap.size w0 W) (hO : BO w0.heap.size W p (L ++ gammaBits ((n : Int) + 1))) => ih (ls.take n) (L ++ gammaBits ((n : Int) + 1)) W A n c (64 - (k : Int)) (by omega) rfl (by rw [List.length_take]; omega) HCL.out (by omega) (by omega) hB hO (by rw [List.length_append]; omega) (by rw [hn]; exact hok.take) (fun x hx => hu x (List.mem_of_mem_take hx)))
      have HI2 := Aside0.mk (fun (W : World) (hB : Below w0.heap.size w0 W) (hO : BO w0.heap.size W p (L ++ gammaBits ((n : Int) + 1) ++ treeG k (ls.take n))) => ih (ls.drop n) (L ++ gammaBits ((n : Int) + 1) ++ treeG k (ls.take n)) W A1 q c1 (64 - (k : Int)) (by omega) rfl (by rw [List.length_drop]; omega) HCR.out hc1 (by omega) hB hO (by rw [List.length_append, List.length_append, hq]; omega) (by rw [hn]; exact hok.drop) (fun x hx => hu x (List.mem_of_mem_drop hx)))
      have HLL := Aside0.mk (show L.length < 10000000000 by omega)
      have HB := Aside0.mk hB
      have HB2 := Aside0.mk (Below.refl w0.heap.size w)
      have HO := Aside0.mk hO
      have HU := Aside0.mk hu
      have HM := Aside0.mk hm
      have hd0 : d = 63 - (k : Int) := by omega
      have hd1 : (63 : Int) - (k : Int) + 1 = 64 - (k : Int) := by omega
      have hk63 : (k : Int) ≤ 63 := by omega
      have HK := Aside0.mk (show k ≤ 63 by omega)
      have hn4 : (n : Int) ≤ 4096 := by omega
      have hm4' : (m : Int) ≤ 4096 := by omega
      subst hd0
      clear ih hq hok hsh hm hC hO hu hB hsp hl hgl htl e1 hcc hn hk hd
      go_enter Try.func24, Try.ntmps24
      go_wp2
      go_loop [6] (fun v6 => ∃ (j : Nat), v6 = .int .i64 j ∧ j ≤ n) (fun v => n - (intOf v).toNat)
      case atStart => exact ⟨0, by first | rfl | go_num, Nat.zero_le _⟩
      case round =>
        obtain ⟨j, rfl, hj⟩ := hrel
        by_cases hjm : j < m
        · have hjz : (j : Int) < (m : Int) := by omega
          have hjd : decide ((j : Int) < (m : Int)) = true := decide_eq_true hjz
          obtain ⟨ad, e, hx⟩ := Kd.at_int (Kd.C_below HC.out HB.out) (j : Int) (Int.natCast_nonneg _) hjz
          cases e
          obtain ⟨x, hxe⟩ : ∃ x, x = ls.getD j 0 := ⟨_, rfl⟩
          replace hx : w.cell? (ad.add j) = some (.int .u64 x) := by rw [hxe]; exact hx
          have hxu : 0 ≤ x ∧ x < 18446744073709551616 := by
            have hjl : j < ls.length := by rw [← HM.out]; exact hjm
            rw [hxe, List.getD_eq_getElem?_getD, List.getElem?_eq_getElem hjl, Option.getD_some]
            exact HU.out _ (List.getElem_mem _)
          have HX0 := Aside0.mk hxu.1
          have HX1 := Aside0.mk hxu.2
          by_cases hjn : j < n
          · have HBT := Aside0.mk (show bitT x k = false by rw [hxe]; exact HSP.out.2.1 j hjn)
            have HJN := Aside0.mk hjn
            clear hxe hjm hjn hj hxu
            go_wp2_with (first | (go_at_call 21; refine (trie_bit _ HK.out HX0.out HX1.out).mono ?_; rw [HBT.out]; rintro e w' ⟨rfl, rfl⟩))
            go_round
            case rel => exact ⟨j + 1, by first | rfl | go_num, HJN.out⟩
            case measure => have := HJN.out; simp [intOf]; omega
          · obtain rfl : j = n := by omega
            have HBT := Aside0.mk (show bitT x k = true by rw [hxe]; exact HSP.out.2.2 (by rw [← HM.out]; exact hjm))
            clear hxe hjm hjn hj hxu
            go_wp2_with (first
              | (go_at_call 21; refine (trie_bit _ HK.out HX0.out HX1.out).mono ?_; rw [HBT.out]; rintro e w' ⟨rfl, rfl⟩)
              | (go_at_call 31; refine (gamma_Put _ HO.out HB.out.size HLL.out (by omega) (by omega)).mono ?_; rintro e w2 ⟨rfl, hO, hb, hkk⟩; have n0_ := Aside0.mk hO; have n1_ := Aside0.mk (HB.out.trans hb); have n2_ := Aside0.mk (HB2.out.trans hb); clear HO HB HB2; have HO := n0_; have HB := n1_; have HB2 := n2_; clear n0_ n1_ n2_ hO hb hkk)
              | (go_at_call 24; (try rw [hd1]); (first
  | ((with_reducible refine (HI2.out _ HB.out HO.out).mono ?_))
  | ((with_reducible refine (HI1.out _ HB.out HO.out).mono ?_))); rintro e w2 ⟨rfl, hO, hb⟩; have n0_ := Aside0.mk hO; have n1_ := Aside0.mk (HB.out.trans hb); have n2_ := Aside0.mk (HB2.out.trans hb); clear HO HB HB2; have HO := n0_; have HB := n1_; have HB2 := n2_; clear n0_ n1_ n2_ hO hb))
            go_end0
            refine ⟨rfl, ?_, HB2.out⟩
            rw [HE.out]
            exact HO.out
        · obtain rfl : j = m := by omega
          obtain rfl : j = n := by omega
          have hjd : decide ((j : Int) < (j : Int)) = false := decide_eq_false (by omega)
          have hjd2 : decide (j < j) = false := decide_eq_false (by omega)
          clear hjm hj
          go_wp2_with (first
            | (go_at_call 31; refine (gamma_Put _ HO.out HB.out.size HLL.out (by omega) (by omega)).mono ?_; rintro e w2 ⟨rfl, hO, hb, hkk⟩; have n0_ := Aside0.mk hO; have n1_ := Aside0.mk (HB.out.trans hb); have n2_ := Aside0.mk (HB2.out.trans hb); clear HO HB HB2; have HO := n0_; have HB := n1_; have HB2 := n2_; clear n0_ n1_ n2_ hO hb hkk)
            | (go_at_call 24; (try rw [hd1]); (first
  | ((with_reducible refine (HI2.out _ HB.out HO.out).mono ?_))
  | ((with_reducible refine (HI1.out _ HB.out HO.out).mono ?_))); rintro e w2 ⟨rfl, hO, hb⟩; have n0_ := Aside0.mk hO; have n1_ := Aside0.mk (HB.out.trans hb); have n2_ := Aside0.mk (HB2.out.trans hb); clear HO HB HB2; have HO := n0_; have HB := n1_; have HB2 := n2_; clear n0_ n1_ n2_ hO hb))
          go_end0
          refine ⟨rfl, ?_, HB2.out⟩
          rw [HE.out]
          exact HO.out
/-- trie.Build. -/
def buildT (ls : List Int) : Option (List Bool) := if ls.length ≤ 4096 ∧ ls.Pairwise (· < ·) then some (treeG 64 ls) else none
def BuildsPost (w : World) (o : Option (List Bool)) (e : Ending) (w' : World) : Prop :=
  Below w.heap.size w w' ∧ match o with
  | some L => ∃ p, e = .returned (.tuple #[.pointer (some ⟨p, 0, none⟩), .bool true]) ∧ BO w.heap.size w' p L
  | none => e = .returned (.tuple #[.pointer none, .bool false])
theorem pairwise_more {ls : List Int} {i : Nat} (h : (ls.take (i + 1)).Pairwise (· < ·)) (hi : i + 1 < ls.length) (hx : ls.getD i 0 < ls.getD (i + 1) 0) : (ls.take (i + 2)).Pairwise (· < ·) := by
  rw [List.take_succ_eq_append_getElem hi, List.pairwise_append]
  refine ⟨h, by simp, fun a ha b hb => ?_⟩
  simp only [List.mem_singleton] at hb
  subst hb
  rw [List.getD_eq_getElem?_getD, List.getD_eq_getElem?_getD, List.getElem?_eq_getElem (by omega), List.getElem?_eq_getElem hi, Option.getD_some, Option.getD_some] at hx
  obtain ⟨j, hj, rfl⟩ := List.getElem_of_mem ha
  rw [List.length_take] at hj
  rw [List.getElem_take]
  by_cases hji : j = i
  · subst hji; exact hx
  · have := List.pairwise_iff_getElem.1 h j i (by rw [List.length_take]; omega) (by rw [List.length_take]; omega) (by omega)
    rw [List.getElem_take, List.getElem_take] at this
    omega
theorem OkT.all {ls : List Int} (hp : ls.Pairwise (· < ·)) (hu : U64s ls) : OkT 64 ls := by
  refine ⟨hp, 0, fun x hx => ?_⟩
  have := hu x hx
  exact Int.ediv_eq_zero_of_lt this.1 (by have e : (2 : Int) ^ 64 = 18446744073709551616 := rfl; omega)
set_option maxRecDepth 1000000 in
set_option maxHeartbeats 8000000 in
theorem trie_Build {w : World} {A : Option Addr} {m c : Nat} {ls : List Int} (hm : m = ls.length) (hC : Kd.C (Kd.int .u64) w A m ls) (hc : m ≤ c) (hml : m < 1000000000) (hu : U64s ls) :
    Calls Try.prog 14 #[.slice A m c] w (BuildsPost w (buildT ls)) := by
  have hub := Try.underlying47
  have hmz : (m : Int) < 1000000000 := by omega
  by_cases hmost : 4096 < m
  · have e : buildT ls = none := if_neg (fun h => by omega)
    rw [e]
    have h1 : decide ((4096 : Int) < (m : Int)) = true := decide_eq_true (by omega)
    have h1n : decide (4096 < m) = true := decide_eq_true hmost
    clear hm hC hu hmost e hml
    go_enter Try.func14, Try.ntmps14
    go_wp2
    go_ret2
    exact ⟨Below.refl _ _, rfl⟩
  · have h1 : decide ((4096 : Int) < (m : Int)) = false := decide_eq_false (by omega)
    have h1n : decide (4096 < m) = false := decide_eq_false hmost
    obtain ⟨R, hR⟩ : ∃ R, R = buildT ls := ⟨_, rfl⟩
    rw [← hR]
    have HR := Aside0.mk hR
    have HC := Aside0.mk hC
    have HM := Aside0.mk hm
    have HU := Aside0.mk hu
    have HCC := Aside0.mk hc
    have HM4 := Aside0.mk (show m ≤ 4096 by omega)
    have HPW0 := Aside0.mk (show (ls.take 1).Pairwise (· < ·) by cases ls <;> simp)
    clear hR hC hm hu hc hmost hml
    go_enter Try.func14, Try.ntmps14
    go_wp2
    go_loopw [4] (fun v4 wr => ∃ (i : Nat), v4 = .int .i64 ((i : Int) + 1) ∧ i ≤ m ∧ Aside0 ((ls.take (i + 1)).Pairwise (· < ·)) ∧ Aside0 (Drawn0 w wr)) (fun v _ => m + 1 - (intOf v).toNat)
    case atStart => exact ⟨0, by first | rfl | go_num, Nat.zero_le _, HPW0, ⟨Drawn0.refl _⟩⟩
    case round =>
      clear HPW0
      obtain ⟨i, rfl, hi, HPW, HD⟩ := hrel
      obtain ⟨nd, rfl⟩ := HD.out.out
      clear HD
      have hi4 : (i : Int) ≤ 4096 := by have := HM4.out; omega
      by_cases hlt : i + 1 < m
      · have hlz : (i : Int) + 1 < (m : Int) := by omega
        have hld := decide_eq_true hlz
        obtain ⟨ad, e, hx⟩ := Kd.at_int HC.out (i : Int) (Int.natCast_nonneg _) (by omega)
        cases e
        obtain ⟨ad2, e2, hy⟩ := Kd.at_int HC.out ((i : Int) + 1) (by omega) hlz
        cases e2
        obtain ⟨x, hxe⟩ : ∃ x, x = ls.getD i 0 := ⟨_, rfl⟩
        obtain ⟨y, hye⟩ : ∃ y, y = ls.getD (i + 1) 0 := ⟨_, rfl⟩
        have hti : ((i : Int) + 1).toNat = i + 1 := by omega
        replace hx : w.cell? (ad.add i) = some (.int .u64 x) := by rw [hxe]; exact hx
        replace hy : w.cell? (ad.add (i + 1)) = some (.int .u64 y) := by rw [hti] at hy; rw [hye, hy]; unfold rd; rw [hti]
        have hil : i + 1 < ls.length := by rw [← HM.out]; exact hlt
        obtain ⟨j, hj⟩ : ∃ j : Nat, j = i + 1 := ⟨_, rfl⟩
        have hjz : (i : Int) + 1 = (j : Int) := by omega
        have hjm : (j : Int) < (m : Int) := by omega
        have hj1 : (j : Int) - 1 = (i : Int) := by omega
        have hw1 : IntKind.i64.wrap ((j : Int) - 1) = (i : Int) := by rw [hj1]; exact (i64_w _).trans (w64 (by omega) (by omega))
        have him : (i : Int) < (m : Int) := by omega
        rw [hjz] at hld ⊢
        rw [← hj] at hy
        have HJ := Aside0.mk hjz
        clear hti hlz hj hjz hj1
        by_cases hge : y ≤ x
        · have hgd := decide_eq_true hge
          have HE := Aside0.mk (show R = none by
            rw [HR.out]
            refine if_neg (fun h => ?_)
            have := List.pairwise_iff_getElem.1 h.2 i (i + 1) (by omega) hil (by omega)
            rw [List.getD_eq_getElem?_getD, List.getElem?_eq_getElem (by omega), Option.getD_some] at hxe
            rw [List.getD_eq_getElem?_getD, List.getElem?_eq_getElem hil, Option.getD_some] at hye
            omega)
          clear hxe hye hge hil hlt hi
          go_wp2
          go_quiet (fail)
          go_wp2
          go_ret2
          rw [HE.out]
          exact ⟨pw_below_drewN (pw_below_drewN (Below.refl _ _) _) _, rfl⟩
        · have hgd := decide_eq_false hge
          have HPW2 := Aside0.mk (pairwise_more HPW.out hil (by rw [← hxe, ← hye]; omega))
          have HLT := Aside0.mk hlt
          clear hxe hye hge hil hlt hi HPW
          go_wp2
          go_quiet (fail)
          go_wp2
          clear hw1
          have hij := HJ.out
          refine ⟨⟨i + 1, by first | rfl | go_num, by have := HLT.out; omega, HPW2, ⟨⟨_, rfl⟩⟩⟩, ?_⟩
          have := HLT.out
          simp [intOf]
          omega
      · have hld := decide_eq_false (show ¬ (i : Int) + 1 < (m : Int) by omega)
        have HPW2 := Aside0.mk (show ls.Pairwise (· < ·) by have := HPW.out; rw [List.take_of_length_le (by rw [← HM.out]; omega)] at this; exact this)
        have HE := Aside0.mk (show R = some (treeG 64 ls) by rw [HR.out]; exact if_pos ⟨by rw [← HM.out]; exact HM4.out, HPW2.out⟩)
        have HB := Aside0.mk (pw_below_drewN (Below.refl w.heap.size w) nd)
        clear hlt hi
        go_wp2_with (first
          | ((with_reducible refine gate_dst (N := 25) rfl ?_); refine box_event ?hg (N := 25) ?hd (cs := #[.slice none 0 0, .int .i64 0]) (t := 47) ?hr ?_; (case hd => rfl); (case hg => rfl); (case hr => first | (go_simp; done) | (go_simp; rfl)); intro p hg w5 hbox hb; have n0_ := Aside0.mk (BO.new (base := w.heap.size) hbox (by rw [hg]; exact HB.out.size)); have n1_ := Aside0.mk (below_step HB.out hb); clear HB; have HO := n0_; have HB := n1_; clear n0_ n1_; clear hb hbox hg)
          | ((with_reducible refine gate_dst (N := 26) rfl ?_); refine box_event ?hg (N := 26) ?hd (cs := #[.slice none 0 0, .int .i64 0]) (t := 47) ?hr ?_; (case hd => rfl); (case hg => rfl); (case hr => first | (go_simp; done) | (go_simp; rfl)); intro p hg w5 hbox hb; have n0_ := Aside0.mk (BO.new (base := w.heap.size) hbox (by rw [hg]; exact HB.out.size)); have n1_ := Aside0.mk (below_step HB.out hb); clear HB; have HO := n0_; have HB := n1_; clear n0_ n1_; clear hb hbox hg)
          | (go_at_call 24; refine (trie_build 64 ls [] _ A m c 0 (by omega) rfl HM.out HC.out HCC.out HM4.out HB.out HO.out (by have := HM4.out; rw [List.length_nil]; omega) (OkT.all HPW2.out HU.out) HU.out).mono ?_; rintro e w2 ⟨rfl, hO, hb⟩; rw [List.nil_append] at hO; have n0_ := Aside0.mk hO; have n1_ := Aside0.mk (HB.out.trans hb); clear HO HB; have HO := n0_; have HB := n1_; clear n0_ n1_ hO hb))
        go_ret2
        rw [HE.out]
        exact ⟨HB.out, _, rfl, HO.out⟩
end Go.Proofs.Ytobdfehpbgcloaa.GL
