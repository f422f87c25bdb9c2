/- What a tree answers, in plain Lean. -/
import Derived.Test.YtobdfehpbgcloaaGTrieBd
import Derived.Test.YtobdfehpbgcloaaQNumLaw
namespace Go.Proofs.Ytobdfehpbgcloaa.GL
open Go.RowKit Go.Proofs.YtobdfehpbgcloaaW.PrintWords Go.Proofs.YtobdfehpbgcloaaW.PrintMore Go.Proofs.Ytobdfehpbgcloaa.Q Go.Proofs.Ytobdfehpbgcloaa.XTri
set_option linter.unusedVariables false
set_option linter.unusedSimpArgs false
theorem treeG_s {k : Nat} {ls : List Int} (h : ¬ ls.length < 2) : treeG (k + 1) ls = gammaBits ((lead k ls : Int) + 1) ++ treeG k (ls.take (lead k ls)) ++ treeG k (ls.drop (lead k ls)) := if_neg h
theorem skipT_sh {L : List Bool} (k : Nat) {at_ n : Int} (h : n < 2) : skipT L k at_ n = some at_ := by cases k <;> exact if_pos h
theorem skipT_l {L : List Bool} {k : Nat} {at_ n : Int} (h : ¬ n < 2) : skipT L (k + 1) at_ n = match readT L at_ n with
    | none => none
    | some (l, e) => match skipT L k e l with
      | none => none
      | some t => skipT L k t (n - l) := if_neg h
theorem read_tree (A B : List Bool) (m : Nat) (n : Int) (hm : (m : Int) ≤ n) (hn : n ≤ 4096) : readT (A ++ gammaBits ((m : Int) + 1) ++ B) (A.length : Int) n = some ((m : Int), ((A ++ gammaBits ((m : Int) + 1)).length : Int)) := by
  unfold readT
  rw [getG_mid A B ((m : Int) + 1) (by omega) (by omega)]
  show (if n < (m : Int) + 1 - 1 then none else some ((m : Int) + 1 - 1, (A.length : Int) + ((gammaBits ((m : Int) + 1)).length : Int))) = _
  rw [if_neg (by omega), List.length_append, Int.add_sub_cancel]
  rfl
theorem skip_tree : ∀ (k : Nat) (ls : List Int) (A B : List Bool), ls.length ≤ 4096 → OkT k ls → skipT (A ++ treeG k ls ++ B) k (A.length : Int) (ls.length : Int) = some ((A.length : Int) + ((treeG k ls).length : Int)) := by
  intro k
  induction k with
  | zero =>
    intro ls A B _ hok
    have h := hok.zero
    rw [skipT_sh 0 (by omega), treeG_short 0 h]
    simp
  | succ k ih =>
    intro ls A B hl hok
    by_cases h : ls.length < 2
    · rw [skipT_sh _ (by omega), treeG_short _ h]
      simp
    · have hs := (lead_spec k ls).1
      have e : A ++ treeG (k + 1) ls ++ B = A ++ gammaBits ((lead k ls : Int) + 1) ++ (treeG k (ls.take (lead k ls)) ++ treeG k (ls.drop (lead k ls)) ++ B) := by rw [treeG_s h]; simp [List.append_assoc]
      have h1 := ih (ls.take (lead k ls)) (A ++ gammaBits ((lead k ls : Int) + 1)) (treeG k (ls.drop (lead k ls)) ++ B) (by rw [List.length_take]; omega) hok.take
      have h2 := ih (ls.drop (lead k ls)) (A ++ gammaBits ((lead k ls : Int) + 1) ++ treeG k (ls.take (lead k ls))) B (by rw [List.length_drop]; omega) hok.drop
      rw [List.length_take, Nat.min_eq_left hs] at h1
      rw [List.length_drop] at h2
      have e1 : A ++ gammaBits ((lead k ls : Int) + 1) ++ treeG k (ls.take (lead k ls)) ++ (treeG k (ls.drop (lead k ls)) ++ B) = A ++ gammaBits ((lead k ls : Int) + 1) ++ (treeG k (ls.take (lead k ls)) ++ treeG k (ls.drop (lead k ls)) ++ B) := by simp [List.append_assoc]
      have e2 : A ++ gammaBits ((lead k ls : Int) + 1) ++ treeG k (ls.take (lead k ls)) ++ treeG k (ls.drop (lead k ls)) ++ B = A ++ gammaBits ((lead k ls : Int) + 1) ++ (treeG k (ls.take (lead k ls)) ++ treeG k (ls.drop (lead k ls)) ++ B) := by simp [List.append_assoc]
      rw [e1] at h1
      rw [e2] at h2
      rw [e, skipT_l (by omega), read_tree _ _ _ _ (by omega) (by omega)]
      simp only [h1]
      have e3 : ((A ++ gammaBits ((lead k ls : Int) + 1)).length : Int) + ((treeG k (ls.take (lead k ls))).length : Int) = ((A ++ gammaBits ((lead k ls : Int) + 1) ++ treeG k (ls.take (lead k ls))).length : Int) := by rw [List.length_append (bs := treeG k (ls.take (lead k ls)))]; rfl
      have e4 : (ls.length : Int) - (lead k ls : Int) = ((ls.length - lead k ls : Nat) : Int) := by omega
      rw [e3, e4, h2, treeG_s h]
      simp only [List.length_append, Option.some.injEq]
      omega
theorem ok_bit {k : Nat} {ls : List Int} (h : OkT (k + 1) ls) {i : Nat} (hi : i < ls.length) (hl : lead k ls ≤ i) : bitT ls[i] k = true := by
  obtain ⟨hp, c, hc⟩ := h
  obtain ⟨h1, h2, h3⟩ := lead_spec k ls
  have hb := h3 (by omega)
  rw [List.getD_eq_getElem?_getD, List.getElem?_eq_getElem (by omega), Option.getD_some] at hb
  have h4 := bitT_true hb
  rw [hc _ (List.getElem_mem _)] at h4
  have h5 := hc ls[i] (List.getElem_mem _)
  have h6 : ls[lead k ls]'(by omega) ≤ ls[i] := by
    rcases Nat.eq_or_lt_of_le hl with he | hlt
    · subst he; exact Int.le_refl _
    · exact Int.le_of_lt (List.pairwise_iff_getElem.1 hp _ _ (by omega) (by omega) hlt)
  have h7 := mono_div k h6
  rw [half] at h5
  unfold bitT
  have : ls[i] / 2 ^ k % 2 = 1 := by omega
  rw [this]
  rfl
theorem rank_tree : ∀ (k : Nat) (ls : List Int) (A B : List Bool) (i : Nat) (a h : Int), ls[i]? = some h → ls.length ≤ 4096 → OkT k ls → rankT (A ++ treeG k ls ++ B) h k (A.length : Int) (ls.length : Int) a = some (a + (i : Int)) := by
  intro k
  induction k with
  | zero =>
    intro ls A B i a h hih _ hok
    obtain ⟨hi, _⟩ := List.getElem?_eq_some_iff.1 hih
    have h := hok.zero
    have e1 : ls.length = 1 := by omega
    obtain rfl : i = 0 := by omega
    have e2 : (ls.length : Int) = 1 := by omega
    rw [e2, rankT_1]
    simp
  | succ k ih =>
    intro ls A B i a y hih hl hok
    obtain ⟨hi, hy⟩ := List.getElem?_eq_some_iff.1 hih
    by_cases h : ls.length < 2
    · obtain rfl : i = 0 := by omega
      have e2 : (ls.length : Int) = 1 := by omega
      rw [e2, rankT_1]
      simp
    · have hs := (lead_spec k ls).1
      have hb := (lead_spec k ls).2.1
      have e : A ++ treeG (k + 1) ls ++ B = A ++ gammaBits ((lead k ls : Int) + 1) ++ (treeG k (ls.take (lead k ls)) ++ treeG k (ls.drop (lead k ls)) ++ B) := by rw [treeG_s h]; simp [List.append_assoc]
      have e1 : A ++ gammaBits ((lead k ls : Int) + 1) ++ treeG k (ls.take (lead k ls)) ++ (treeG k (ls.drop (lead k ls)) ++ B) = A ++ gammaBits ((lead k ls : Int) + 1) ++ (treeG k (ls.take (lead k ls)) ++ treeG k (ls.drop (lead k ls)) ++ B) := by simp [List.append_assoc]
      have e2 : A ++ gammaBits ((lead k ls : Int) + 1) ++ treeG k (ls.take (lead k ls)) ++ treeG k (ls.drop (lead k ls)) ++ B = A ++ gammaBits ((lead k ls : Int) + 1) ++ (treeG k (ls.take (lead k ls)) ++ treeG k (ls.drop (lead k ls)) ++ B) := by simp [List.append_assoc]
      rw [e, rankT_s (by omega), read_tree _ _ _ _ (by omega) (by omega)]
      by_cases hlt : i < lead k ls
      · have hbf := hb i hlt
        rw [List.getD_eq_getElem?_getD, hih, Option.getD_some] at hbf
        have h1 := ih (ls.take (lead k ls)) (A ++ gammaBits ((lead k ls : Int) + 1)) (treeG k (ls.drop (lead k ls)) ++ B) i a y (by rw [List.getElem?_take_of_lt hlt]; exact hih) (by rw [List.length_take]; omega) hok.take
        rw [List.length_take, Nat.min_eq_left hs, e1] at h1
        simp only [hbf]
        exact h1
      · have hbt := ok_bit hok hi (by omega)
        rw [hy] at hbt
        have h0 := skip_tree k (ls.take (lead k ls)) (A ++ gammaBits ((lead k ls : Int) + 1)) (treeG k (ls.drop (lead k ls)) ++ B) (by rw [List.length_take]; omega) hok.take
        rw [List.length_take, Nat.min_eq_left hs, e1] at h0
        have h2 := ih (ls.drop (lead k ls)) (A ++ gammaBits ((lead k ls : Int) + 1) ++ treeG k (ls.take (lead k ls))) B (i - lead k ls) (a + (lead k ls : Int)) y (by rw [List.getElem?_drop, show lead k ls + (i - lead k ls) = i by omega]; exact hih) (by rw [List.length_drop]; omega) hok.drop
        have e3 : ((A ++ gammaBits ((lead k ls : Int) + 1)).length : Int) + ((treeG k (ls.take (lead k ls))).length : Int) = ((A ++ gammaBits ((lead k ls : Int) + 1) ++ treeG k (ls.take (lead k ls))).length : Int) := by rw [List.length_append (bs := treeG k (ls.take (lead k ls)))]; rfl
        have e4 : (ls.length : Int) - (lead k ls : Int) = ((ls.length - lead k ls : Nat) : Int) := by omega
        rw [List.length_drop, e2] at h2
        simp only [hbt, h0, e3, e4, h2]
        rw [if_pos trivial]
        congr 1
        omega
/-- A rising list's numbers are found at their places. -/
theorem rank_found {ls : List Int} {i : Nat} (hi : i < ls.length) (hl : ls.length ≤ 4096) (hp : ls.Pairwise (· < ·)) (hu : U64s ls) : rankI (treeG 64 ls) ls[i] (ls.length : Int) = some (i : Int) := by
  unfold rankI
  rw [if_neg (by omega)]
  have := rank_tree 64 ls [] [] i 0 ls[i] (List.getElem?_eq_getElem hi) hl (OkT.all hp hu)
  simpa using this
theorem check_tree {ls : List Int} (hl : ls.length ≤ 4096) (hp : ls.Pairwise (· < ·)) (hu : U64s ls) : checkT (treeG 64 ls) (ls.length : Int) = true := by
  unfold checkT
  rw [if_neg (by omega)]
  have := skip_tree 64 ls [] [] hl (OkT.all hp hu)
  simp only [List.nil_append, List.append_nil, List.length_nil] at this
  rw [show ((0 : Nat) : Int) = 0 from rfl] at this
  rw [this]
  simp
theorem rank_rng {L : List Bool} {h : Int} : ∀ (k : Nat) (at_ n a r : Int), 0 ≤ n → rankT L h k at_ n a = some r → a ≤ r ∧ r < a + n := by
  intro k
  induction k with
  | zero =>
    intro at_ n a r hn h
    rw [rankT] at h
    split at h
    · cases h
    · split at h
      · injection h with h; omega
      · cases h
  | succ k ih =>
    intro at_ n a r hn hr
    by_cases hz : n = 0
    · subst hz; rw [rankT_0] at hr; cases hr
    · by_cases ho : n = 1
      · subst ho; rw [rankT_1] at hr; injection hr with hr; omega
      · rw [rankT_s (by omega)] at hr
        cases hrd : readT L at_ n with
        | none => rw [hrd] at hr; cases hr
        | some le =>
          obtain ⟨l, e⟩ := le
          rw [hrd] at hr
          have hsp := readT_spec hrd
          by_cases hb : bitT h k = true
          · simp only [if_pos hb] at hr
            cases hs : skipT L k e l with
            | none => simp only [hs] at hr; cases hr
            | some t =>
              simp only [hs] at hr
              have := ih t (n - l) (a + l) r (by omega) hr
              omega
          · simp only [if_neg hb] at hr
            have := ih e l a r (by omega) hr
            omega
theorem mod_bit (x : Int) (k : Nat) : x % 2 ^ (k + 1) = 2 ^ k * (x / 2 ^ k % 2) + x % 2 ^ k := by
  have h1 := Int.mul_ediv_add_emod x (2 ^ k)
  have h2 := Int.mul_ediv_add_emod x (2 ^ (k + 1))
  rw [half, Int.pow_succ] at h2
  have h3 : (2 : Int) ^ k * (x / 2 ^ k) = 2 ^ k * 2 * (x / 2 ^ k / 2) + 2 ^ k * (x / 2 ^ k % 2) := by
    rw [Int.mul_assoc, ← Int.mul_add]
    congr 1
    omega
  rw [Int.pow_succ]
  omega
theorem rank_mono {L : List Bool} {x y : Int} : ∀ (k : Nat) (at_ n a r q : Int), 0 ≤ n → x % 2 ^ k ≤ y % 2 ^ k → rankT L x k at_ n a = some r → rankT L y k at_ n a = some q → r ≤ q := by
  intro k
  induction k with
  | zero =>
    intro at_ n a r q hn _ h1 h2
    rw [rankT] at h1 h2
    rw [h1] at h2
    injection h2 with h2
    omega
  | succ k ih =>
    intro at_ n a r q hn hxy hr hq
    by_cases hz : n = 0
    · subst hz; rw [rankT_0] at hr; cases hr
    · by_cases ho : n = 1
      · subst ho; rw [rankT_1] at hr hq; injection hr with hr; injection hq with hq; omega
      · rw [rankT_s (by omega)] at hr hq
        cases hrd : readT L at_ n with
        | none => rw [hrd] at hr; cases hr
        | some le =>
          obtain ⟨l, e⟩ := le
          rw [hrd] at hr hq
          have hsp := readT_spec hrd
          have hp : (0 : Int) < 2 ^ k := Int.pow_pos (by decide)
          have hx0 := Int.emod_nonneg x (Int.ne_of_gt hp)
          have hx1 := Int.emod_lt_of_pos x hp
          have hy0 := Int.emod_nonneg y (Int.ne_of_gt hp)
          have hy1 := Int.emod_lt_of_pos y hp
          rw [mod_bit, mod_bit] at hxy
          by_cases hb : bitT x k = true
          · have hbx : x / 2 ^ k % 2 = 1 := by simpa [bitT] using hb
            simp only [if_pos hb] at hr
            by_cases hc : bitT y k = true
            · have hby : y / 2 ^ k % 2 = 1 := by simpa [bitT] using hc
              simp only [if_pos hc] at hq
              rw [hbx, hby] at hxy
              cases hs : skipT L k e l with
              | none => simp only [hs] at hr; cases hr
              | some t =>
                simp only [hs] at hr hq
                exact ih t (n - l) (a + l) r q (by omega) (by omega) hr hq
            · have hby : ¬ y / 2 ^ k % 2 = 1 := by simpa [bitT] using hc
              have hby0 : y / 2 ^ k % 2 = 0 := by omega
              rw [hbx, hby0] at hxy
              omega
          · simp only [if_neg hb] at hr
            have hbx : ¬ x / 2 ^ k % 2 = 1 := by simpa [bitT] using hb
            have hbx0 : x / 2 ^ k % 2 = 0 := by omega
            by_cases hc : bitT y k = true
            · simp only [if_pos hc] at hq
              cases hs : skipT L k e l with
              | none => simp only [hs] at hq; cases hq
              | some t =>
                simp only [hs] at hq
                have h1 := rank_rng k e l a r (by omega) hr
                have h2 := rank_rng k t (n - l) (a + l) q (by omega) hq
                omega
            · have hby : ¬ y / 2 ^ k % 2 = 1 := by simpa [bitT] using hc
              have hby0 : y / 2 ^ k % 2 = 0 := by omega
              simp only [if_neg hc] at hq
              rw [hbx0, hby0] at hxy
              exact ih e l a r q (by omega) (by omega) hr hq
end Go.Proofs.Ytobdfehpbgcloaa.GL
