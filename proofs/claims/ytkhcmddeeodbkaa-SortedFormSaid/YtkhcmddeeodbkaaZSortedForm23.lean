import Derived.Test.YtkhcmddeeodbkaaZSortedForm22
-- Own texts and, of the words that the kit's print program wrote for this claim, those that are needed here: put together by wip/prune.py.
set_option linter.unusedSimpArgs false
set_option linter.unusedVariables false
namespace Go.Proofs.Ytkhcmddeeodbkaa.Q
open Go.RowKit Go.Proofs.YtkhcmddeeodbkaaW.PrintWords Go.Proofs.YtkhcmddeeodbkaaW.PrintMore Go.Proofs.Ytkhcmddeeodbkaa.G Go.Proofs.Ytkhcmddeeodbkaa.XSor
abbrev rr (l : List Rc) (i : Nat) : Rc := rd_T27 l (i : Int)
theorem rr_get {l : List Rc} {i : Nat} (h : i < l.length) : rr l i = l[i] := by simp [rd_T27, h]
theorem rr_mem {l : List Rc} {i : Nat} (h : i < l.length) : rr l i ∈ l := by rw [rr_get h]; exact List.getElem_mem h
theorem rr_drop {l : List Rc} {i : Nat} (h : i < l.length) : l.drop i = rr l i :: l.drop (i + 1) := by rw [List.drop_eq_getElem_cons h, rr_get h]
def hasK (L : List Rc) (k : ByteArray) : Bool := L.any (fun r => decide (r.f0 = k))
theorem find_l (L : List Rc) (key : ByteArray) (hl : L.length ≤ 1000000) : ∀ (d i : Nat), i + d = L.length → ∃ k r1 r2 r3 r4 r5, loessref10_Find.l0 k L key (i : Int) = some (r1, r2, r3, r4, r5, hasK (L.drop i) key) := by
  intro d
  induction d with
  | zero =>
    intro i hi
    refine ⟨1, ⟨#[]⟩, false, 0, 0, ⟨#[]⟩, ?_⟩
    unfold loessref10_Find.l0
    rw [if_neg (by omega), List.drop_of_length_le (by omega)]
    rfl
  | succ d ih =>
    intro i hi
    have hlt : i < L.length := by omega
    rw [rr_drop hlt]
    by_cases c : (rr L i).f0 = key
    · refine ⟨1, (rr L i).f0, (rr L i).f1, (rr L i).f2.f0, (rr L i).f2.f1, (rr L i).f2.f2, ?_⟩
      unfold loessref10_Find.l0
      rw [if_pos (by omega), if_pos (by omega), if_pos (by rw [c])]
      simp [hasK, c]
    · obtain ⟨k, r1, r2, r3, r4, r5, h⟩ := ih (i + 1) (by omega)
      refine ⟨k + 1, r1, r2, r3, r4, r5, ?_⟩
      unfold loessref10_Find.l0
      rw [if_pos (by omega), if_pos (by omega), if_neg (fun e => c (toList_inj e)), w64 (by omega) (by omega)]
      have e : hasK (rr L i :: L.drop (i + 1)) key = hasK (L.drop (i + 1)) key := by simp [hasK, c]
      rw [e]
      exact h
theorem find_any (L : List Rc) (key : ByteArray) (hl : L.length ≤ 1000000) : ∃ k r1 r2 r3 r4 r5, loessref10_Find.f k L key = some (r1, r2, r3, r4, r5, hasK L key) := by
  have := find_l L key hl L.length 0 (by omega)
  rw [List.drop_zero] at this
  exact this
def addK (out : List Rc) (x : Rc) : List Rc := if hasK out x.f0 = true then out else out ++ [x]
def dedK (L : List Rc) : List Rc := L.foldl addK []
theorem dedK_snoc (L : List Rc) (x : Rc) : dedK (L ++ [x]) = addK (dedK L) x := by unfold dedK; rw [List.foldl_append]; rfl
def posK (acc : List Rc) (x : Rc) : Nat → Nat
  | 0 => 0
  | n + 1 => if ltK x.f0 (rr acc n).f0 = true then posK acc x n else n + 1
theorem posK_le (acc : List Rc) (x : Rc) : ∀ n, posK acc x n ≤ n := by
  intro n
  induction n with
  | zero => exact Nat.le_refl _
  | succ n ih => unfold posK; split <;> omega
def insK (acc : List Rc) (x : Rc) : List Rc := acc.take (posK acc x acc.length) ++ x :: acc.drop (posK acc x acc.length)
theorem insK_len (acc : List Rc) (x : Rc) : (insK acc x).length = acc.length + 1 := by
  have := posK_le acc x acc.length
  unfold insK
  rw [List.length_append, List.length_take, List.length_cons, List.length_drop]
  omega
def ordK (L : List Rc) : List Rc := (dedK L).foldl insK []
def ordN (D : List Rc) (i : Nat) : List Rc := (D.take i).foldl insK []
theorem ordN_step {D : List Rc} {i : Nat} (h : i < D.length) : ordN D (i + 1) = insK (ordN D i) (rr D i) := by
  unfold ordN
  rw [List.take_succ_eq_append_getElem h, List.foldl_append, rr_get h]
  rfl
theorem ordN_len (D : List Rc) : ∀ i, i ≤ D.length → (ordN D i).length = i := by
  intro i
  induction i with
  | zero => intro _; rfl
  | succ i ih => intro h; rw [ordN_step (by omega), insK_len, ih (by omega)]
theorem dedK_step {L : List Rc} {i : Nat} (h : i < L.length) : dedK (L.take (i + 1)) = addK (dedK (L.take i)) (rr L i) := by
  rw [List.take_succ_eq_append_getElem h, dedK_snoc, rr_get h]
theorem addK_len (L : List Rc) (x : Rc) : (addK L x).length ≤ L.length + 1 := by unfold addK; split <;> simp
theorem dedK_len (L : List Rc) : (dedK L).length ≤ L.length := by
  refine rev_ind (P := fun L => (dedK L).length ≤ L.length) (Nat.le_refl _) (fun L x ih => ?_) L
  rw [dedK_snoc, List.length_append, List.length_singleton]
  have := addK_len (dedK L) x
  omega
theorem dedK_mem (L : List Rc) : ∀ x ∈ dedK L, x ∈ L := by
  refine rev_ind (P := fun L => ∀ x ∈ dedK L, x ∈ L) (by simp [dedK]) (fun L x ih y hy => ?_) L
  rw [dedK_snoc] at hy
  unfold addK at hy
  split at hy
  · exact List.mem_append_left _ (ih y hy)
  · rcases List.mem_append.1 hy with hy | hy
    · exact List.mem_append_left _ (ih y hy)
    · exact List.mem_append_right _ hy
theorem hasK_iff (L : List Rc) (k : ByteArray) : hasK L k = true ↔ ∃ r ∈ L, r.f0 = k := by
  unfold hasK
  rw [List.any_eq_true]
  exact ⟨fun ⟨r, h, e⟩ => ⟨r, h, of_decide_eq_true e⟩, fun ⟨r, h, e⟩ => ⟨r, h, decide_eq_true e⟩⟩
theorem dedK_one (L : List Rc) : (dedK L).Pairwise (fun a b => a.f0 ≠ b.f0) := by
  refine rev_ind (P := fun L => (dedK L).Pairwise (fun a b => a.f0 ≠ b.f0)) List.Pairwise.nil (fun L x ih => ?_) L
  rw [dedK_snoc]
  unfold addK
  split
  · exact ih
  · rename_i h
    refine List.pairwise_append.2 ⟨ih, List.pairwise_singleton _ _, fun a ha b hb e => ?_⟩
    rw [List.mem_singleton.1 hb] at e
    exact h ((hasK_iff _ _).2 ⟨a, ha, e⟩)
def RiseK (L : List Rc) : Prop := L.Pairwise (fun a b => ltK a.f0 b.f0 = true)
theorem posK_spec {acc : List Rc} {x : Rc} (hr : RiseK acc) (hx : ∀ r ∈ acc, r.f0 ≠ x.f0) : ∀ n, n ≤ acc.length → (∀ j (hj : j < acc.length), n ≤ j → ltK x.f0 acc[j].f0 = true) → (∀ j (hj : j < acc.length), posK acc x n ≤ j → ltK x.f0 acc[j].f0 = true) ∧ (∀ j (hj : j < acc.length), j < posK acc x n → ltK acc[j].f0 x.f0 = true) := by
  have hp := List.pairwise_iff_getElem.1 hr
  intro n
  induction n with
  | zero => intro _ h; exact ⟨fun j hj h0 => h j hj (Nat.zero_le _), fun j hj h0 => absurd h0 (Nat.not_lt_zero _)⟩
  | succ n ih =>
    intro hn h
    unfold posK
    rw [rr_get (show n < acc.length by omega)]
    by_cases c : ltK x.f0 acc[n].f0 = true
    · rw [if_pos c]
      refine ih (by omega) (fun j hj hnj => ?_)
      rcases Nat.lt_or_eq_of_le hnj with h1 | h1
      · exact h j hj (by omega)
      · subst h1; exact c
    · rw [if_neg c]
      have hlt : ltK acc[n].f0 x.f0 = true := by
        cases h2 : ltK acc[n].f0 x.f0 with
        | true => rfl
        | false => exact absurd (ltK_tri h2 (Bool.eq_false_iff.2 c)) (hx _ (List.getElem_mem _))
      refine ⟨fun j hj h1 => h j hj h1, fun j hj h1 => ?_⟩
      rcases Nat.lt_or_eq_of_le (Nat.le_of_lt_succ h1) with h2 | h2
      · exact ltK_trans (hp j n hj (by omega) h2) hlt
      · subst h2; exact hlt
theorem insK_rise {acc : List Rc} {x : Rc} (hr : RiseK acc) (hx : ∀ r ∈ acc, r.f0 ≠ x.f0) : RiseK (insK acc x) := by
  obtain ⟨h1, h2⟩ := posK_spec hr hx acc.length (Nat.le_refl _) (fun j hj hn => by omega)
  obtain ⟨p, hp⟩ : ∃ p, p = posK acc x acc.length := ⟨_, rfl⟩
  unfold RiseK insK
  rw [← hp] at h1 h2 ⊢
  have hlo : ∀ a ∈ acc.take p, ltK a.f0 x.f0 = true := by
    intro a ha
    obtain ⟨j, hj, rfl⟩ := List.getElem_of_mem ha
    rw [List.length_take] at hj
    rw [List.getElem_take]
    exact h2 j (by omega) (by omega)
  have hhi : ∀ a ∈ acc.drop p, ltK x.f0 a.f0 = true := by
    intro a ha
    obtain ⟨j, hj, rfl⟩ := List.getElem_of_mem ha
    rw [List.length_drop] at hj
    rw [List.getElem_drop]
    exact h1 _ (by omega) (by omega)
  refine List.pairwise_append.2 ⟨hr.sublist (List.take_sublist _ _), List.pairwise_cons.2 ⟨hhi, hr.sublist (List.drop_sublist _ _)⟩, fun a ha b hb => ?_⟩
  rcases List.mem_cons.1 hb with rfl | hb
  · exact hlo a ha
  · exact ltK_trans (hlo a ha) (hhi b hb)
theorem insK_mem (acc : List Rc) (x y : Rc) : y ∈ insK acc x ↔ y = x ∨ y ∈ acc := by
  unfold insK
  obtain ⟨p, hp⟩ : ∃ p, p = posK acc x acc.length := ⟨_, rfl⟩
  rw [← hp, List.mem_append, List.mem_cons]
  have := List.take_append_drop p acc
  constructor
  · rintro (h | h | h)
    · exact .inr (List.mem_of_mem_take h)
    · exact .inl h
    · exact .inr (List.mem_of_mem_drop h)
  · rintro (h | h)
    · exact .inr (.inl h)
    · rw [← this] at h
      rcases List.mem_append.1 h with h | h
      · exact .inl h
      · exact .inr (.inr h)
theorem ordN_mem (D : List Rc) : ∀ i, i ≤ D.length → ∀ y, y ∈ ordN D i ↔ y ∈ D.take i := by
  intro i
  induction i with
  | zero => intro _ y; simp [ordN]
  | succ i ih =>
    intro h y
    rw [ordN_step (by omega), insK_mem, ih (by omega), List.take_succ_eq_append_getElem (by omega), List.mem_append, List.mem_singleton, rr_get (by omega)]
    exact or_comm
theorem ordN_rise {D : List Rc} (hD : D.Pairwise (fun a b => a.f0 ≠ b.f0)) : ∀ i, i ≤ D.length → RiseK (ordN D i) := by
  intro i
  induction i with
  | zero => intro _; exact List.Pairwise.nil
  | succ i ih =>
    intro h
    rw [ordN_step (by omega)]
    refine insK_rise (ih (by omega)) (fun r hr => ?_)
    rw [ordN_mem D i (by omega)] at hr
    obtain ⟨j, hj, rfl⟩ := List.getElem_of_mem hr
    rw [List.length_take] at hj
    rw [List.getElem_take, rr_get (by omega)]
    exact List.pairwise_iff_getElem.1 hD j i (by omega) (by omega) (by omega)
theorem ordK_all (L : List Rc) : ordK L = ordN (dedK L) (dedK L).length := by unfold ordK ordN; rw [List.take_length]
theorem ordK_rise (L : List Rc) : RiseK (ordK L) := by rw [ordK_all]; exact ordN_rise (dedK_one L) _ (Nat.le_refl _)
theorem ordK_mem (L : List Rc) (y : Rc) : y ∈ ordK L ↔ y ∈ dedK L := by rw [ordK_all, ordN_mem _ _ (Nat.le_refl _), List.take_length]
theorem ordK_len (L : List Rc) : (ordK L).length = (dedK L).length := by rw [ordK_all, ordN_len _ _ (Nat.le_refl _)]
end Go.Proofs.Ytkhcmddeeodbkaa.Q
