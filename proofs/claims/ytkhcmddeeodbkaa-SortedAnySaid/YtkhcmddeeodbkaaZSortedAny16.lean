import Derived.Test.YtkhcmddeeodbkaaZSortedAny15
-- Own texts and, of the words that the kit's print program wrote for this claim, those that are needed here: put together by wip/prune.py.
set_option linter.unusedSimpArgs false
set_option linter.unusedVariables false
namespace Go.Proofs.Ytkhcmddeeodbkaa.Q
open Go.RowKit Go.Proofs.YtkhcmddeeodbkaaW.PrintWords Go.Proofs.YtkhcmddeeodbkaaW.PrintMore Go.Proofs.Ytkhcmddeeodbkaa.G Go.Proofs.Ytkhcmddeeodbkaa.XSor
abbrev Pr := S30
def ltK (a b : ByteArray) : Bool := decide (H a < H b) || (decide (H a = H b) && Op.bytesLess a.toList b.toList)
theorem ltK_iff (a b : ByteArray) : ltK a b = true ↔ H a < H b ∨ (H a = H b ∧ Op.bytesLess a.toList b.toList = true) := by
  unfold ltK
  rw [Bool.or_eq_true, Bool.and_eq_true, decide_eq_true_eq, decide_eq_true_eq]
theorem ltK_trans {a b c : ByteArray} (h : ltK a b = true) (g : ltK b c = true) : ltK a c = true := by
  rw [ltK_iff] at h g ⊢
  rcases h with h | ⟨h, h'⟩ <;> rcases g with g | ⟨g, g'⟩
  · exact .inl (by omega)
  · exact .inl (by omega)
  · exact .inl (by omega)
  · exact .inr ⟨by omega, bl_trans _ _ _ h' g'⟩
theorem ltK_tri {a b : ByteArray} (h : ltK a b = false) (g : ltK b a = false) : a = b := by
  have h1 : ¬ (H a < H b ∨ (H a = H b ∧ Op.bytesLess a.toList b.toList = true)) := fun e => by rw [(ltK_iff a b).2 e] at h; cases h
  have g1 : ¬ (H b < H a ∨ (H b = H a ∧ Op.bytesLess b.toList a.toList = true)) := fun e => by rw [(ltK_iff b a).2 e] at g; cases g
  have e : H a = H b := by omega
  refine toList_inj (bl_tri _ _ ?_ ?_)
  · exact Bool.eq_false_iff.2 fun x => h1 (.inr ⟨e, x⟩)
  · exact Bool.eq_false_iff.2 fun x => g1 (.inr ⟨e.symm, x⟩)
theorem or_ev (x y : Int) : Ev (fun k => cmp_Or_int.f k [x, y]) (if x = 0 then y else x) := by
  refine Ev.step (f := fun k => if x = 0 then cmp_Or_int.l0 k 0 [x, y] 2 1 else some x) (fun k => ?_) ?_
  · show cmp_Or_int.l0 (k + 1) 0 [x, y] 2 0 = _
    rw [cmp_Or_int.l0, if_pos (by decide), if_pos (by decide), if_pos (by show (0 : Int) < (([x, y] : List Int).length : Int); simp), show rd [x, y] 0 = x from rfl, show wrap64 (0 + 1) = 1 from w64 (by decide) (by decide)]
  by_cases hx : x = 0
  · rw [if_pos hx]
    refine Ev.congr (fun k => if_pos hx) (Ev.step (f := fun k => if y = 0 then cmp_Or_int.l0 k 0 [x, y] 2 2 else some y) (fun k => ?_) ?_)
    · rw [cmp_Or_int.l0, if_pos (by decide), if_pos (by decide), if_pos (by simp), show rd [x, y] 1 = y from rfl, show wrap64 (1 + 1) = 2 from w64 (by decide) (by decide)]
    by_cases hy : y = 0
    · refine Ev.congr (fun k => if_pos hy) (Ev.step (f := fun _ => some 0) (fun k => ?_) (evEq (Ev.now _) hy.symm))
      rw [cmp_Or_int.l0, if_neg (by decide)]
    · exact Ev.congr (fun k => if_neg hy) (Ev.now _)
  · rw [if_neg hx]
    exact Ev.congr (fun k => if_neg hx) (Ev.now _)
theorem cmpS_eq (a b : ByteArray) : cmp_Compare_string.f a b = some (if Op.bytesLess a.toList b.toList = true then -1 else if Op.bytesLess b.toList a.toList = true then 1 else 0) := by
  unfold cmp_Compare_string.f cmp_isNaN_string.f
  have h : ∀ s : ByteArray, (s.toList != s.toList) = false := fun s => by simp
  rw [h, h]
  simp only [Option.bind_some, Bool.false_eq_true, if_false]
  split
  · rfl
  · split <;> rfl
theorem cmpU_eq (a b : Int) : cmp_Compare_uint64.f a b = some (if a < b then -1 else if a > b then 1 else 0) := by
  unfold cmp_Compare_uint64.f cmp_isNaN_uint64.f
  have h : ∀ s : Int, (s != s) = false := fun s => by simp
  rw [h, h]
  simp only [Option.bind_some, Bool.false_eq_true, if_false]
  split
  · rfl
  · split <;> rfl
theorem less_ev {a b : ByteArray} (ha : a.size < 17592186044416) (hb : b.size < 17592186044416) : Ev (fun k => sorted_Less.f k a b) (ltK a b) := by
  unfold sorted_Less.f
  refine Ev.bind (hash_ev ha) (Ev.bind (hash_ev hb) (Ev.bind (evC (cmpU_eq _ _)) (Ev.bind (evC (cmpS_eq a b)) (Ev.bind (or_ev _ _) (evC ?_)))))
  congr 1
  unfold ltK
  by_cases h1 : H a < H b
  · simp [h1]
  by_cases h2 : H a > H b
  · simp [h1, h2, show ¬ H a = H b by omega]
  have h3 : H a = H b := by omega
  by_cases h4 : Op.bytesLess a.toList b.toList = true
  · simp [h3, h4]
  · by_cases h5 : Op.bytesLess b.toList a.toList = true
    · simp [h3, h4, h5]
    · simp [h3, h4, h5]
theorem refLess_ev {a b : ByteArray} (ha : a.size < 17592186044416) (hb : b.size < 17592186044416) : Ev (fun k => loessref22_Less.f k a b) (ltK a b) := by
  unfold loessref22_Less.f
  refine Ev.bind (refHash_ev ha) (Ev.bind (refHash_ev hb) (evC ?_))
  unfold ltK
  by_cases h1 : H a < H b
  · simp [h1]
  by_cases h3 : H a = H b
  · simp [h3]
  · simp [h1, h3]
def recP (p : Pr) : Rc := ⟨p.f0, false, p.f1⟩
def okP (p : Pr) : Bool := mayR (recP p)
def good (L : List Pr) (j : Nat) : Prop := ∃ h : j < L.length, okP L[j] = true ∧ (0 < j → ltK (L[j - 1]'(by omega)).f0 L[j].f0 = true)
def MayP (L : List Pr) : Prop := L.length ≤ 1000 ∧ ∀ j, j < L.length → good L j
theorem MayP.ok {L : List Pr} (h : MayP L) {p : Pr} (hp : p ∈ L) : okP p = true := by
  obtain ⟨j, hj, rfl⟩ := List.getElem_of_mem hp
  exact (h.2 j hj).2.1
theorem MayP.rise {L : List Pr} (h : MayP L) : L.Pairwise (fun p q => ltK p.f0 q.f0 = true) := by
  rw [List.pairwise_iff_getElem]
  intro i j hi hj hij
  have key : ∀ d i (hd : i + d + 1 < L.length), ltK (L[i]'(by omega)).f0 L[i + d + 1].f0 = true := by
    intro d
    induction d with
    | zero =>
      intro i hd
      have := (h.2 (i + 1) (by omega)).2.2 (by omega)
      exact this
    | succ d ih =>
      intro i hd
      have h1 := ih i (by omega)
      have h2 := (h.2 (i + d + 1 + 1) (by omega)).2.2 (by omega)
      exact ltK_trans h1 h2
  have := key (j - i - 1) i (by omega)
  rw [show L[i + (j - i - 1) + 1]'(by omega) = L[j] from by congr 1; omega] at this
  exact this
def addH (acc : List Int) (x : Int) : List Int := if acc.getLast? = some x then acc else acc ++ [x]
def hsL (L : List Pr) : List Int := L.foldl (fun acc p => addH acc (H p.f0)) []
theorem hsL_snoc (L : List Pr) (p : Pr) : hsL (L ++ [p]) = addH (hsL L) (H p.f0) := by unfold hsL; rw [List.foldl_append]; rfl
def lowP (L : List Pr) (h : Int) : Nat := (L.filter (fun p => decide (H p.f0 < h))).length
def ofH (L : List Pr) (h : Int) : List Pr := L.filter (fun p => decide (H p.f0 = h))
def atL (L : List Pr) : List Int := (hsL L).map (fun h => (lowP L h : Int))
def SortH (L : List Pr) : Prop := L.Pairwise (fun p q => H p.f0 ≤ H q.f0)
theorem MayP.sortH {L : List Pr} (h : MayP L) : SortH L := h.rise.imp (fun {p q} g => by
  rcases (ltK_iff _ _).1 g with g | g <;> omega)
theorem rev_ind {α : Type} {P : List α → Prop} (h0 : P []) (h1 : ∀ (L : List α) (x : α), P L → P (L ++ [x])) : ∀ L, P L := by
  have key : ∀ (n : Nat) (L : List α), L.length = n → P L := by
    intro n
    induction n with
    | zero => intro L h; rw [List.eq_nil_of_length_eq_zero h]; exact h0
    | succ n ih =>
      intro L h
      have hne : L ≠ [] := fun e => by rw [e] at h; cases h
      rw [← List.dropLast_concat_getLast hne]
      exact h1 _ _ (ih _ (by rw [List.length_dropLast]; omega))
  exact fun L => key L.length L rfl
theorem hsL_inv : ∀ L : List Pr, SortH L → (hsL L).Pairwise (· < ·) ∧ (∀ p ∈ L, H p.f0 ∈ hsL L) ∧ (∀ h ∈ hsL L, ∃ p ∈ L, H p.f0 = h) ∧ (∀ x, (hsL L).getLast? = some x → ∀ p ∈ L, H p.f0 ≤ x) := by
  refine rev_ind (fun _ => ⟨List.Pairwise.nil, by simp, by simp [hsL], by simp [hsL]⟩) (fun L p ih hs => ?_)
  · skip
    have hs' := List.pairwise_append.1 hs
    obtain ⟨h1, h2, h3, h4⟩ := ih hs'.1
    have hp : ∀ q ∈ L, H q.f0 ≤ H p.f0 := fun q hq => hs'.2.2 q hq p (List.mem_singleton.2 rfl)
    rw [hsL_snoc]
    unfold addH
    by_cases c : (hsL L).getLast? = some (H p.f0)
    · rw [if_pos c]
      refine ⟨h1, fun q hq => ?_, fun h hh => ?_, fun x hx q hq => ?_⟩
      · rcases List.mem_append.1 hq with hq | hq
        · exact h2 q hq
        · rw [List.mem_singleton.1 hq]; exact List.mem_of_getLast? c
      · obtain ⟨q, hq, e⟩ := h3 h hh
        exact ⟨q, List.mem_append_left _ hq, e⟩
      · rw [c] at hx
        injection hx with hx
        rcases List.mem_append.1 hq with hq | hq
        · rw [← hx]; exact hp q hq
        · rw [List.mem_singleton.1 hq, hx]; exact Int.le_refl _
    · rw [if_neg c]
      refine ⟨List.pairwise_append.2 ⟨h1, List.pairwise_singleton _ _, fun h hh x hx => ?_⟩, fun q hq => ?_, fun h hh => ?_, fun x hx q hq => ?_⟩
      · rw [List.mem_singleton.1 hx]
        obtain ⟨q, hq, e⟩ := h3 h hh
        have hle : h ≤ H p.f0 := by rw [← e]; exact hp q hq
        rcases Int.lt_or_eq_of_le hle with hlt | heq
        · exact hlt
        · exfalso
          have hne : hsL L ≠ [] := fun e0 => by rw [e0] at hh; cases hh
          obtain ⟨z, hz⟩ : ∃ z, (hsL L).getLast? = some z := ⟨_, List.getLast?_eq_some_getLast hne⟩
          have hz2 := h4 z hz q hq
          obtain ⟨r, hr, er⟩ := h3 z (List.mem_of_getLast? hz)
          have hz3 := hp r hr
          exact c (by rw [hz]; congr 1; omega)
      · rcases List.mem_append.1 hq with hq | hq
        · exact List.mem_append_left _ (h2 q hq)
        · rw [List.mem_singleton.1 hq]; exact List.mem_append_right _ (List.mem_singleton.2 rfl)
      · rcases List.mem_append.1 hh with hh | hh
        · obtain ⟨q, hq, e⟩ := h3 h hh
          exact ⟨q, List.mem_append_left _ hq, e⟩
        · exact ⟨p, List.mem_append_right _ (List.mem_singleton.2 rfl), (List.mem_singleton.1 hh).symm⟩
      · rw [List.getLast?_append, List.getLast?_singleton] at hx
        have hx : H p.f0 = x := by simpa using hx
        rcases List.mem_append.1 hq with hq | hq
        · rw [← hx]; exact hp q hq
        · rw [List.mem_singleton.1 hq, hx]; exact Int.le_refl _
theorem split_h : ∀ L : List Pr, SortH L → ∀ h : Int, L = L.filter (fun p => decide (H p.f0 < h)) ++ (ofH L h ++ L.filter (fun p => decide (h < H p.f0))) := by
  intro L
  induction L with
  | nil => intro _ _; rfl
  | cons p r ih =>
    intro hs h
    obtain ⟨h1, h2⟩ := List.pairwise_cons.1 hs
    have hi := ih h2 h
    unfold ofH at hi ⊢
    rcases Int.lt_trichotomy (H p.f0) h with c | c | c
    · rw [List.filter_cons_of_pos (by simpa using c), List.filter_cons_of_neg (by simp; omega), List.filter_cons_of_neg (by simp; omega), List.cons_append, ← hi]
    · have e0 : r.filter (fun p => decide (H p.f0 < h)) = [] := List.filter_eq_nil_iff.2 (fun q hq => by have := h1 q hq; simp; omega)
      rw [e0, List.nil_append] at hi
      rw [List.filter_cons_of_neg (by simp; omega), e0, List.filter_cons_of_pos (by simpa using c), List.filter_cons_of_neg (by simp; omega), List.nil_append, List.cons_append, ← hi]
    · have e0 : r.filter (fun p => decide (H p.f0 < h)) = [] := List.filter_eq_nil_iff.2 (fun q hq => by have := h1 q hq; simp; omega)
      have e1 : r.filter (fun p => decide (H p.f0 = h)) = [] := List.filter_eq_nil_iff.2 (fun q hq => by have := h1 q hq; simp; omega)
      rw [e0, e1, List.nil_append, List.nil_append] at hi
      rw [List.filter_cons_of_neg (by simp; omega), e0, List.filter_cons_of_neg (by simp; omega), e1, List.filter_cons_of_pos (by simpa using c), List.nil_append, List.nil_append, ← hi]
theorem take_ab {A B M L : List Pr} (e : L = A ++ (B ++ M)) : (L.take (A.length + B.length)).drop A.length = B := by
  subst e
  rw [← List.append_assoc, List.take_left' (by rw [List.length_append]), List.drop_left' rfl]
theorem cut_h {L : List Pr} (hs : SortH L) (h : Int) : (L.take (lowP L h + (ofH L h).length)).drop (lowP L h) = ofH L h := take_ab (split_h L hs h)
theorem next_h {L : List Pr} (hs : SortH L) {q : Nat} (hq : q + 1 < (hsL L).length) : lowP L ((hsL L)[q + 1]) = lowP L ((hsL L)[q]'(by omega)) + (ofH L ((hsL L)[q]'(by omega))).length := by
  obtain ⟨h1, h2, _, _⟩ := hsL_inv L hs
  have hp := List.pairwise_iff_getElem.1 h1
  have hlt := hp q (q + 1) (by omega) hq (by omega)
  obtain ⟨x, hx⟩ : ∃ x, x = (hsL L)[q]'(by omega) := ⟨_, rfl⟩
  obtain ⟨y, hy⟩ : ∃ y, y = (hsL L)[q + 1] := ⟨_, rfl⟩
  rw [← hx, ← hy] at hlt ⊢
  have e := split_h L hs x
  have e2 : L.filter (fun p => decide (H p.f0 < y)) = L.filter (fun p => decide (H p.f0 < x)) ++ ofH L x := by
    have hup : (L.filter (fun p => decide (x < H p.f0))).filter (fun p => decide (H p.f0 < y)) = [] := by
      refine List.filter_eq_nil_iff.2 (fun p hp' => ?_)
      obtain ⟨hm, hg⟩ := List.mem_filter.1 hp'
      have hg := of_decide_eq_true hg
      obtain ⟨j, hj, ej⟩ := List.getElem_of_mem (h2 p hm)
      simp only [decide_eq_true_eq]
      intro hc
      rw [← ej, hx] at hg
      rw [← ej, hy] at hc
      rcases Nat.lt_trichotomy j q with c | c | c
      · have := hp j q hj (by omega) c; omega
      · subst c; omega
      · rcases Nat.lt_or_eq_of_le (show q + 1 ≤ j by omega) with c2 | c2
        · have := hp (q + 1) j hq hj c2; omega
        · subst c2; omega
    have h3 : (L.filter (fun p => decide (H p.f0 < x))).filter (fun p => decide (H p.f0 < y)) = L.filter (fun p => decide (H p.f0 < x)) := List.filter_eq_self.2 (fun p hp' => by
      have hg := of_decide_eq_true (List.mem_filter.1 hp').2
      simp only [decide_eq_true_eq]
      omega)
    have h4 : (ofH L x).filter (fun p => decide (H p.f0 < y)) = ofH L x := List.filter_eq_self.2 (fun p hp' => by
      have hg := of_decide_eq_true (List.mem_filter.1 hp').2
      simp only [decide_eq_true_eq]
      omega)
    conv => lhs; rw [e]
    rw [List.filter_append, List.filter_append, h3, h4, hup, List.append_nil]
  unfold lowP
  rw [e2, List.length_append]
theorem last_h {L : List Pr} (hs : SortH L) {q : Nat} (hq : q + 1 = (hsL L).length) : L.length = lowP L ((hsL L)[q]'(by omega)) + (ofH L ((hsL L)[q]'(by omega))).length := by
  obtain ⟨h1, h2, _, h4⟩ := hsL_inv L hs
  have hl : (hsL L).getLast? = some ((hsL L)[q]'(by omega)) := by
    rw [List.getLast?_eq_getElem?, show (hsL L).length - 1 = q by omega, List.getElem?_eq_getElem]
  obtain ⟨x, hx⟩ : ∃ x, x = (hsL L)[q]'(by omega) := ⟨_, rfl⟩
  rw [← hx] at hl ⊢
  have e := congrArg List.length (split_h L hs x)
  have e0 : L.filter (fun p => decide (x < H p.f0)) = [] := List.filter_eq_nil_iff.2 (fun p hp => by have := h4 x hl p hp; simp; omega)
  rw [e0, List.append_nil, List.length_append] at e
  exact e
theorem lowP_snoc (L : List Pr) (p : Pr) (h : Int) : lowP (L ++ [p]) h = lowP L h + (if H p.f0 < h then 1 else 0) := by
  unfold lowP
  rw [List.filter_append, List.length_append]
  by_cases c : H p.f0 < h
  · rw [List.filter_cons_of_pos (by simpa using c), if_pos c]; rfl
  · rw [List.filter_cons_of_neg (by simpa using c), if_neg c]; rfl
theorem atL_snoc {L : List Pr} {p : Pr} (hs : SortH (L ++ [p])) : atL (L ++ [p]) = if (hsL L).getLast? = some (H p.f0) then atL L else atL L ++ [(L.length : Int)] := by
  have hs' := List.pairwise_append.1 hs
  obtain ⟨h1, h2, h3, h4⟩ := hsL_inv L hs'.1
  have hp : ∀ q ∈ L, H q.f0 ≤ H p.f0 := fun q hq => hs'.2.2 q hq p (List.mem_singleton.2 rfl)
  have hsame : (hsL L).map (fun h => (lowP (L ++ [p]) h : Int)) = atL L := List.map_congr_left (fun h hh => by
    obtain ⟨q, hq, e⟩ := h3 h hh
    rw [lowP_snoc, if_neg (by have := hp q hq; omega), Nat.add_zero])
  unfold atL at hsame ⊢
  rw [hsL_snoc]
  unfold addH
  by_cases c : (hsL L).getLast? = some (H p.f0)
  · rw [if_pos c, if_pos c, hsame]
  · rw [if_neg c, if_neg c, List.map_append, hsame]
    have e : lowP (L ++ [p]) (H p.f0) = L.length := by
      rw [lowP_snoc, if_neg (by omega), Nat.add_zero]
      unfold lowP
      congr 1
      refine List.filter_eq_self.2 (fun q hq => ?_)
      have hle := hp q hq
      have hne : hsL L ≠ [] := fun e0 => by have := h2 q hq; rw [e0] at this; cases this
      obtain ⟨z, hz⟩ : ∃ z, (hsL L).getLast? = some z := ⟨_, List.getLast?_eq_some_getLast hne⟩
      obtain ⟨r, hr, er⟩ := h3 z (List.mem_of_getLast? hz)
      have g1 := h4 z hz q hq
      have g2 := hp r hr
      simp only [decide_eq_true_eq]
      rcases Int.lt_or_eq_of_le g2 with g | g
      · omega
      · exact absurd (by rw [hz, ← er, g]) c
    rw [List.map_cons, List.map_nil, e]
theorem atL_len (L : List Pr) : (atL L).length = (hsL L).length := by unfold atL; rw [List.length_map]
theorem hsL_len_le : ∀ L : List Pr, (hsL L).length ≤ L.length := by
  refine rev_ind (Nat.le_refl _) (fun L p ih => ?_)
  rw [hsL_snoc, List.length_append, List.length_singleton]
  unfold addH
  split
  · omega
  · rw [List.length_append, List.length_singleton]; omega
theorem hsL_u {L : List Pr} (hs : SortH L) : ∀ x ∈ hsL L, 0 ≤ x ∧ x < 18446744073709551616 := by
  intro x hx
  obtain ⟨p, _, e⟩ := (hsL_inv L hs).2.2.1 x hx
  rw [← e]
  exact H_range _
def findP (L : List Pr) (k : ByteArray) : Option Pr := L.find? (fun p => decide (p.f0 = k))
end Go.Proofs.Ytkhcmddeeodbkaa.Q
namespace Go.Proofs.Ytkhcmddeeodbkaa.GL
open Go.RowKit Go.Proofs.YtkhcmddeeodbkaaW.PrintWords Go.Proofs.YtkhcmddeeodbkaaW.PrintLast Go.Proofs.YtkhcmddeeodbkaaW.PrintMore Go.Proofs.Ytkhcmddeeodbkaa.Q Go.Proofs.Ytkhcmddeeodbkaa.XSor
theorem w64_nat {i : Nat} (h : i < 1000000000000) : wrap64 (i : Int) = (i : Int) := w64 (by omega) (by omega)
theorem w64_seven {r : Nat} (h : r < 8) : wrap64 (7 - (r : Int)) = ((7 - r : Nat) : Int) := by
  have e : (7 - (r : Int)) = ((7 - r : Nat) : Int) := by omega
  rw [e]
  exact w64_nat (by omega)
def byteOf : List Bool → Nat → Int
  | [], _ => 0
  | b :: r, k => (if b = true then 2 ^ (7 - k) else 0) + byteOf r (k + 1)
def pack (L : List Bool) : List Int := (List.range ((L.length + 7) / 8)).map fun j => byteOf ((L.drop (8 * j)).take 8) 0
theorem pack_len (L : List Bool) : (pack L).length = (L.length + 7) / 8 := by unfold pack; simp
theorem pack_get (M : List Bool) (i : Nat) : (pack M)[i]? = if i < (M.length + 7) / 8 then some (byteOf ((M.drop (8 * i)).take 8) 0) else none := by
  unfold pack
  rw [List.getElem?_map]
  by_cases hi : i < (M.length + 7) / 8
  · rw [List.getElem?_range hi, if_pos hi]; rfl
  · rw [List.getElem?_eq_none (by simpa using hi), if_neg hi]; rfl
theorem pack_idx (L : List Bool) (h : L.length % 8 ≠ 0) : L.length / 8 < (pack L).length := by rw [pack_len]; omega
theorem pack_new (L : List Bool) (h : L.length % 8 = 0) : pack (L ++ [false]) = pack L ++ [0] ∧ pack (L ++ [true]) = pack L ++ [128] := by
  have hl : ∀ x, ((L ++ [x]).length + 7) / 8 = (L.length + 7) / 8 + 1 := fun x => by rw [List.length_append, List.length_singleton]; omega
  have hm : (L.length + 7) / 8 = L.length / 8 := by omega
  have key : ∀ x, pack (L ++ [x]) = pack L ++ [byteOf [x] 0] := by
    intro x
    unfold pack
    rw [hl x, List.range_succ, List.map_append]
    congr 1
    · refine List.map_congr_left fun j hj => ?_
      have hj := List.mem_range.1 hj
      congr 1
      rw [List.drop_append_of_le_length (by omega), List.take_append_of_le_length (by rw [List.length_drop]; omega)]
    · have e : 8 * ((L.length + 7) / 8) = L.length := by omega
      rw [List.map_singleton, e, List.drop_left]
      rfl
  exact ⟨key false, key true⟩
theorem byteOf_snoc : ∀ (l : List Bool) (b : Bool) (k : Nat), byteOf (l ++ [b]) k = byteOf l k + (if b = true then 2 ^ (7 - (k + l.length)) else 0) := by
  intro l
  induction l with
  | nil => intro b k; simp [byteOf]
  | cons x r ih =>
    intro b k
    simp only [List.cons_append, byteOf, ih]
    rw [show k + 1 + r.length = k + (x :: r).length by simp only [List.length_cons]; omega]
    omega
theorem pack_old (L : List Bool) (x : Bool) (h : L.length % 8 ≠ 0) : pack (L ++ [x]) = (pack L).set (L.length / 8) ((pack L).getD (L.length / 8) 0 + (if x = true then 2 ^ (7 - L.length % 8) else 0)) := by
  have hl : ((L ++ [x]).length + 7) / 8 = (L.length + 7) / 8 := by rw [List.length_append, List.length_singleton]; omega
  have hlt : L.length / 8 < (L.length + 7) / 8 := by omega
  apply List.ext_getElem?
  intro j
  rw [pack_get, hl, List.getElem?_set, pack_len]
  by_cases hj : j < (L.length + 7) / 8
  · rw [if_pos hj]
    by_cases e : L.length / 8 = j
    · subst e
      rw [if_pos rfl, if_pos hlt, List.getD_eq_getElem?_getD, pack_get, if_pos hlt]
      have hd : (L ++ [x]).drop (8 * (L.length / 8)) = L.drop (8 * (L.length / 8)) ++ [x] := List.drop_append_of_le_length (by omega)
      have h1 : (L.drop (8 * (L.length / 8))).length = L.length % 8 := by rw [List.length_drop]; omega
      rw [hd, List.take_of_length_le (by rw [List.length_append, h1, List.length_singleton]; omega), byteOf_snoc, h1, List.take_of_length_le (by rw [h1]; omega)]
      simp
    · rw [if_neg e, pack_get, if_pos hj]
      congr 2
      rw [List.drop_append_of_le_length (by omega), List.take_append_of_le_length (by rw [List.length_drop]; omega)]
  · rw [if_neg hj, if_neg (by omega), pack_get, if_neg hj]
theorem pack_old0 (L : List Bool) (h : L.length % 8 ≠ 0) : pack (L ++ [false]) = pack L := by
  rw [pack_old L false h]
  apply List.ext_getElem?
  intro j
  rw [List.getElem?_set]
  split
  · rename_i e
    subst e
    split
    · rename_i h2
      simp [List.getD_eq_getElem?_getD, h2]
    · rename_i h2
      rw [List.getElem?_eq_none (by omega)]
  · rfl
theorem byteOf_mod : ∀ (l : List Bool) (k : Nat), k + l.length ≤ 8 → 0 ≤ byteOf l k ∧ byteOf l k + 2 ^ (8 - k - l.length) ≤ 2 ^ (8 - k) ∧ byteOf l k % 2 ^ (8 - k - l.length) = 0 := by
  intro l
  induction l with
  | nil => intro k hk; simp [byteOf]
  | cons b r ih =>
    intro k hk
    simp only [List.length_cons] at hk ⊢
    obtain ⟨h0, h1, h2⟩ := ih (k + 1) (by omega)
    have e : 8 - (k + 1) - r.length = 8 - k - (r.length + 1) := by omega
    rw [e] at h1 h2
    have p : (2 : Int) ^ (8 - k) = 2 ^ (7 - k) + 2 ^ (7 - k) := by rw [show 8 - k = (7 - k) + 1 by omega, Int.pow_succ]; omega
    have e7 : 8 - (k + 1) = 7 - k := by omega
    rw [e7] at h1
    have d : (2 : Int) ^ (7 - k) % 2 ^ (8 - k - (r.length + 1)) = 0 := by
      rw [show 7 - k = (8 - k - (r.length + 1)) + r.length by omega, Int.pow_add]
      exact Int.mul_emod_right _ _
    have q : (0 : Int) < 2 ^ (7 - k) := Int.pow_pos (by decide)
    simp only [byteOf]
    cases b
    · simp only [Bool.false_eq_true, if_false, Int.zero_add]
      exact ⟨h0, by omega, h2⟩
    · simp only [if_true]
      refine ⟨by omega, by omega, ?_⟩
      rw [Int.add_emod, d, h2]
      simp
theorem or8 (r : Nat) (hr : r < 8) {c : Int} (h0 : 0 ≤ c) (h1 : c < 256) (h2 : c % 2 ^ (8 - r) = 0) : Go.bits .or .u8 c (2 ^ (7 - r) % 256) = c + 2 ^ (7 - r) := by
  have e : (2 : Int) ^ (7 - r) % 256 = 2 ^ (7 - r) := by
    have : r = 0 ∨ r = 1 ∨ r = 2 ∨ r = 3 ∨ r = 4 ∨ r = 5 ∨ r = 6 ∨ r = 7 := by omega
    rcases this with rfl | rfl | rfl | rfl | rfl | rfl | rfl | rfl <;> rfl
  rw [e]
  exact bits_join .u8 8 (by decide) wraps_u8 (8 - r) c (2 ^ (7 - r)) h0 h2 h1 (Int.le_of_lt (Int.pow_pos (by decide))) (by rw [show 8 - r = (7 - r) + 1 by omega, Int.pow_succ]; have : (0 : Int) < 2 ^ (7 - r) := Int.pow_pos (by decide); omega) (by omega)
theorem pack_last (L : List Bool) (h : L.length % 8 ≠ 0) : 0 ≤ (pack L).getD (L.length / 8) 0 ∧ (pack L).getD (L.length / 8) 0 < 256 ∧ (pack L).getD (L.length / 8) 0 % 2 ^ (8 - L.length % 8) = 0 := by
  have hlt : L.length / 8 < (L.length + 7) / 8 := by omega
  have h1 : (L.drop (8 * (L.length / 8))).length = L.length % 8 := by rw [List.length_drop]; omega
  rw [List.getD_eq_getElem?_getD, pack_get, if_pos hlt, List.take_of_length_le (by rw [h1]; omega)]
  have := byteOf_mod (L.drop (8 * (L.length / 8))) 0 (by rw [h1]; omega)
  rw [h1] at this
  simp only [Nat.sub_zero, Option.getD_some] at this ⊢
  have q : (0 : Int) < 2 ^ (8 - L.length % 8) := Int.pow_pos (by decide)
  refine ⟨this.1, ?_, this.2.2⟩
  have := this.2.1
  have e : (2 : Int) ^ 8 = 256 := rfl
  omega
theorem pack_old1 (L : List Bool) (h : L.length % 8 ≠ 0) : pack (L ++ [true]) = (pack L).set (L.length / 8) (Go.bits .or .u8 ((pack L).getD (L.length / 8) 0) (2 ^ (7 - L.length % 8) % 256)) := by
  obtain ⟨h0, h1, h2⟩ := pack_last L h
  rw [pack_old L true h, or8 (L.length % 8) (by omega) h0 h1 h2]
  simp
def BitsAt (base : Nat) (w : World) (p : Nat) (v : Value) (L : List Bool) : Prop :=
  w.heap[p]? = some (.cells #[v, .int .i64 L.length] 101 (0, 0)) ∧ base ≤ p ∧ Kd.R (Kd.int .u8) 5 w base (fun k => k ≠ p) v (pack L)
def BO (base : Nat) (w : World) (p : Nat) (L : List Bool) : Prop := ∃ v, BitsAt base w p v L
def KeepT (w w' : World) : Prop := w.heap.size ≤ w'.heap.size ∧ ∀ (k : Nat) (cells : Array Value) (t : Nat) r, w.heap[k]? = some (Obj.cells cells t r) → t ≠ 5 → t ≠ 101 → w'.heap[k]? = some (Obj.cells cells t r)
theorem KeepT.refl (w : World) : KeepT w w := ⟨Nat.le_refl _, fun _ _ _ _ h _ _ => h⟩
theorem KeepT.trans {a b c : World} (h : KeepT a b) (k : KeepT b c) : KeepT a c := ⟨Nat.le_trans h.1 k.1, fun i cs t r hi h5 h35 => k.2 i cs t r (h.2 i cs t r hi h5 h35) h5 h35⟩
theorem KeepT.below {w w' : World} (h : Below w.heap.size w w') : KeepT w w' := ⟨h.size, fun k cs t r hk _ _ => (h.block k (blk_lt hk)).trans hk⟩
theorem KeepT.R {α : Type} {d : Kd α} {e base : Nat} {ok : Nat → Prop} {w w' : World} {v : Value} {xs : List α} (hk : KeepT w w') (h : d.R e w base ok v xs) (hE : ∀ q, q ∈ e :: d.E → q ≠ 5 ∧ q ≠ 101) : d.R e w' base ok v xs :=
  Kd.R_mono (Kd.R_move (Kd.R_bound h) (fun k hb => by
    obtain ⟨_, _, _, q, hq, cells, hc⟩ := hb
    rw [hc]
    exact hk.2 k cells q (0, 0) hc (hE q hq).1 (hE q hq).2)) (fun _ hk => hk.1)
theorem BitsAt.below {base p : Nat} {w w' : World} {v : Value} {L : List Bool} (h : BitsAt base w p v L) (hb : Below w.heap.size w w') : BitsAt base w' p v L := ⟨blk_below h.1 hb, h.2.1, Kd.R_below h.2.2 hb⟩
theorem BO.below {base p : Nat} {w w' : World} {L : List Bool} (h : BO base w p L) (hb : Below w.heap.size w w') : BO base w' p L := h.elim fun v h => ⟨v, h.below hb⟩
def BitsR (w : World) (p : Nat) (L : List Bool) : Prop := ∃ A c, w.heap[p]? = some (.cells #[.slice A (pack L).length c, .int .i64 L.length] 101 (0, 0)) ∧ (pack L).length ≤ c ∧ Kd.C (Kd.int .u8) w A (pack L).length (pack L)
theorem BO.reads {base p : Nat} {w : World} {L : List Bool} (h : BO base w p L) : BitsR w p L := by
  obtain ⟨v, hb, _, hR⟩ := h
  obtain ⟨A, c, rfl, hl, hC⟩ := Kd.R_reads hR
  exact ⟨A, c, hb, hl, hC⟩
theorem BitsR.below {p : Nat} {w w' : World} {L : List Bool} (h : BitsR w p L) (hb : Below w.heap.size w w') : BitsR w' p L := by
  obtain ⟨A, c, hk, hl, hC⟩ := h
  exact ⟨A, c, blk_below hk hb, hl, Kd.C_below hC hb⟩
def BitsP (w : World) (P : Option Addr) (L : List Bool) : Prop := (P = none ∧ L = []) ∨ ∃ p, P = some ⟨p, 0, none⟩ ∧ BitsR w p L
theorem BitsP.below {w w' : World} {P : Option Addr} {L : List Bool} (h : BitsP w P L) (hb : Below w.heap.size w w') : BitsP w' P L := by
  rcases h with h | ⟨p, hp, h⟩
  · exact .inl h
  · exact .inr ⟨p, hp, h.below hb⟩
theorem BO.toP {base p : Nat} {w : World} {L : List Bool} (h : BO base w p L) : BitsP w (some ⟨p, 0, none⟩) L := .inr ⟨p, rfl, h.reads⟩
theorem BitsP.nil (w : World) : BitsP w none [] := .inl ⟨rfl, rfl⟩
theorem BitsP.drewN {w : World} {P : Option Addr} {L : List Bool} (h : BitsP w P L) (n : Nat) : BitsP (w.drewN n) P L := h.below (pw_below_drewN (Below.refl _ _) n)
set_option maxRecDepth 1000000 in
set_option maxHeartbeats 4000000 in
theorem bits_Len {w : World} {P : Option Addr} {L : List Bool} (h : BitsP w P L) :
    Calls Try.prog 90 #[.pointer P] w fun e w' => e = .returned (.int .i64 L.length) ∧ w = w' := by
  rcases h with ⟨rfl, rfl⟩ | ⟨p, rfl, A, c, hBK, _⟩
  · go_enter Try.func90, Try.ntmps90
    go_wp2
    go_ret
    exact ⟨rfl, rfl⟩
  · have hu := Try.underlying101
    have hc1 : w.cell? ⟨p, 1, none⟩ = some (.int .i64 L.length) := (blk_cell hBK 1).trans rfl
    clear hBK
    go_enter Try.func90, Try.ntmps90
    go_wp2
    go_ret
    exact ⟨rfl, rfl⟩
def PutPost (base : Nat) (w : World) (p : Nat) (M : List Bool) (e : Ending) (w' : World) : Prop := e = .returned (.tuple #[]) ∧ BO base w' p M ∧ Below base w w' ∧ KeepT w w'
theorem keep_grown {w w1 : World} {base : Nat} {ok : Nat → Prop} {v : Value} {xs : List Int} (h : Kd.R (Kd.int .u8) 5 w base ok v xs) (hg : w.grownBy w1 v.ownBlock) : KeepT w w1 := by
  refine ⟨hg.size, fun k cs t r hk h5 _ => (hg.block k (blk_lt hk) fun e => ?_).trans hk⟩
  obtain ⟨inner, ho⟩ := Kd.R_own h
  obtain ⟨cells, hc⟩ := own_typed ho k e.symm
  rw [hc] at hk
  injection hk with hk
  injection hk with _ hk
  exact h5 hk.symm
theorem keep_set {w w1 : World} (h : KeepT w w1) {p i : Nat} {cs : Array Value} {t : Nat} (hb : w.heap[p]? = some (.cells cs t (0, 0))) (ht : t = 5 ∨ t = 101) (u : Value) : KeepT w (w1.setCell ⟨p, i, none⟩ u) := by
  refine ⟨Nat.le_trans h.1 (by simp [World.setCell]), fun k cs' t' r hk h5 h35 => ?_⟩
  rw [Below.heap_setCell w1 ⟨p, i, none⟩ u k (fun e => ?_)]
  · exact h.2 k cs' t' r hk h5 h35
  · rw [show k = p from e, hb] at hk
    injection hk with hk
    injection hk with _ hk
    rcases ht with rfl | rfl
    · exact h5 hk.symm
    · exact h35 hk.symm
theorem keep_setn {w w1 : World} (h : KeepT w w1) {p i : Nat} (hp : w.heap.size ≤ p) (u : Value) : KeepT w (w1.setCell ⟨p, i, none⟩ u) := by
  refine ⟨Nat.le_trans h.1 (by simp [World.setCell]), fun k cs' t' r hk h5 h35 => ?_⟩
  rw [Below.heap_setCell w1 ⟨p, i, none⟩ u k (fun e => ?_)]
  · exact h.2 k cs' t' r hk h5 h35
  · have := blk_lt hk
    rw [show k = p from e] at this
    omega
set_option maxRecDepth 1000000 in
set_option maxHeartbeats 8000000 in
theorem bits_Put_new0 (base : Nat) (w : World) (p : Nat) (v : Value) (L : List Bool) (h : BitsAt base w p v L) (hb : base ≤ w.heap.size) (hl : L.length < 1000000000000) (hm : L.length % 8 = 0) :
    Calls Try.prog 89 #[.pointer (some ⟨p, 0, none⟩), .bool false] w (PutPost base w p (L ++ [false])) := by
  have hu := Try.underlying101
  obtain ⟨hBK, hp, hR⟩ := h
  have BK := Aside0.mk hBK
  have HK0 := Aside0.mk hBK
  have HO := Aside0.mk hR
  have HP := Aside0.mk hp
  have HBASE := Aside0.mk hb
  have HB := Aside0.mk (Below.refl base w)
  have hc0 : w.cell? ⟨p, 0, none⟩ = some v := (blk_cell hBK 0).trans rfl
  have hc1 : w.cell? ⟨p, 1, none⟩ = some (.int .i64 L.length) := (blk_cell hBK 1).trans rfl
  have hf0 := blk_frozen hBK 0
  have hmod : ((L.length : Int) % 8 == 0) = true := beq_iff_eq.mpr (by omega)
  have HL := Aside0.mk (show ((pack L).length + 1) * 1 ≤ 140737488355328 by rw [pack_len]; omega)
  have HW := Aside0.mk (show wrap64 ((L.length : Int) + 1) = ((L ++ [false]).length : Int) by rw [w64 (by omega) (by omega), List.length_append, List.length_singleton]; omega)
  have HPK := Aside0.mk (pack_new L hm).1
  clear hBK hp hR hb hl hm
  go_enter Try.func89, Try.ntmps89
  go_wp2_with (first
    | ((with_reducible refine gate_builtin (b := .append) (xs := #[.tmp 16, .tmp 17]) rfl ?_); at_builtin; refine Kd.R_append (Kd.int .u8) (w0 := w) base rfl (.tmp 16) (.tmp 17) 40 5 (.int .u8 0) 1 rfl Try.underlying40 (by kernel_rfl) rfl (by decide) (by omega) v (pack L) 0 [.int .u8 0] (fun k_ => k_ ≠ p) (fun _ => False) rfl rfl ?aP (fun _ hk => hk.elim) ?aF ?aO ?aB ?aS ?aL ?_; (case aP => exact rfl); (case aF => exact (fun k_ hk => by have := blk_lt BK.out; omega)); (case aO => exact HO.out); (case aB => exact HB.out); (case aS => exact HBASE.out); (case aL => exact HL.out); intro v1 w1 ho hb hg hat; obtain ⟨g1, cap1, rfl, _⟩ := Kd.R_form ho (by simp); have n0_ := Aside0.mk (blk_grown BK.out hg (fun e => HO.out.1 p e.symm rfl)); have n1_ := Aside0.mk ho; have n2_ := Aside0.mk hb; have HKT := Aside0.mk (keep_grown HO.out hg); clear BK HO HB hc0 hc1 hf0; have BK := n0_; have HO := n1_; have HB := n2_; clear n0_ n1_ n2_ ho hb hg hat; have hc0 : w1.cell? ⟨p, 0, none⟩ = some v := (blk_cell BK.out 0).trans rfl; have hc1 : w1.cell? ⟨p, 1, none⟩ = some (.int .i64 L.length) := (blk_cell BK.out 1).trans rfl; have hf0 := blk_frozen BK.out 0; have hf1 := blk_frozen BK.out 1))
  go_end0
  have hle : (pack L ++ [0]).length = (pack L).length + 1 := by simp
  rw [hle] at HO
  refine ⟨rfl, ⟨.slice (some ⟨g1, 0, none⟩) ((pack L).length + 1) cap1, ⟨?_, HP.out, ?_⟩⟩, (HB.out.setCell (p := ⟨p, 0, none⟩) HP.out _).setCell (p := ⟨p, 1, none⟩) HP.out _, keep_set (keep_set HKT.out HK0.out (.inr rfl) _) HK0.out (.inr rfl) _⟩
  · rw [HW.out]
    refine blk_put (cs := #[.slice (some ⟨g1, 0, none⟩) ((pack L).length + 1) cap1, .int .i64 L.length]) ?_ 1 _ rfl
    exact blk_put BK.out 0 _ rfl
  · rw [HPK.out]
    exact Kd.R_far (p := ⟨p, 1, none⟩) (Kd.R_far (p := ⟨p, 0, none⟩) HO.out (fun _ h => h) _) (fun _ h => h) _
set_option maxRecDepth 1000000 in
set_option maxHeartbeats 8000000 in
theorem bits_Put_old0 (base : Nat) (w : World) (p : Nat) (v : Value) (L : List Bool) (h : BitsAt base w p v L) (hl : L.length < 1000000000000) (hm : L.length % 8 ≠ 0) :
    Calls Try.prog 89 #[.pointer (some ⟨p, 0, none⟩), .bool false] w (PutPost base w p (L ++ [false])) := by
  have hu := Try.underlying101
  obtain ⟨hBK, hp, hR⟩ := h
  have BK := Aside0.mk hBK
  have HO := Aside0.mk hR
  have HP := Aside0.mk hp
  have HB := Aside0.mk (Below.refl base w)
  have hc1 : w.cell? ⟨p, 1, none⟩ = some (.int .i64 L.length) := (blk_cell hBK 1).trans rfl
  have hf1 := blk_frozen hBK 1
  have hmod : ((L.length : Int) % 8 == 0) = false := beq_eq_false_iff_ne.mpr (by omega)
  have HW := Aside0.mk (show wrap64 ((L.length : Int) + 1) = ((L ++ [false]).length : Int) by rw [w64 (by omega) (by omega), List.length_append, List.length_singleton]; omega)
  have HPK := Aside0.mk (pack_old0 L hm)
  clear hBK hp hR hl hm
  go_enter Try.func89, Try.ntmps89
  go_wp2
  go_end0
  refine ⟨rfl, ⟨v, ⟨?_, HP.out, ?_⟩⟩, HB.out.setCell (p := ⟨p, 1, none⟩) HP.out _, keep_set (KeepT.refl w) BK.out (.inr rfl) _⟩
  · rw [HW.out]
    exact blk_put BK.out 1 _ rfl
  · rw [HPK.out]
    exact Kd.R_far (p := ⟨p, 1, none⟩) HO.out (fun _ h => h) _
end Go.Proofs.Ytkhcmddeeodbkaa.GL
namespace Go.Proofs.Ytkhcmddeeodbkaa.GL
open Go.RowKit Go.Proofs.YtkhcmddeeodbkaaW.PrintWords Go.Proofs.YtkhcmddeeodbkaaW.PrintLast Go.Proofs.YtkhcmddeeodbkaaW.PrintMore Go.Proofs.Ytkhcmddeeodbkaa.Q Go.Proofs.Ytkhcmddeeodbkaa.XSor
set_option maxRecDepth 1000000 in
set_option maxHeartbeats 8000000 in
theorem put_old1_core (w : World) (p g m cap n i r : Nat) (c : Int) (hi0 : (n : Int) / 8 = (i : Int)) (hmr : (n : Int) % 8 = (r : Int)) (hmod : ((r : Int) == 0) = false) (hpg : p ≠ g) (hgp : g ≠ p)
    (hc0 : w.cell? ⟨p, 0, none⟩ = some (.slice (some ⟨g, 0, none⟩) m cap)) (hc1 : w.cell? ⟨p, 1, none⟩ = some (.int .i64 n)) (hf1 : w.frozen? ⟨p, 1, none⟩ = false)
    (hx : w.cell? ⟨g, i, none⟩ = some (.int .u8 c)) (hf : w.frozen? ⟨g, i, none⟩ = false) (hq : (i : Int) < (m : Int)) (hq2 : i < m)
    (hwi : wrap64 (i : Int) = (i : Int)) (hwj : IntKind.i64.wrap (i : Int) = (i : Int)) (hsub : wrap64 (7 - (r : Int)) = ((7 - r : Nat) : Int)) (hsub2 : IntKind.i64.wrap (7 - (r : Int)) = ((7 - r : Nat) : Int)) :
    Calls Try.prog 89 #[.pointer (some ⟨p, 0, none⟩), .bool true] w fun e w' => e = .returned (.tuple #[]) ∧ w' = ((w.setCell ⟨g, i, none⟩ (.int .u8 (Go.bits .or .u8 c (2 ^ (7 - r) % 256)))).setCell ⟨p, 1, none⟩ (.int .i64 (wrap64 ((n : Int) + 1)))).drew := by
  have hu := Try.underlying101
  go_enter Try.func89, Try.ntmps89
  go_wp2
  go_region
  all_goals (go_wp2; go_end0; exact ⟨rfl, rfl⟩)
set_option maxRecDepth 1000000 in
set_option maxHeartbeats 8000000 in
theorem bits_Put_old1 (base : Nat) (w : World) (p : Nat) (v : Value) (L : List Bool) (h : BitsAt base w p v L) (hl : L.length < 1000000000000) (hm : L.length % 8 ≠ 0) :
    Calls Try.prog 89 #[.pointer (some ⟨p, 0, none⟩), .bool true] w (PutPost base w p (L ++ [true])) := by
  obtain ⟨hBK, hp, hR⟩ := h
  have hlt := pack_idx L hm
  obtain ⟨g, cap, rfl, hgb, hgl, cells, HG⟩ := Kd.R_form hR (Nat.lt_of_le_of_lt (Nat.zero_le _) hlt)
  obtain ⟨hx, hf⟩ := Kd.R_celln 0 hR ((L.length / 8 : Nat) : Int) (Int.natCast_nonneg _) (Int.ofNat_lt.2 hlt)
  have hgp : g ≠ p := hR.1 g rfl
  have hRS := (Kd.R_putg hR ((L.length / 8 : Nat) : Int) (Go.bits .or .u8 ((pack L).getD (L.length / 8) 0) (2 ^ (7 - L.length % 8) % 256))).1
  have hi8 : L.length / 8 < 1000000000000 := Nat.lt_of_le_of_lt (Nat.div_le_self _ _) hl
  have hr8 : L.length % 8 < 8 := Nat.mod_lt _ (by decide)
  have hW : wrap64 ((L.length : Int) + 1) = ((L ++ [true]).length : Int) := by rw [w64 (by omega) (by omega), List.length_append, List.length_singleton]; rfl
  refine (put_old1_core w p g (pack L).length cap L.length (L.length / 8) (L.length % 8) ((pack L).getD (L.length / 8) 0) rfl rfl (beq_eq_false_iff_ne.mpr (by omega)) (fun e => hgp e.symm) hgp
    ((blk_cell hBK 0).trans rfl) ((blk_cell hBK 1).trans rfl) (blk_frozen hBK 1) hx hf (Int.ofNat_lt.2 hlt) hlt (w64_nat hi8) ((i64_w _).trans (w64_nat hi8)) (w64_seven hr8) ((i64_w _).trans (w64_seven hr8))).mono ?_
  rintro e w' ⟨rfl, rfl⟩
  refine ⟨rfl, ⟨.slice (some ⟨g, 0, none⟩) (pack L).length cap, ⟨?_, hp, ?_⟩⟩, ((((Below.refl base w).setCell (p := ⟨g, L.length / 8, none⟩) hgb _).setCell (p := ⟨p, 1, none⟩) hp _)).drew, ?_⟩
  · rw [hW]
    exact blk_drew (blk_put (blk_far hBK (fun e => hgp e.symm) _) 1 _ rfl)
  · rw [pack_old1 L hm]
    exact Kd.R_drew (Kd.R_far (p := ⟨p, 1, none⟩) hRS (fun _ h => h) _)
  · exact keep_set (keep_set (KeepT.refl w) HG (.inl rfl) _) hBK (.inr rfl) _
theorem keep_row {w W : World} {base g n c i : Nat} {ok : Nat → Prop} {v u : Value} {xs : List Int} (h : Kd.R (Kd.int .u8) 5 w base ok v xs) (hat : (Value.slice (some ⟨g, 0, none⟩) n c).ownBlock = v.ownBlock ∨ ∃ b, (Value.slice (some ⟨g, 0, none⟩) n c).ownBlock = some b ∧ w.heap.size ≤ b) (hk : KeepT w W) : KeepT w (W.setCell ⟨g, i, none⟩ u) := by
  rcases hat with hat | ⟨b, hb, hle⟩
  · obtain ⟨inner, ho⟩ := Kd.R_own h
    obtain ⟨cells, hc⟩ := own_typed ho g (by rw [← hat]; rfl)
    exact keep_set hk hc (.inl rfl) u
  · have e : g = b := by injection hb
    exact keep_setn hk (by omega) u
theorem last_cell {w1 : World} {base g i cap : Nat} {ok : Nat → Prop} {P : List Int} (ho : Kd.R (Kd.int .u8) 5 w1 base ok (.slice (some ⟨g, 0, none⟩) (P.length + 1) cap) (P ++ [0])) (hi : i = P.length) : w1.cell? ⟨g, i, none⟩ = some (.int .u8 0) ∧ w1.frozen? ⟨g, i, none⟩ = false := by
  obtain ⟨hx, hf⟩ := Kd.R_celln 0 ho (i : Int) (Int.natCast_nonneg _) (by omega)
  refine ⟨?_, hf⟩
  have e : rdOf 0 (P ++ [0]) (i : Int) = 0 := by rw [hi]; simp [rdOf]
  rw [e] at hx
  exact hx
set_option maxRecDepth 1000000 in
set_option maxHeartbeats 8000000 in
theorem bits_Put_new1 (base : Nat) (w : World) (p : Nat) (v : Value) (L : List Bool) (h : BitsAt base w p v L) (hb : base ≤ w.heap.size) (hl : L.length < 1000000000000) (hm : L.length % 8 = 0) :
    Calls Try.prog 89 #[.pointer (some ⟨p, 0, none⟩), .bool true] w (PutPost base w p (L ++ [true])) := by
  have hu := Try.underlying101
  obtain ⟨hBK, hp, hR⟩ := h
  obtain ⟨n, hn⟩ : ∃ n, n = L.length := ⟨_, rfl⟩
  obtain ⟨i, hi⟩ : ∃ i, i = (pack L).length := ⟨_, rfl⟩
  have hni : n = 8 * i := by rw [hi, hn, pack_len]; omega
  have hmod : ((n : Int) % 8 == 0) = true := beq_iff_eq.mpr (by omega)
  have hmr : (n : Int) % 8 = 0 := by omega
  have hi0 : (n : Int) / 8 = (i : Int) := by omega
  have hi8 : i < 1000000000000 := by omega
  have hwi := w64_nat hi8
  have hwj := (i64_w _).trans hwi
  have hq : (i : Int) < ((pack L).length : Int) + 1 := by omega
  have hq2 : i < (pack L).length + 1 := by omega
  have BK := Aside0.mk hBK
  have HK0 := Aside0.mk hBK
  have HO := Aside0.mk hR
  have HP := Aside0.mk hp
  have HBASE := Aside0.mk hb
  have HB := Aside0.mk (Below.refl base w)
  have hc0 : w.cell? ⟨p, 0, none⟩ = some v := (blk_cell hBK 0).trans rfl
  have hc1 : w.cell? ⟨p, 1, none⟩ = some (.int .i64 n) := by rw [hn]; exact (blk_cell hBK 1).trans rfl
  have hf0 := blk_frozen hBK 0
  have HL := Aside0.mk (show ((pack L).length + 1) * 1 ≤ 140737488355328 by rw [← hi]; omega)
  have HW := Aside0.mk (show wrap64 ((n : Int) + 1) = ((L ++ [true]).length : Int) by rw [hn, w64 (by omega) (by omega), List.length_append, List.length_singleton]; rfl)
  have HPK := Aside0.mk (pack_new L hm).2
  have HI := Aside0.mk hi
  have HN := Aside0.mk hn
  have hlen : (pack L ++ [0]).length = (pack L).length + 1 := by rw [List.length_append, List.length_singleton]
  have HLEN := Aside0.mk hlen
  clear hBK hp hR hb hl hm hi hn hni hi8 hlen
  go_enter Try.func89, Try.ntmps89
  go_wp2_with (first
    | ((with_reducible refine gate_builtin (b := .append) (xs := #[.tmp 16, .tmp 17]) rfl ?_); at_builtin; refine Kd.R_append (Kd.int .u8) (w0 := w) base rfl (.tmp 16) (.tmp 17) 40 5 (.int .u8 0) 1 rfl Try.underlying40 (by kernel_rfl) rfl (by decide) (by omega) v (pack L) 0 [.int .u8 0] (fun k_ => k_ ≠ p) (fun _ => False) rfl rfl ?aP (fun _ hk => hk.elim) ?aF ?aO ?aB ?aS ?aL ?_; (case aP => exact rfl); (case aF => exact (fun k_ hk => by have := blk_lt BK.out; omega)); (case aO => exact HO.out); (case aB => exact HB.out); (case aS => exact HBASE.out); (case aL => exact HL.out); intro v1 w1 ho hb hg hat; obtain ⟨g1, cap1, rfl, hgb1, _, cells1, hg1⟩ := Kd.R_form ho (by simp); rw [HLEN.out] at ho; have hgp : g1 ≠ p := ho.1 g1 rfl; have hpg : p ≠ g1 := fun e => hgp e.symm; obtain ⟨hx, hf⟩ := last_cell ho HI.out; have HRS := Aside0.mk (Kd.R_putg ho (i : Int) 128).1; have n0_ := Aside0.mk (blk_grown BK.out hg (fun e => HO.out.1 p e.symm rfl)); have n1_ := Aside0.mk ho; have n2_ := Aside0.mk hb; have HKT := Aside0.mk (keep_grown HO.out hg); have HGB := Aside0.mk hgb1; have HKS := Aside0.mk (fun {W : World} (h_ : KeepT w W) => keep_row HO.out hat h_ (i := i) (u := .int .u8 128)); clear BK HO HB hc0 hc1 hf0; have BK := n0_; have HO := n1_; have HB := n2_; clear n0_ n1_ n2_ ho hb hg hat hgb1 hg1; have hc0 : w1.cell? ⟨p, 0, none⟩ = some v := (blk_cell BK.out 0).trans rfl; have hc1 : w1.cell? ⟨p, 1, none⟩ = some (.int .i64 n) := (by rw [HN.out]; exact (blk_cell BK.out 1).trans rfl); have hf0 := blk_frozen BK.out 0; have hf1 := blk_frozen BK.out 1))
  go_region
  all_goals
    go_wp2
    go_end0
    have hR1 := (Kd.R_putg (Kd.R_far (p := ⟨p, 0, none⟩) HO.out (fun _ h => h) (.slice (some ⟨g1, 0, none⟩) ((pack L).length + 1) cap1)) (i : Int) 128).1
    have hset : (pack L ++ [0]).set (i : Int).toNat 128 = pack L ++ [128] := by
      rw [Int.toNat_natCast, HI.out, List.set_append_right _ _ (Nat.le_refl _), Nat.sub_self]
      rfl
    rw [hset, ← HPK.out] at hR1
    rw [show Go.bits .or .u8 0 128 = 128 from rfl, HW.out]
    refine ⟨rfl, ⟨.slice (some ⟨g1, 0, none⟩) ((pack L).length + 1) cap1, ⟨?_, HP.out, ?_⟩⟩, (((HB.out.setCell (p := ⟨p, 0, none⟩) HP.out _).setCell (p := ⟨g1, i, none⟩) HGB.out _).setCell (p := ⟨p, 1, none⟩) HP.out _).drew, ?_⟩
    · exact blk_drew (blk_put (blk_far (blk_put BK.out 0 _ rfl) hpg _) 1 _ rfl)
    · exact Kd.R_drew (Kd.R_far (p := ⟨p, 1, none⟩) hR1 (fun _ h => h) _)
    · refine keep_set (w1 := (w1.setCell ⟨p, 0, none⟩ _).setCell ⟨g1, i, none⟩ _) ?_ HK0.out (.inr rfl) _
      have hq : KeepT w (w1.setCell ⟨p, 0, none⟩ (.slice (some ⟨g1, 0, none⟩) ((pack L).length + 1) cap1)) := keep_set HKT.out HK0.out (.inr rfl) _
      exact HKS.out hq
theorem bits_Put {base : Nat} {w : World} {p : Nat} {L : List Bool} (x : Bool) (h : BO base w p L) (hb : base ≤ w.heap.size) (hl : L.length < 1000000000000) :
    Calls Try.prog 89 #[.pointer (some ⟨p, 0, none⟩), .bool x] w (PutPost base w p (L ++ [x])) := by
  obtain ⟨v, h⟩ := h
  by_cases hm : L.length % 8 = 0
  · cases x
    · exact bits_Put_new0 base w p v L h hb hl hm
    · exact bits_Put_new1 base w p v L h hb hl hm
  · cases x
    · exact bits_Put_old0 base w p v L h hl hm
    · exact bits_Put_old1 base w p v L h hl hm
end Go.Proofs.Ytkhcmddeeodbkaa.GL
namespace Go.Proofs.Ytkhcmddeeodbkaa.GL
open Go.RowKit Go.Proofs.YtkhcmddeeodbkaaW.PrintWords Go.Proofs.YtkhcmddeeodbkaaW.PrintLast Go.Proofs.YtkhcmddeeodbkaaW.PrintMore Go.Proofs.Ytkhcmddeeodbkaa.Q Go.Proofs.Ytkhcmddeeodbkaa.XSor
theorem byteOf_bit : ∀ (l : List Bool) (k j : Nat), k + l.length ≤ 8 → k + j < 8 → byteOf l k / 2 ^ (7 - (k + j)) % 2 = if l.getD j false = true then 1 else 0 := by
  intro l
  induction l with
  | nil => intro k j _ _; simp [byteOf]
  | cons b r ih =>
    intro k j hk hj
    simp only [List.length_cons] at hk
    obtain ⟨h0, h1, _⟩ := byteOf_mod r (k + 1) (by omega)
    have e7 : 8 - (k + 1) = 7 - k := by omega
    rw [e7] at h1
    have q0 : (0 : Int) < 2 ^ (7 - k - r.length) := Int.pow_pos (by decide)
    have q : (0 : Int) < 2 ^ (7 - k) := Int.pow_pos (by decide)
    simp only [byteOf]
    cases j with
    | zero =>
      simp only [Nat.add_zero, List.getD_cons_zero]
      have hy : byteOf r (k + 1) / 2 ^ (7 - k) = 0 := Int.ediv_eq_zero_of_lt h0 (by omega)
      cases b
      · simp [hy]
      · simp only [if_true]
        rw [Int.add_ediv_of_dvd_left (Int.dvd_refl _), hy, Int.ediv_self (by omega)]
        rfl
    | succ j =>
      simp only [List.getD_cons_succ]
      have := ih (k + 1) j (by omega) (by omega)
      rw [show k + 1 + j = k + (j + 1) by omega] at this
      rw [← this]
      cases b
      · simp
      · simp only [if_true]
        have e : (2 : Int) ^ (7 - k) = 2 ^ (7 - (k + (j + 1))) * (2 * 2 ^ j) := by
          rw [← Int.pow_succ', ← Int.pow_add]
          congr 1
          omega
        have q2 : (2 : Int) ^ (7 - (k + (j + 1))) ≠ 0 := Int.ne_of_gt (Int.pow_pos (by decide))
        rw [Int.add_ediv_of_dvd_left (by rw [e]; exact Int.dvd_mul_right _ _), e, Int.mul_ediv_cancel_left _ q2]
        omega
theorem pack_bit (L : List Bool) (n : Nat) (h : n < L.length) : (pack L).getD (n / 8) 0 / 2 ^ (7 - n % 8) % 2 = if L.getD n false = true then 1 else 0 := by
  have hlt : n / 8 < (L.length + 7) / 8 := by omega
  rw [List.getD_eq_getElem?_getD, pack_get, if_pos hlt, Option.getD_some]
  have hb := byteOf_bit ((L.drop (8 * (n / 8))).take 8) 0 (n % 8) (by rw [List.length_take]; omega) (by omega)
  rw [Nat.zero_add] at hb
  rw [hb]
  have e : ((L.drop (8 * (n / 8))).take 8).getD (n % 8) false = L.getD n false := by
    rw [List.getD_eq_getElem?_getD, List.getD_eq_getElem?_getD, List.getElem?_take, if_pos (by omega), List.getElem?_drop]
    congr 2
    omega
  rw [e]
theorem byteOf_byt : ∀ (l : List Bool) (k : Nat), k + l.length ≤ 8 → 0 ≤ byteOf l k ∧ byteOf l k < 256 := by
  intro l k h
  have := byteOf_mod l k h
  have q0 : (0 : Int) < 2 ^ (8 - k - l.length) := Int.pow_pos (by decide)
  have q1 : (2 : Int) ^ (8 - k) ≤ 2 ^ 8 := by have := Nat.pow_le_pow_right (n := 2) (by decide) (show 8 - k ≤ 8 by omega); exact_mod_cast this
  have e : (2 : Int) ^ 8 = 256 := rfl
  omega
theorem pack_byt (L : List Bool) : Byt (pack L) := by
  intro x hx
  obtain ⟨j, hj⟩ := List.mem_iff_getElem?.1 hx
  rw [pack_get] at hj
  split at hj
  · injection hj with hj
    rw [← hj]
    exact byteOf_byt _ 0 (by rw [List.length_take]; omega)
  · cases hj
theorem byt_getD {l : List Int} (h : Byt l) (n : Nat) : 0 ≤ l.getD n 0 ∧ l.getD n 0 < 256 := by
  rw [List.getD_eq_getElem?_getD]
  cases e : l[n]? with
  | none => simp
  | some x => exact h x (List.mem_of_getElem? e)
theorem and1_u8 {c : Int} {n : Nat} (h0 : 0 ≤ c) (h1 : c < 256) : Go.bits .and .u8 (c / 2 ^ n) 1 = c / 2 ^ n % 2 := by
  have q : (0 : Int) < 2 ^ n := Int.pow_pos (by decide)
  have h2 : 0 ≤ c / 2 ^ n := Int.ediv_nonneg h0 (by omega)
  have h3 : c / 2 ^ n ≤ c := Int.ediv_le_self _ h0
  exact bits_mask .u8 8 (by decide) wraps_u8 1 (by decide) (c / 2 ^ n) h2 (by omega)
def atB (L : List Bool) (i : Int) : Bool := decide (0 ≤ i) && L.getD i.toNat false
set_option maxRecDepth 1000000 in
set_option maxHeartbeats 4000000 in
theorem bits_At_in {w : World} {P : Option Addr} {L : List Bool} (n : Nat) (h : BitsP w P L) (hn : n < L.length) (hl : L.length < 1000000000000) :
    Calls Try.prog 91 #[.pointer P, .int .i64 n] w fun e w' => e = .returned (.bool (L.getD n false)) ∧ w = w' := by
  have hu := Try.underlying101
  rcases h with ⟨rfl, rfl⟩ | ⟨p, rfl, A, c, hBK, hlc, hC⟩
  · cases hn
  · have hq : n / 8 < (pack L).length := by rw [pack_len]; omega
    obtain ⟨ad, rfl, hx⟩ := Kd.at_int hC ((n / 8 : Nat) : Int) (Int.natCast_nonneg _) (Int.ofNat_lt.2 hq)
    have HL := Aside0.mk (show BitsP w (some ⟨p, 0, none⟩) L from .inr ⟨p, rfl, _, c, hBK, hlc, hC⟩)
    have hc0 : w.cell? ⟨p, 0, none⟩ = some (.slice (some ad) (pack L).length c) := (blk_cell hBK 0).trans rfl
    have hx2 : w.cell? (ad.add (n / 8)) = some (.int .u8 ((pack L).getD (n / 8) 0)) := hx
    obtain ⟨b, hb⟩ : ∃ b, b = (pack L).getD (n / 8) 0 := ⟨_, rfl⟩
    obtain ⟨q, hq0⟩ : ∃ q, q = n / 8 := ⟨_, rfl⟩
    obtain ⟨r, hr0⟩ : ∃ r, r = n % 8 := ⟨_, rfl⟩
    have h1 : (n : Int) / 8 = (q : Int) := by omega
    have h2 : (n : Int) % 8 = (r : Int) := by omega
    have h5 : (q : Int) < ((pack L).length : Int) := by omega
    have h8 : q < 1000000000000 := by omega
    have h9 : r < 8 := by omega
    have h6 : decide (n < L.length) = true := decide_eq_true hn
    have h3 := w64_seven h9
    have h4 := w64_nat h8
    rw [← hb, ← hq0] at hx2
    have HB := Aside0.mk hb
    have HQ := Aside0.mk hq0
    have HR := Aside0.mk hr0
    have HN := Aside0.mk hn
    clear hBK hlc hC hx hb hq0 hr0 hq hn hl h8 h9
    go_enter Try.func91, Try.ntmps91
    go_wp2_with (first | (go_at_call 90; refine (bits_Len HL.out).mono ?_; rintro e w' ⟨rfl, rfl⟩))
    go_ret
    refine ⟨?_, rfl⟩
    have hbit := pack_bit L n HN.out
    rw [← HQ.out, ← HR.out] at hbit
    have hbb := byt_getD (pack_byt L) q
    rw [HQ.out, ← HB.out] at hbb
    rw [HQ.out, ← HB.out] at hbit
    show Ending.returned (.bool (Go.bits .and .u8 (b / 2 ^ (7 - r)) 1 == 1)) = _
    rw [and1_u8 hbb.1 hbb.2, hbit]
    cases L.getD n false <;> rfl
set_option maxRecDepth 1000000 in
set_option maxHeartbeats 4000000 in
theorem bits_At_out {w : World} {P : Option Addr} {L : List Bool} (i : Int) (h : BitsP w P L) (hi : i < 0 ∨ (L.length : Int) ≤ i) :
    Calls Try.prog 91 #[.pointer P, .int .i64 i] w fun e w' => e = .returned (.bool false) ∧ w = w' := by
  have HL := Aside0.mk h
  by_cases h0 : i < 0
  · have h7 : ¬ (0 : Int) ≤ i := by omega
    have h8 := decide_eq_false h7
    clear h hi
    go_enter Try.func91, Try.ntmps91
    go_wp2
    go_ret
    exact ⟨rfl, rfl⟩
  · have h7 : 0 ≤ i := by omega
    have h8 : decide (i < (L.length : Int)) = false := decide_eq_false (by omega)
    clear h hi h0
    go_enter Try.func91, Try.ntmps91
    go_wp2_with (first | (go_at_call 90; refine (bits_Len HL.out).mono ?_; rintro e w' ⟨rfl, rfl⟩))
    go_ret
    exact ⟨rfl, rfl⟩
theorem bits_At {w : World} {P : Option Addr} {L : List Bool} (i : Int) (h : BitsP w P L) (hl : L.length < 1000000000000) :
    Calls Try.prog 91 #[.pointer P, .int .i64 i] w fun e w' => e = .returned (.bool (atB L i)) ∧ w = w' := by
  by_cases hi : i < 0 ∨ (L.length : Int) ≤ i
  · have e : atB L i = false := by
      unfold atB
      rcases hi with hi | hi
      · rw [decide_eq_false (by omega), Bool.false_and]
      · rw [List.getD_eq_getElem?_getD, List.getElem?_eq_none (by omega)]
        simp
    rw [e]
    exact bits_At_out i h hi
  · obtain ⟨n, rfl⟩ := Int.eq_ofNat_of_zero_le (show 0 ≤ i by omega)
    have e : atB L (n : Int) = L.getD n false := by
      unfold atB
      rw [decide_eq_true (by omega), Bool.true_and]
      rfl
    rw [e]
    exact bits_At_in n h (by omega) hl
end Go.Proofs.Ytkhcmddeeodbkaa.GL
