/- package dir and its laws' helpers in plain Lean. -/
import Derived.Test.YtoffcgdamcchcaaGDirM
import Derived.Test.YtoffcgdamcchcaaQNumRef
import Derived.Test.YtoffcgdamcchcaaXDirx12
import Derived.Test.YtoffcgdamcchcaaXDirx20
import Derived.Test.YtoffcgdamcchcaaXDirx23
import Derived.Test.YtoffcgdamcchcaaXDirx19
import Derived.Test.YtoffcgdamcchcaaXDirx26
import Derived.Test.YtoffcgdamcchcaaXDirx15
import Derived.Test.YtoffcgdamcchcaaXDirx18
set_option linter.unusedVariables false
set_option linter.unusedSimpArgs false
namespace Go.Proofs.Ytoffcgdamcchcaa.Q
open Go.RowKit Go.Proofs.YtoffcgdamcchcaaW.PrintWords Go.Proofs.YtoffcgdamcchcaaW.PrintMore Go.Proofs.Ytoffcgdamcchcaa.XDir Go.Proofs.Ytoffcgdamcchcaa.GL
theorem oneD_put {x : Ent} (h : OkE x) (rest : List Int) : oneD (encE x ++ rest) = (x, ((encE x).length : Int)) := by
  obtain ⟨i1, i2, i3⟩ := ok_i64 h
  have hs : x.f0.size ≤ 65536 := by unfold OkE at h; omega
  have e0 : encE x ++ rest = putT x.f0 ++ (putN x.f1 ++ (putN x.f2.f0 ++ (putN x.f2.f1 ++ rest))) := by unfold encE; simp only [List.append_assoc]
  have e1 : (encE x).length = (putT x.f0).length + (putN x.f1).length + (putN x.f2.f0).length + (putN x.f2.f1).length := by unfold encE; simp only [List.length_append]
  rw [e0, e1]
  obtain ⟨L, hL⟩ : ∃ L, L = putT x.f0 ++ (putN x.f1 ++ (putN x.f2.f0 ++ (putN x.f2.f1 ++ rest))) := ⟨_, rfl⟩
  have g0 : getT L = (x.f0, ((putT x.f0).length : Int), 0) := by rw [hL]; exact getT_put hs _
  have d1 : L.drop ((putT x.f0).length : Int).toNat = putN x.f1 ++ (putN x.f2.f0 ++ (putN x.f2.f1 ++ rest)) := by rw [hL, Int.toNat_natCast]; exact List.drop_left
  have d2 : L.drop (((putT x.f0).length : Int) + ((putN x.f1).length : Int)).toNat = putN x.f2.f0 ++ (putN x.f2.f1 ++ rest) := by
    rw [show (((putT x.f0).length : Int) + ((putN x.f1).length : Int)).toNat = ((putT x.f0).length : Int).toNat + (putN x.f1).length by omega, ← List.drop_drop, d1]
    exact List.drop_left
  have d3 : L.drop (((putT x.f0).length : Int) + ((putN x.f1).length : Int) + ((putN x.f2.f0).length : Int)).toNat = putN x.f2.f1 ++ rest := by
    rw [show (((putT x.f0).length : Int) + ((putN x.f1).length : Int) + ((putN x.f2.f0).length : Int)).toNat = (((putT x.f0).length : Int) + ((putN x.f1).length : Int)).toNat + (putN x.f2.f0).length by omega, ← List.drop_drop, d2]
    exact List.drop_left
  rw [← hL]
  unfold oneD
  rw [g0]
  simp only [if_true]
  rw [nums3_succ, d1, getN_put i1]
  simp only [if_true]
  rw [nums3_succ, d2, getN_put i2]
  simp only [if_true]
  rw [nums3_succ, d3, getN_put i3]
  simp only [if_true]
  refine Prod.ext rfl ?_
  show (((putT x.f0).length : Int) + ((putN x.f1).length : Int) + ((putN x.f2.f0).length : Int) + ((putN x.f2.f1).length : Int)) = _
  omega
theorem encE_pos (x : Ent) : 0 < (encE x).length := by
  have := putN_pos x.f1
  unfold encE
  simp only [List.length_append]
  omega
theorem readE_put : ∀ (r : List Ent) (pre : List Int) (acc : List Ent), (∀ x ∈ r, OkE x) → readE (pre ++ r.flatMap encE) r.length (pre.length : Int) acc = some (acc ++ r) := by
  intro r
  induction r with
  | nil => intro pre acc _; simp [readE]
  | cons x r ih =>
    intro pre acc h
    have hp := encE_pos x
    rw [List.length_cons, readE_succ, List.flatMap_cons, Int.toNat_natCast, List.drop_left, oneD_put (h x List.mem_cons_self)]
    simp only
    rw [if_neg (by omega)]
    have := ih (pre ++ encE x) (acc ++ [x]) (fun y hy => h y (List.mem_cons_of_mem _ hy))
    rw [List.append_assoc, List.append_assoc, List.length_append, Int.natCast_add] at this
    exact this
theorem decD_enc {l : List Ent} (h : mayD l = true) : decD (encD l) = (l, 0) := by
  have h1 := ((mayD_iff l).1 h).1
  have hg : getN (encD l) = ((l.length : Int), ((putN (l.length : Int)).length : Int), 0) := by unfold encD; exact getN_put (by unfold I64; omega) _
  unfold decD
  rw [hg]
  simp only
  rw [if_pos ⟨by first | trivial | rfl, by omega, by omega⟩, Int.toNat_natCast]
  have := readE_put l (putN (l.length : Int)) [] (mayD_mem h)
  rw [List.nil_append] at this
  rw [show encD l = putN (l.length : Int) ++ l.flatMap encE from rfl, this]
  exact if_pos ⟨h, rfl⟩
theorem decD_cases (b : List Int) : ((decD b).2 = 0 ∧ mayD (decD b).1 = true ∧ encD (decD b).1 = b) ∨ decD b = ([], 8) := by
  unfold decD
  split
  · cases readE b (getN b).1.toNat (getN b).2.1 [] with
    | none => exact .inr rfl
    | some r =>
      by_cases h : mayD r = true ∧ encD r = b
      · rw [show finD b (some r) = (r, 0) from if_pos h]
        exact .inl ⟨rfl, h.1, h.2⟩
      · exact .inr (if_neg h)
  · exact .inr rfl
theorem decD_nil : decD [] = ([], 8) := by
  have : getN [] = (0, 0, 2) := rfl
  unfold decD
  rw [this, if_neg (fun h => by cases h.1)]
theorem ra_drop {l : List Ent} {i : Nat} (h : i < l.length) : l.drop i = ra l i :: l.drop (i + 1) := by
  rw [List.drop_eq_getElem_cons h]
  congr 1
  simp [rd_T32, h]
theorem ent_ext {x y : Ent} : (x.f0.toList = y.f0.toList ∧ x.f1 = y.f1 ∧ x.f2.f0 = y.f2.f0 ∧ x.f2.f1 = y.f2.f1) ↔ x = y := by
  constructor
  · rintro ⟨h1, h2, h3, h4⟩
    obtain ⟨a, b, c, d⟩ := x
    obtain ⟨a', b', c', d'⟩ := y
    simp only at h1 h2 h3 h4
    rw [toList_inj h1, h2, h3, h4]
  · rintro rfl; exact ⟨rfl, rfl, rfl, rfl⟩
instance : DecidableEq Ent := fun x y => decidable_of_iff _ (ent_ext (x := x) (y := y))
theorem eq_l (a b : List Ent) (hl : a.length = b.length) (hb : a.length ≤ 9223372036854775807) : ∀ (d i : Nat), i + d = a.length → Ev (fun k => loesslaw14_eq.l0 k a b (i : Int)) (decide (a.drop i = b.drop i)) := by
  intro d
  induction d with
  | zero =>
    intro i h
    refine Ev.step (f := fun _ => some true) (fun k => ?_) (evEq (Ev.now _) ?_)
    · simp only [loesslaw14_eq.l0]
      rw [if_neg (by omega)]
    · rw [List.drop_of_length_le (by omega), List.drop_of_length_le (by omega)]
      simp
  | succ d ih =>
    intro i h
    have hrec := ih (i + 1) (by omega)
    rw [ra_drop (l := a) (by omega), ra_drop (l := b) (by omega)]
    refine Ev.step (fun k => by simp only [loesslaw14_eq.l0]; rfl) ?_
    refine Ev.congr (fun k => if_pos (by omega)) (Ev.congr (fun k => if_pos (by omega)) (Ev.congr (fun k => if_pos (by omega)) ?_))
    rw [w64 (x := (i : Int) + 1) (by omega) (by omega)]
    by_cases hx : ra a i = ra b i
    · obtain ⟨h1, h2, h3, h4⟩ := ent_ext.2 hx
      refine Ev.congr (fun k => if_pos h1) (Ev.congr (fun k => if_pos h2) (Ev.congr (fun k => if_pos h3) (Ev.congr (fun k => if_pos h4) ?_)))
      rw [hx]
      exact evEq hrec (decide_eq_decide.2 (by simp))
    · rw [decide_eq_false (fun h => hx (List.cons.inj h).1)]
      by_cases h1 : (ra a i).f0.toList = (ra b i).f0.toList
      · refine Ev.congr (fun k => if_pos h1) ?_
        by_cases h2 : (ra a i).f1 = (ra b i).f1
        · refine Ev.congr (fun k => if_pos h2) ?_
          by_cases h3 : (ra a i).f2.f0 = (ra b i).f2.f0
          · refine Ev.congr (fun k => if_pos h3) ?_
            exact Ev.congr (fun k => if_neg (fun h4 => hx (ent_ext.1 ⟨h1, h2, h3, h4⟩))) (Ev.now _)
          · exact Ev.congr (fun k => if_neg h3) (Ev.now _)
        · exact Ev.congr (fun k => if_neg h2) (Ev.now _)
      · exact Ev.congr (fun k => if_neg h1) (Ev.now _)
theorem eq_ev (a b : List Ent) (hb : a.length ≤ 9223372036854775807) : Ev (fun k => loesslaw14_eq.f k a b) (decide (a = b)) := by
  unfold loesslaw14_eq.f
  by_cases h : a.length = b.length
  · refine Ev.congr (fun k => if_pos (by omega)) ?_
    exact eq_l a b h hb a.length 0 (by omega)
  · refine Ev.congr (fun k => if_neg (by omega)) (evEq (Ev.now _) ?_)
    rw [decide_eq_false (fun e => h (by rw [e]))]
theorem lmay_l (l : List Ent) (hl : l.length ≤ 9223372036854775807) : ∀ (d i : Nat), i + d = l.length → Ev (fun k => loesslaw14_may.l0 k l (i : Int)) (mayA l d) := by
  intro d
  induction d with
  | zero =>
    intro i h
    refine Ev.step (f := fun _ => some (mayA l 0)) (fun k => ?_) (Ev.now _)
    simp only [loesslaw14_may.l0]
    rw [if_neg (by omega)]
    unfold mayA
    congr 1
    exact decide_eq_decide.2 (by omega)
  | succ d ih =>
    intro i h
    have hrec := ih (i + 1) (by omega)
    have hi : l.length - (d + 1) = i := by omega
    have hbad : ∀ x59 : Bool, x59 = true → Ev (fun k => loesslaw14_may.j1 k l (i : Int) x59 (ra l i).f0 (ra l i).f1 (ra l i).f2.f0 (ra l i).f2.f1) false := fun x59 hx =>
      Ev.step (fun k => by simp only [loesslaw14_may.j1]; rfl) (Ev.congr (fun k => if_pos hx) (Ev.now _))
    have hgood : ∀ x59 : Bool, x59 = false → Ev (fun k => loesslaw14_may.j1 k l (i : Int) x59 (ra l i).f0 (ra l i).f1 (ra l i).f2.f0 (ra l i).f2.f1) (decide (0 ≤ (ra l i).f2.f0 ∧ (ra l i).f2.f0 ≤ 2048 ∧ ((ra l i).f2.f1 ≠ 0 ∨ (ra l i).f2.f0 = 0)) && mayA l d) := fun x59 hx => by
      refine Ev.step (fun k => by simp only [loesslaw14_may.j1]; rfl) (Ev.congr (fun k => if_neg (by rw [hx]; decide)) ?_)
      rw [w64 (x := (i : Int) + 1) (by omega) (by omega)]
      by_cases h1 : (ra l i).f2.f0 < 0
      · rw [decide_eq_false (by omega)]
        exact Ev.congr (fun k => if_pos h1) (Ev.now _)
      refine Ev.congr (fun k => if_neg h1) ?_
      by_cases h2 : (ra l i).f2.f0 > 2048
      · rw [decide_eq_false (by omega)]
        exact Ev.congr (fun k => if_pos h2) (Ev.now _)
      refine Ev.congr (fun k => if_neg h2) ?_
      by_cases h3 : (ra l i).f2.f1 = 0
      · refine Ev.congr (fun k => if_pos h3) ?_
        by_cases h4 : (ra l i).f2.f0 = 0
        · rw [decide_eq_true (by omega)]
          exact Ev.congr (fun k => if_pos h4) hrec
        · rw [decide_eq_false (by omega)]
          exact Ev.congr (fun k => if_neg h4) (Ev.now _)
      · rw [decide_eq_true (by omega)]
        exact Ev.congr (fun k => if_neg h3) hrec
    have hmid : (1 ≤ (ra l i).f0.size ∧ (ra l i).f0.size ≤ 20) → (0 < i → Op.bytesLess (ra l (i - 1)).f0.toList (ra l i).f0.toList = true) → Ev (fun k => if (ra l i).f1 < 0 then (loesslaw14_may.j1 k l (i : Int) true (ra l i).f0 (ra l i).f1 (ra l i).f2.f0 (ra l i).f2.f1) else (if (ra l i).f1 > 65536 then (loesslaw14_may.j1 k l (i : Int) true (ra l i).f0 (ra l i).f1 (ra l i).f2.f0 (ra l i).f2.f1) else (loesslaw14_may.j1 k l (i : Int) ((ra l i).f2.f1 != (wrap64 (Int.tdiv (wrap64 ((ra l i).f1 + 63)) 64))) (ra l i).f0 (ra l i).f1 (ra l i).f2.f0 (ra l i).f2.f1))) (stepE l i && mayA l d) := by
      intro hn hless
      have hless2 : (i == 0 || Op.bytesLess (ra l (i - 1)).f0.toList (ra l i).f0.toList) = true := by
        by_cases h0 : i = 0
        · simp [h0]
        · rw [hless (by omega)]; simp
      unfold stepE
      rw [hless2, Bool.and_true]
      by_cases h1 : (ra l i).f1 < 0
      · rw [decide_eq_false (fun h => by unfold OkE at h; omega)]
        exact Ev.congr (fun k => if_pos h1) (hbad true rfl)
      refine Ev.congr (fun k => if_neg h1) ?_
      by_cases h2 : (ra l i).f1 > 65536
      · rw [decide_eq_false (fun h => by unfold OkE at h; omega)]
        exact Ev.congr (fun k => if_pos h2) (hbad true rfl)
      refine Ev.congr (fun k => if_neg h2) ?_
      have hs : wrap64 (Int.tdiv (wrap64 ((ra l i).f1 + 63)) 64) = ((ra l i).f1 + 63) / 64 := by
        rw [w64 (x := (ra l i).f1 + 63) (by omega) (by omega), Int.tdiv_eq_ediv_of_nonneg (by omega), w64 (by omega) (by omega)]
      rw [hs]
      by_cases h3 : (ra l i).f2.f1 = ((ra l i).f1 + 63) / 64
      · refine evEq (hgood _ (by simp [h3])) ?_
        congr 1
        refine decide_eq_decide.2 ?_
        unfold OkE
        omega
      · rw [decide_eq_false (fun h => by unfold OkE at h; omega)]
        exact hbad _ (by simp [h3])
    refine Ev.step (fun k => by simp only [loesslaw14_may.l0]; rfl) ?_
    refine Ev.congr (fun k => if_pos (by omega)) (Ev.congr (fun k => if_pos (by omega)) ?_)
    show Ev _ (stepE l (l.length - (d + 1)) && mayA l d)
    rw [hi]
    by_cases h1 : ((ra l i).f0.size : Int) < 1
    · unfold stepE
      rw [decide_eq_false (fun h => by unfold OkE at h; omega)]
      exact Ev.congr (fun k => if_pos h1) (hbad true rfl)
    refine Ev.congr (fun k => if_neg h1) ?_
    by_cases h2 : ((ra l i).f0.size : Int) > 20
    · unfold stepE
      rw [decide_eq_false (fun h => by unfold OkE at h; omega)]
      exact Ev.congr (fun k => if_pos h2) (hbad true rfl)
    refine Ev.congr (fun k => if_neg h2) ?_
    by_cases h0 : i = 0
    · subst h0
      refine Ev.congr (fun k => if_neg (by omega)) ?_
      exact hmid (by omega) (fun h => by omega)
    · refine Ev.congr (fun k => if_pos (by omega)) ?_
      have e : ((i : Int) - 1) = ((i - 1 : Nat) : Int) := by omega
      rw [w64 (x := (i : Int) - 1) (by omega) (by omega), e]
      refine Ev.congr (fun k => if_pos (by omega)) (Ev.congr (fun k => if_pos (by omega)) ?_)
      by_cases h3 : Op.bytesLess (ra l (i - 1)).f0.toList (ra l i).f0.toList = true
      · refine Ev.congr (fun k => if_pos h3) ?_
        exact hmid (by omega) (fun _ => h3)
      · have : stepE l i = false := by
          unfold stepE
          rw [Bool.eq_false_iff.2 h3]
          simp [h0]
        rw [this]
        exact Ev.congr (fun k => if_neg h3) (hbad true rfl)
theorem lmay_ev (l : List Ent) (hl : l.length ≤ 9223372036854775807) : Ev (fun k => loesslaw14_may.f k l) (mayD l) := lmay_l l hl l.length 0 (by omega)
/-- An entry that is not too long. -/
def SmE (x : Ent) : Prop := x.f0.size ≤ 22 ∧ I64 x.f1 ∧ I64 x.f2.f0 ∧ I64 x.f2.f1
theorem SmE.of_ok {x : Ent} (h : OkE x) : SmE x := ⟨by unfold OkE at h; omega, ok_i64 h⟩
theorem encE_sm {x : Ent} (h : SmE x) : (encE x).length ≤ 62 := by
  obtain ⟨h0, h1, h2, h3⟩ := h
  have a1 := putN_len h1
  have a2 := putN_len h2
  have a3 := putN_len h3
  have a4 := putN_len (n := (x.f0.size : Int)) (by unfold I64; omega)
  unfold encE putT
  simp only [List.length_append, bytesOf_length]
  omega
theorem flat_sm {l : List Ent} (h : ∀ x ∈ l, SmE x) : (l.flatMap encE).length ≤ 62 * l.length := by
  induction l with
  | nil => simp
  | cons x r ih =>
    have := encE_sm (h x List.mem_cons_self)
    have := ih (fun y hy => h y (List.mem_cons_of_mem _ hy))
    simp only [List.flatMap_cons, List.length_append, List.length_cons]
    omega
theorem bytes_l (l : List Ent) (hl : l.length ≤ 40) (h : ∀ x ∈ l, SmE x) : ∀ (d i : Nat), i + d = l.length → Ev (fun k => loesslaw14_bytes.l0 k l (encP l i) (i : Int)) (encD l) := by
  intro d
  induction d with
  | zero =>
    intro i hi
    refine Ev.step (f := fun _ => some (encP l i)) (fun k => ?_) (evEq (Ev.now _) (encP_end l (by omega)))
    simp only [loesslaw14_bytes.l0]
    rw [if_neg (by omega)]
  | succ d ih =>
    intro i hi
    have hrec := ih (i + 1) (by omega)
    rw [encP_step (show i < l.length by omega)] at hrec
    have hx : SmE (ra l i) := by
      have hlt : i < l.length := by omega
      have e : ra l i = l[i] := by simp [rd_T32, hlt]
      rw [e]
      exact h _ (List.getElem_mem hlt)
    obtain ⟨g0, g1, g2, g3⟩ := hx
    have hp : (encP l i).length ≤ 3000 := by
      have h2 := flat_sm (l := l.take i) (fun x hx => h x (List.mem_of_mem_take hx))
      have h3 := putN_len (n := (l.length : Int)) (by unfold I64; omega)
      have h4 : (l.take i).length ≤ l.length := by rw [List.length_take]; omega
      unfold encP
      rw [List.length_append]
      omega
    have p0 : (putT (ra l i).f0).length ≤ 32 := by
      have := putN_len (n := ((ra l i).f0.size : Int)) (by unfold I64; omega)
      unfold putT
      rw [List.length_append, bytesOf_length]
      omega
    have p0r : (putT (rd_T32 l (i : Int)).f0).length ≤ 32 := p0
    have p1 : (putN (rd_T32 l (i : Int)).f1).length ≤ 10 := putN_len g1
    have p2 : (putN (rd_T32 l (i : Int)).f2.f0).length ≤ 10 := putN_len g2
    have p3 : (putN (rd_T32 l (i : Int)).f2.f1).length ≤ 10 := putN_len g3
    refine Ev.step (fun k => by simp only [loesslaw14_bytes.l0]; rfl) ?_
    refine Ev.congr (fun k => if_pos (by omega)) (Ev.congr (fun k => if_pos (by omega)) ?_)
    refine Ev.bind (ref_PutText_ev (s := (ra l i).f0) (by omega)) (Ev.congr (fun k => if_pos (by omega)) ?_)
    simp only [Option.bind_some]
    refine Ev.bind (ref_Put_ev g1) (Ev.congr (fun k => if_pos (by simp only [List.length_append]; omega)) ?_)
    refine Ev.bind (ref_Put_ev g2) (Ev.congr (fun k => if_pos (by simp only [List.length_append]; omega)) ?_)
    refine Ev.bind (ref_Put_ev g3) (Ev.congr (fun k => if_pos (by simp only [List.length_append]; omega)) ?_)
    rw [w64 (x := (i : Int) + 1) (by omega) (by omega)]
    exact hrec
theorem bytes_ev (l : List Ent) (hl : l.length ≤ 40) (h : ∀ x ∈ l, SmE x) : Ev (fun k => loesslaw14_bytes.f k l) (encD l) := by
  unfold loesslaw14_bytes.f
  refine Ev.bind (ref_Put_ev (n := (l.length : Int)) (by unfold I64; omega)) ?_
  have := bytes_l l hl h l.length 0 (by omega)
  unfold encP at this
  simpa using this
theorem tells_ev (b : List Int) (hb : Byt b) (hl : b.length < 4611686018427387904) : Ev (fun k => loesslaw14_tells.f k b) true := by
  unfold loesslaw14_tells.f
  refine Ev.bind (evC (show dir_Decode.f b = some (decD b) by unfold dir_Decode.f; rw [if_pos ⟨hb, hl⟩])) ?_
  rcases decD_cases b with ⟨h1, h2, h3⟩ | h
  · have hle := ((mayD_iff _).1 h2).1
    refine Ev.congr (fun k => if_pos h1) (Ev.bind (lmay_ev _ (by omega)) ?_)
    rw [h2]
    refine Ev.congr (fun k => if_pos rfl) (Ev.bind (bytes_ev _ (by omega) (fun x hx => SmE.of_ok (mayD_mem h2 x hx))) (evC ?_))
    rw [h3]
    simp
  · rw [h]
    exact Ev.congr (fun k => if_neg (by decide)) (Ev.congr (fun k => if_pos rfl) (Ev.now _))
theorem decF {b : List Int} (hb : Byt b) (hl : b.length < 4611686018427387904) : dir_Decode.f b = some (decD b) := by unfold dir_Decode.f; rw [if_pos ⟨hb, hl⟩]
theorem encO_of {l : List Ent} (h : mayD l = true) : encO l = encD l := by unfold encO; rw [if_pos h]
theorem encD_len {l : List Ent} (h : mayD l = true) : (encD l).length ≤ 2000 := by
  rw [← encP_end l (Nat.le_refl _)]
  exact encP_len h _
theorem encO_pos (l : List Ent) : decide (((encO l).length : Int) > 0) = mayD l := by
  by_cases h : mayD l = true
  · rw [encO_of h, h]
    have := putN_pos (l.length : Int)
    refine decide_eq_true ?_
    unfold encD
    rw [List.length_append]
    omega
  · unfold encO
    rw [if_neg h, Bool.eq_false_iff.2 h]
    rfl
theorem decF_enc {l : List Ent} (h : mayD l = true) : dir_Decode.f (encO l) = some (l, 0) := by
  rw [encO_of h, decF (encD_byt l) (by have := encD_len h; omega), decD_enc h]
theorem mayD_one (x : Ent) : mayD [x] = decide (OkE x) := by
  show (stepE [x] 0 && decide (1 ≤ 32)) = _
  unfold stepE
  simp [rd_T32]
def EA : Ent := ⟨(⟨#[97]⟩ : ByteArray), 65, ⟨9, 2⟩⟩
theorem ok_EA : OkE EA := by
  have : EA.f0.size = 1 := rfl
  unfold OkE
  rw [this]
  decide
theorem dir_begun : Ev (fun k => loesslaw14_begun.f k) true := by
  have hm : mayD [EA] = true := by rw [mayD_one]; exact decide_eq_true ok_EA
  have hm0 : mayD [] = true := rfl
  unfold loesslaw14_begun.f
  simp only [Option.bind_some]
  refine Ev.bind (evC (show dir_Encode.f [EA] = some (encO [EA]) from rfl)) ?_
  refine Ev.bind (evC (decF_enc hm)) ?_
  refine Ev.bind (evC (show dir_Decode.f [] = some ([], 8) by rw [decF Byt.nil (by decide), decD_nil])) ?_
  refine Ev.bind (evEq (dir_May_ev [EA] (by decide)) hm) (Ev.congr (fun k => if_pos rfl) ?_)
  refine Ev.bind (evEq (dir_May_ev [] (by decide)) hm0) (Ev.congr (fun k => if_pos rfl) ?_)
  refine Ev.congr (fun k => if_pos rfl) (Ev.bind (evEq (eq_ev [EA] [EA] (by decide)) (decide_eq_true (rfl : [EA] = [EA]))) (Ev.congr (fun k => if_pos rfl) (Ev.congr (fun k => if_pos rfl) ?_)))
  have h1 : dir_Find.f [EA] (⟨#[97]⟩ : ByteArray) = some 0 := by
    show some (if EA.f0.toList = (⟨#[97]⟩ : ByteArray).toList then _ else _) = _
    rw [if_pos (show EA.f0.toList = (⟨#[97]⟩ : ByteArray).toList from rfl)]
  have h2 : dir_Find.f [EA] (⟨#[98]⟩ : ByteArray) = some (-1) := by
    show some (if _ then _ else _) = _
    rw [if_neg (by rw [toList_eq, toList_eq]; decide)]
    rfl
  refine Ev.bind (evC h1) (Ev.congr (fun k => if_pos rfl) (Ev.bind (evC h2) (Ev.congr (fun k => if_pos rfl) ?_)))
  refine Ev.bind (evC (show dir_Encode.f [] = some (encO []) from rfl)) (evC ?_)
  have h3 : encO [] = [0] := by
    rw [encO_of hm0]
    unfold encD
    rw [show (([] : List Ent).length : Int) = 0 from rfl, putN_small (by decide) (by decide)]
    rfl
  rw [h3]
  rfl
theorem dir_then {g : Nat → Option Bool} {r : Bool} (h : Ev g r) : Ev (fun k => (loesslaw14_begun.f k).bind fun t => if t = true then g k else none) r :=
  Ev.bind dir_begun (Ev.congr (fun k => by rw [if_pos rfl]) h)
/-- A list that is cut. -/
def cutS (s : ByteArray) : ByteArray := if (s.size : Int) > 22 then s.extract 0 22 else s
def cutE (x : Ent) : Ent := ⟨cutS x.f0, x.f1, ⟨x.f2.f0, x.f2.f1⟩⟩
def cutL (l : List Ent) : List Ent := (l.take 34).map cutE
theorem cutS_eq (s : ByteArray) : loesslaw3_Cut.f s 22 = some (cutS s) := by
  unfold loesslaw3_Cut.f cutS
  split
  · rw [if_pos (by decide), if_pos (by omega)]
    rfl
  · rfl
theorem cutS_size (s : ByteArray) : (cutS s).size ≤ 22 := by
  unfold cutS
  split
  · rw [ByteArray.size_extract]; omega
  · omega
theorem cut_l (l : List Ent) : ∀ (d i : Nat), i + d = 34 → i ≤ l.length → Ev (fun k => loesslaw14_Cut.l0 k l ((l.take i).map cutE) (i : Int)) (cutL l) := by
  intro d
  induction d with
  | zero =>
    intro i h hi
    obtain rfl : i = 34 := by omega
    refine Ev.step (fun k => by simp only [loesslaw14_Cut.l0]; rfl) ?_
    by_cases c : ((34 : Nat) : Int) < (l.length : Int)
    · exact Ev.congr (fun k => if_pos c) (Ev.congr (fun k => if_neg (by omega)) (Ev.now _))
    · exact Ev.congr (fun k => if_neg c) (Ev.now _)
  | succ d ih =>
    intro i h hi
    refine Ev.step (fun k => by simp only [loesslaw14_Cut.l0]; rfl) ?_
    by_cases c : i < l.length
    · have hrec := ih (i + 1) (by omega) (by omega)
      have e : ra l i = l[i] := by simp [rd_T32, c]
      rw [List.take_succ_eq_append_getElem c, List.map_append, ← e] at hrec
      have hlen : ((l.take i).map cutE).length = i := by rw [List.length_map, List.length_take]; omega
      refine Ev.congr (fun k => if_pos (by omega)) (Ev.congr (fun k => if_pos (by omega)) (Ev.congr (fun k => if_pos (by omega)) ?_))
      refine Ev.bind (evC (cutS_eq (ra l i).f0)) (Ev.congr (fun k => if_pos (by omega)) ?_)
      rw [w64 (x := (i : Int) + 1) (by omega) (by omega)]
      exact hrec
    · refine Ev.congr (fun k => if_neg (by omega)) (evEq (Ev.now _) ?_)
      unfold cutL
      rw [List.take_of_length_le (by omega), List.take_of_length_le (by omega)]
theorem cut_ev (l : List Ent) : Ev (fun k => loesslaw14_Cut.f k l) (cutL l) := cut_l l 34 0 rfl (Nat.zero_le _)
theorem cutL_len (l : List Ent) : (cutL l).length ≤ 34 := by unfold cutL; rw [List.length_map, List.length_take]; omega
theorem cutL_sm {l : List Ent} (h : ∀ x ∈ l, I64 x.f1 ∧ I64 x.f2.f0 ∧ I64 x.f2.f1) : ∀ x ∈ cutL l, SmE x := by
  intro x hx
  obtain ⟨y, hy, rfl⟩ := List.mem_map.1 hx
  exact ⟨cutS_size _, h y (List.mem_of_mem_take hy)⟩
/-- Rising names are not the same. -/
theorem less_irr : ∀ a : List UInt8, Op.bytesLess a a = false := by
  intro a
  induction a with
  | nil => rfl
  | cons x a ih => simp [Op.bytesLess, ih]
theorem less_trans : ∀ a b c : List UInt8, Op.bytesLess a b = true → Op.bytesLess b c = true → Op.bytesLess a c = true := by
  intro a
  induction a with
  | nil =>
    intro b c h1 h2
    cases c with
    | nil => cases b <;> simp [Op.bytesLess] at h2
    | cons z c => rfl
  | cons x a ih =>
    intro b c h1 h2
    cases b with
    | nil => simp [Op.bytesLess] at h1
    | cons y b =>
      cases c with
      | nil => simp [Op.bytesLess] at h2
      | cons z c =>
        simp only [Op.bytesLess, Bool.or_eq_true, decide_eq_true_eq, Bool.and_eq_true, beq_iff_eq] at h1 h2 ⊢
        rcases h1 with h1 | ⟨rfl, h1⟩
        · rcases h2 with h2 | ⟨rfl, h2⟩
          · exact .inl (UInt8.lt_trans h1 h2)
          · exact .inl h1
        · rcases h2 with h2 | ⟨rfl, h2⟩
          · exact .inl h2
          · exact .inr ⟨rfl, ih _ _ h1 h2⟩
theorem less_far {l : List Ent} (h : mayD l = true) : ∀ (d i : Nat), i + d + 1 < l.length → Op.bytesLess (ra l i).f0.toList (ra l (i + d + 1)).f0.toList = true := by
  have hs : ∀ i, i + 1 < l.length → Op.bytesLess (ra l i).f0.toList (ra l (i + 1)).f0.toList = true := by
    intro i hi
    have := ((mayD_iff l).1 h).2 (i + 1) hi
    unfold stepE at this
    rw [Bool.and_eq_true, Bool.or_eq_true] at this
    rcases this.2 with h2 | h2
    · simp at h2
    · exact h2
  intro d
  induction d with
  | zero => intro i hi; exact hs i hi
  | succ d ih =>
    intro i hi
    exact less_trans _ _ _ (ih i (by omega)) (hs (i + d + 1) hi)
theorem names_ne {l : List Ent} (h : mayD l = true) {i j : Nat} (hij : i < j) (hj : j < l.length) : (ra l i).f0.toList ≠ (ra l j).f0.toList := by
  intro e
  have := less_far h (j - i - 1) i (by omega)
  rw [show i + (j - i - 1) + 1 = j by omega, e, less_irr] at this
  cases this
theorem find_take (s : ByteArray) : ∀ (r : List Ent) (b : Int) (x : Ent), findFrom s (r ++ [x]) b = if (∃ y ∈ r, y.f0.toList = s.toList) then findFrom s r b else if x.f0.toList = s.toList then b + r.length else -1 := by
  intro r
  induction r with
  | nil =>
    intro b x
    simp [findFrom]
  | cons y r ih =>
    intro b x
    simp only [List.cons_append, findFrom]
    by_cases h : y.f0.toList = s.toList
    · rw [if_pos h, if_pos ⟨y, List.mem_cons_self, h⟩, if_pos h]
    · rw [if_neg h, ih]
      by_cases h2 : ∃ z ∈ r, z.f0.toList = s.toList
      · rw [if_pos h2, if_pos (by obtain ⟨z, hz, e⟩ := h2; exact ⟨z, List.mem_cons_of_mem _ hz, e⟩), if_neg h]
      · rw [if_neg h2, if_neg (show ¬ ∃ z ∈ y :: r, z.f0.toList = s.toList from fun ⟨z, hz, e⟩ => by
          rcases List.mem_cons.1 hz with rfl | hz
          · exact h e
          · exact h2 ⟨z, hz, e⟩)]
        split
        · rw [List.length_cons]; omega
        · rfl
theorem find_none (s : ByteArray) : ∀ (r : List Ent) (b : Int), (¬ ∃ y ∈ r, y.f0.toList = s.toList) → findFrom s r b = -1 := by
  intro r
  induction r with
  | nil => intro b _; rfl
  | cons y r ih =>
    intro b h
    simp only [findFrom]
    rw [if_neg (fun e => h ⟨y, List.mem_cons_self, e⟩)]
    exact ih _ (fun ⟨z, hz, e⟩ => h ⟨z, List.mem_cons_of_mem _ hz, e⟩)
theorem find_next {l : List Ent} (h : mayD l = true) (s : ByteArray) {i : Nat} (hi : i < l.length) : findFrom s (l.take (i + 1)) 0 = if (ra l i).f0.toList = s.toList then (i : Int) else findFrom s (l.take i) 0 := by
  have e : ra l i = l[i] := by simp [rd_T32, hi]
  rw [List.take_succ_eq_append_getElem hi, ← e, find_take]
  have hl : (l.take i).length = i := by rw [List.length_take]; omega
  by_cases c : (ra l i).f0.toList = s.toList
  · rw [if_pos c, if_neg, if_pos c, hl]
    · omega
    · rintro ⟨y, hy, e2⟩
      obtain ⟨j, hj, rfl⟩ := ra_mem hy
      have hji : j < i := by omega
      have e3 : ra (l.take i) j = ra l j := by
        have : j < l.length := by omega
        simp [rd_T32, hji]
      rw [e3] at e2
      exact names_ne h hji hi (e2.trans c.symm)
  · by_cases c2 : ∃ y ∈ l.take i, y.f0.toList = s.toList
    · rw [if_pos c2, if_neg c]
    · rw [if_neg c2, if_neg c, if_neg c, find_none s _ _ c2]
end Go.Proofs.Ytoffcgdamcchcaa.Q
