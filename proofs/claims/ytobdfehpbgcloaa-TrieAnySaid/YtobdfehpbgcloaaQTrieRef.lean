/- The document's Skip and Rank answer as skipT and rankT. -/
import Derived.Test.YtobdfehpbgcloaaGTrieRk
import Derived.Test.YtobdfehpbgcloaaXTrix19
import Derived.Test.YtobdfehpbgcloaaXTrix20
namespace Go.Proofs.Ytobdfehpbgcloaa.GL
open Go.RowKit Go.Proofs.YtobdfehpbgcloaaW.PrintWords Go.Proofs.YtobdfehpbgcloaaW.PrintMore Go.Proofs.Ytobdfehpbgcloaa.Q Go.Proofs.Ytobdfehpbgcloaa.XTri
set_option linter.unusedVariables false
set_option linter.unusedSimpArgs false
theorem evC {α : Type} {f g : Nat → Option α} {a : α} (h : ∀ r, f r = g r) (hg : Ev g a) : Ev f a := Ev.congr h hg
/-- What a Skip may answer. -/
def SkP (o : Option Int) (v : Int) : Prop := ∀ t, o = some t → v = t
theorem readT_none {L : List Bool} {at_ n : Int} (h : getG L at_ = none) : readT L at_ n = none := by unfold readT; rw [h]
theorem readT_some {L : List Bool} {at_ n x e : Int} (h : getG L at_ = some (x, e)) : readT L at_ n = if n < x - 1 then none else some (x - 1, e) := by unfold readT; rw [h]
theorem skipT_s {L : List Bool} {k : Nat} {at_ n : Int} (h : ¬ n < 2) : skipT L (k + 1) at_ n = match readT L at_ n with
    | none => none
    | some (l, e) => match skipT L k e l with
      | none => none
      | some t => skipT L k t (n - l) := if_neg h
theorem skip_bd {L : List Bool} : ∀ (k : Nat) (at_ n t : Int), at_ ≤ L.length ∨ n < 2 → skipT L k at_ n = some t → t = at_ ∨ t ≤ L.length := by
  intro k
  induction k with
  | zero =>
    intro at_ n t _ h
    rw [skipT] at h
    split at h
    · injection h with h; exact .inl h.symm
    · cases h
  | succ k ih =>
    intro at_ n t _ h
    by_cases h2 : n < 2
    · rw [skipT, if_pos h2] at h
      injection h with h
      exact .inl h.symm
    · rw [skipT_s h2] at h
      cases hr : readT L at_ n with
      | none => rw [hr] at h; cases h
      | some le =>
        obtain ⟨l, e⟩ := le
        rw [hr] at h
        have hsp := readT_spec hr
        cases hs : skipT L k e l with
        | none => simp only [hs] at h; cases h
        | some u =>
          simp only [hs] at h
          have h1 := ih e l u (.inl hsp.2.2.1) hs
          have hu : u ≤ L.length := by omega
          have h3 := ih u (n - l) t (.inl hu) h
          omega
theorem skip_ev (L : List Bool) (hl : L.length < 100000000000) : ∀ (k : Nat) (at_ n d : Int), d = 64 - (k : Int) → k ≤ 64 → at_ ≤ 100000000000 → 0 ≤ n → n ≤ 4096 →
    ∃ v, Ev (fun r => loessref6_Skip.f r L at_ n d) (v, (skipT L k at_ n).isSome) ∧ SkP (skipT L k at_ n) v := by
  intro k
  induction k with
  | zero =>
    intro at_ n d hd _ _ h0 h1
    refine ⟨at_, ?_, ?_⟩
    · by_cases h2 : n < 2
      · have e : skipT L 0 at_ n = some at_ := if_pos h2
        rw [e]
        refine Ev.step (f := fun _ => some (at_, true)) (fun r => ?_) (Ev.now _)
        simp only [loessref6_Skip.f]
        rw [if_pos (by omega)]
      · have e : skipT L 0 at_ n = none := if_neg h2
        rw [e]
        refine Ev.step (f := fun _ => some (at_, false)) (fun r => ?_) (Ev.now _)
        simp only [loessref6_Skip.f]
        rw [if_neg (by omega), if_pos (by omega)]
    · intro t ht
      rw [skipT] at ht
      split at ht
      · injection ht
      · cases ht
  | succ k ih =>
    intro at_ n d hd hk ha h0 h1
    by_cases h2 : n < 2
    · have e : skipT L (k + 1) at_ n = some at_ := by rw [skipT, if_pos h2]
      rw [e]
      refine ⟨at_, ?_, fun t ht => by injection ht⟩
      refine Ev.step (f := fun _ => some (at_, true)) (fun r => ?_) (Ev.now _)
      simp only [loessref6_Skip.f]
      rw [if_pos (by omega)]
    · have hu1 : Aside0 (IntKind.u64.wrap (IntKind.u64.wrap n + 1) = n + 1) := ⟨by rw [u64 (x := n) (by omega) (by omega), u64 (by omega) (by omega)]⟩
      have hd1 : Aside0 (wrap64 (d + 1) = 64 - (k : Int)) := ⟨by rw [w64 (by omega) (by omega)]; omega⟩
      have hbig : ¬ n ≤ 1 := by omega
      have hdeep : ¬ d > 63 := by omega
      have hno : ∀ (x e : Int) (t : Bool), Ev (fun r => loessref6_Skip.j0 r L at_ n d x e true) (at_, false) := by
        intro x e _
        refine Ev.step (f := fun _ => some (at_, false)) (fun r => ?_) (Ev.now _)
        simp only [loessref6_Skip.j0]
        exact if_pos trivial
      have hstep : ∀ v, Ev (fun r => (loessref6_GetGamma.f r L at_).bind fun bt => if bt.2.2 = true then loessref6_Skip.j0 r L at_ n d bt.1 bt.2.1 (decide (bt.1 > n + 1)) else loessref6_Skip.j0 r L at_ n d bt.1 bt.2.1 true) v → Ev (fun r => loessref6_Skip.f r L at_ n d) v := by
        intro v hv
        refine Ev.step (fun r => ?_) hv
        simp only [loessref6_Skip.f]
        rw [if_neg hbig, if_neg hdeep, hu1.out]
      cases hg : getG L at_ with
      | none =>
        have e : skipT L (k + 1) at_ n = none := by rw [skipT_s h2, readT_none hg]
        rw [e]
        refine ⟨at_, hstep _ (Ev.bind (getGamma_ev L at_ hl (by omega)) ?_), fun t ht => by cases ht⟩
        rw [hg]
        exact evC (fun r => if_neg (by show ¬ (false : Bool) = true; decide)) (hno 0 at_ true)
      | some xe =>
        obtain ⟨x, e⟩ := xe
        have hsp := getG_spec hg
        by_cases hx : n < x - 1
        · have e' : skipT L (k + 1) at_ n = none := by rw [skipT_s h2, readT_some hg, if_pos hx]
          rw [e']
          refine ⟨at_, hstep _ (Ev.bind (getGamma_ev L at_ hl (by omega)) ?_), fun t ht => by cases ht⟩
          rw [hg]
          refine evC (g := fun r => loessref6_Skip.j0 r L at_ n d x e true) (fun r => ?_) (hno x e true)
          show (if true = true then loessref6_Skip.j0 r L at_ n d x e (decide (x > n + 1)) else loessref6_Skip.j0 r L at_ n d x e true) = _
          rw [if_pos rfl, decide_eq_true (show x > n + 1 by omega)]
        · have hrd : readT L at_ n = some (x - 1, e) := by rw [readT_some hg, if_neg hx]
          have hw : Aside0 (wrap64 (IntKind.u64.wrap (x - 1)) = x - 1) := ⟨by rw [u64 (by omega) (by omega), w64 (by omega) (by omega)]⟩
          have hw2 : Aside0 (wrap64 (n - (x - 1)) = n - (x - 1)) := ⟨w64 (by omega) (by omega)⟩
          have hgo : ∀ v, Ev (fun r => (loessref6_Skip.f r L e (x - 1) (64 - (k : Int))).bind fun bt => if bt.2 = true then ((loessref6_Skip.f r L bt.1 (n - (x - 1)) (64 - (k : Int))).bind fun bt117 => (some (bt117.1, bt117.2))) else some (at_, false)) v → Ev (fun r => loessref6_Skip.f r L at_ n d) v := by
            intro v hv
            refine hstep _ (Ev.bind (getGamma_ev L at_ hl (by omega)) ?_)
            rw [hg]
            refine evC (g := fun r => loessref6_Skip.j0 r L at_ n d x e false) (fun r => ?_) ?_
            · show (if true = true then loessref6_Skip.j0 r L at_ n d x e (decide (x > n + 1)) else loessref6_Skip.j0 r L at_ n d x e true) = _
              rw [if_pos rfl, decide_eq_false (show ¬ x > n + 1 by omega)]
            · refine Ev.step (fun r => ?_) hv
              simp only [loessref6_Skip.j0]
              rw [if_neg (by simp), hw.out, hw2.out, hd1.out]
          obtain ⟨v1, he1, hv1⟩ := ih e (x - 1) (64 - (k : Int)) rfl (by omega) (by omega) (by omega) (by omega)
          cases hs : skipT L k e (x - 1) with
          | none =>
            have e' : skipT L (k + 1) at_ n = none := by rw [skipT_s h2, hrd]; simp only [hs]
            rw [hs] at he1
            rw [e']
            refine ⟨at_, hgo _ (Ev.bind he1 ?_), fun t ht => by cases ht⟩
            exact evC (fun r => if_neg (by show ¬ (false : Bool) = true; decide)) (Ev.now _)
          | some t =>
            have e' : skipT L (k + 1) at_ n = skipT L k t (n - (x - 1)) := by rw [skipT_s h2, hrd]; simp only [hs]
            have hvt := hv1 t hs
            subst hvt
            rw [hs] at he1
            have hbd := skip_bd k e (x - 1) v1 (.inl hsp.2.2.1) hs
            obtain ⟨v2, he2, hv2⟩ := ih v1 (n - (x - 1)) (64 - (k : Int)) rfl (by omega) (by omega) (by omega) (by omega)
            rw [e']
            refine ⟨v2, hgo _ (Ev.bind he1 ?_), hv2⟩
            refine evC (g := fun r => (loessref6_Skip.f r L v1 (n - (x - 1)) (64 - (k : Int))).bind fun bt117 => (some (bt117.1, bt117.2))) (fun r => if_pos rfl) (Ev.bind he2 (Ev.now _))
theorem rank_ev (L : List Bool) (h : Int) (hl : L.length < 100000000000) (hh0 : 0 ≤ h) (hh1 : h < 18446744073709551616) : ∀ (k : Nat) (at_ n a d : Int), d = 64 - (k : Int) → k ≤ 64 → at_ ≤ 100000000000 → 0 ≤ n → n ≤ 4096 → 0 ≤ a → a ≤ 4096 * (65 - (k : Int)) →
    Ev (fun r => loessref6_Rank.l0 r L n h at_ a d) (numP (rankT L h k at_ n a)) := by
  intro k
  induction k with
  | zero =>
    intro at_ n a d hd _ _ h0 h1 _ _
    by_cases hz : n = 0
    · subst hz
      rw [rankT_0]
      refine Ev.step (f := fun _ => some (0, false)) (fun r => ?_) (Ev.now _)
      simp only [loessref6_Rank.l0]
      rw [if_neg (by omega), if_pos (by omega)]
    · by_cases ho : n = 1
      · subst ho
        rw [rankT_1]
        refine Ev.step (f := fun _ => some (a, true)) (fun r => ?_) (Ev.now _)
        simp only [loessref6_Rank.l0]
        rw [if_neg (by omega), if_neg (by omega)]
      · rw [rankT_e (by omega)]
        refine Ev.step (f := fun _ => some (0, false)) (fun r => ?_) (Ev.now _)
        simp only [loessref6_Rank.l0]
        rw [if_pos (by omega), if_pos (by omega)]
  | succ k ih =>
    intro at_ n a d hd hk ha h0 h1 ha0 ha1
    by_cases hz : n = 0
    · subst hz
      rw [rankT_0]
      refine Ev.step (f := fun _ => some (0, false)) (fun r => ?_) (Ev.now _)
      simp only [loessref6_Rank.l0]
      rw [if_neg (by omega), if_pos (by omega)]
    · by_cases ho : n = 1
      · subst ho
        rw [rankT_1]
        refine Ev.step (f := fun _ => some (a, true)) (fun r => ?_) (Ev.now _)
        simp only [loessref6_Rank.l0]
        rw [if_neg (by omega), if_neg (by omega)]
      · have hu1 : Aside0 (IntKind.u64.wrap (IntKind.u64.wrap n + 1) = n + 1) := ⟨by rw [u64 (x := n) (by omega) (by omega), u64 (by omega) (by omega)]⟩
        have hd1 : Aside0 (wrap64 (d + 1) = 64 - (k : Int)) := ⟨by rw [w64 (by omega) (by omega)]; omega⟩
        have hsh : Aside0 (IntKind.u64.wrap (wrap64 (63 - d)) = (k : Int)) := ⟨by rw [w64 (by omega) (by omega), u64 (by omega) (by omega)]; omega⟩
        have hs : Aside0 (shr .u64 h (k : Int) = h / 2 ^ k) := ⟨by
          unfold shr
          rw [show IntKind.u64.bits = 64 from rfl, show min (k : Int).toNat 64 = k by omega]⟩
        have hbig : n > 1 := by omega
        have hdeep : ¬ d > 63 := by omega
        have hno : ∀ (x e : Int), Ev (fun r => loessref6_Rank.j1 r L n h a d x e true) (0, false) := by
          intro x e
          refine Ev.step (f := fun _ => some (0, false)) (fun r => ?_) (Ev.now _)
          simp only [loessref6_Rank.j1]
          exact if_pos trivial
        have hstep : ∀ v, Ev (fun r => (loessref6_GetGamma.f r L at_).bind fun bt => if bt.2.2 = true then loessref6_Rank.j1 r L n h a d bt.1 bt.2.1 (decide (bt.1 > n + 1)) else loessref6_Rank.j1 r L n h a d bt.1 bt.2.1 true) v → Ev (fun r => loessref6_Rank.l0 r L n h at_ a d) v := by
          intro v hv
          refine Ev.step (fun r => ?_) hv
          simp only [loessref6_Rank.l0]
          rw [if_pos hbig, if_neg hdeep, hu1.out]
        rw [rankT_s (by omega)]
        cases hg : getG L at_ with
        | none =>
          rw [readT_none hg]
          refine hstep _ (Ev.bind (getGamma_ev L at_ hl (by omega)) ?_)
          rw [hg]
          exact evC (fun r => if_neg (by show ¬ (false : Bool) = true; decide)) (hno 0 at_)
        | some xe =>
          obtain ⟨x, e⟩ := xe
          have hsp := getG_spec hg
          by_cases hx : n < x - 1
          · rw [readT_some hg, if_pos hx]
            refine hstep _ (Ev.bind (getGamma_ev L at_ hl (by omega)) ?_)
            rw [hg]
            refine evC (g := fun r => loessref6_Rank.j1 r L n h a d x e true) (fun r => ?_) (hno x e)
            show (if true = true then loessref6_Rank.j1 r L n h a d x e (decide (x > n + 1)) else loessref6_Rank.j1 r L n h a d x e true) = _
            rw [if_pos rfl, decide_eq_true (show x > n + 1 by omega)]
          · rw [readT_some hg, if_neg hx]
            have hw : Aside0 (wrap64 (IntKind.u64.wrap (x - 1)) = x - 1) := ⟨by rw [u64 (by omega) (by omega), w64 (by omega) (by omega)]⟩
            have hw2 : Aside0 (wrap64 (n - (x - 1)) = n - (x - 1)) := ⟨w64 (by omega) (by omega)⟩
            have hw3 : Aside0 (wrap64 (a + (x - 1)) = a + (x - 1)) := ⟨w64 (by omega) (by omega)⟩
            have hkk : 0 ≤ (k : Int) := by omega
            have hgo : ∀ v, Ev (fun r => if h / 2 ^ k % 2 = 0 then loessref6_Rank.l0 r L (x - 1) h e a (64 - (k : Int)) else (loessref6_Skip.f r L e (x - 1) (64 - (k : Int))).bind fun bt => if bt.2 = true then loessref6_Rank.l0 r L (n - (x - 1)) h bt.1 (a + (x - 1)) (64 - (k : Int)) else some (0, false)) v → Ev (fun r => loessref6_Rank.l0 r L n h at_ a d) v := by
              intro v hv
              refine hstep _ (Ev.bind (getGamma_ev L at_ hl (by omega)) ?_)
              rw [hg]
              refine evC (g := fun r => loessref6_Rank.j1 r L n h a d x e false) (fun r => ?_) ?_
              · show (if true = true then loessref6_Rank.j1 r L n h a d x e (decide (x > n + 1)) else loessref6_Rank.j1 r L n h a d x e true) = _
                rw [if_pos rfl, decide_eq_false (show ¬ x > n + 1 by omega)]
              · refine Ev.step (fun r => ?_) hv
                simp only [loessref6_Rank.j1]
                rw [if_neg (by simp), hsh.out, if_pos hkk, hs.out, and1_shr k hh0 hh1, hw.out, hw2.out, hw3.out, hd1.out]
            show Ev _ (numP (if bitT h k = true then (match skipT L k e (x - 1) with
              | none => none
              | some t => rankT L h k t (n - (x - 1)) (a + (x - 1))) else rankT L h k e (x - 1) a))
            by_cases hb : h / 2 ^ k % 2 = 0
            · have hbt : ¬ bitT h k = true := by unfold bitT; rw [hb]; decide
              rw [if_neg hbt]
              refine hgo _ (evC (fun r => if_pos hb) ?_)
              exact ih e (x - 1) a (64 - (k : Int)) rfl (by omega) (by omega) (by omega) (by omega) ha0 (by omega)
            · have hbt : bitT h k = true := by
                unfold bitT
                have : h / 2 ^ k % 2 = 1 := by omega
                rw [this]
                rfl
              rw [if_pos hbt]
              refine hgo _ (evC (fun r => if_neg hb) ?_)
              obtain ⟨v1, he1, hv1⟩ := skip_ev L hl k e (x - 1) (64 - (k : Int)) rfl (by omega) (by omega) (by omega) (by omega)
              cases hs2 : skipT L k e (x - 1) with
              | none =>
                rw [hs2] at he1
                refine Ev.bind he1 ?_
                exact evC (fun r => if_neg (by show ¬ (false : Bool) = true; decide)) (Ev.now _)
              | some t =>
                have hvt := hv1 t hs2
                subst hvt
                rw [hs2] at he1
                have hbd := skip_bd k e (x - 1) v1 (.inl hsp.2.2.1) hs2
                refine Ev.bind he1 ?_
                refine evC (g := fun r => loessref6_Rank.l0 r L (n - (x - 1)) h v1 (a + (x - 1)) (64 - (k : Int))) (fun r => if_pos rfl) ?_
                exact ih v1 (n - (x - 1)) (a + (x - 1)) (64 - (k : Int)) rfl (by omega) (by omega) (by omega) (by omega) (by omega) (by omega)
theorem rankF_ev (L : List Bool) (h n : Int) (hl : L.length < 100000000000) (hh0 : 0 ≤ h) (hh1 : h < 18446744073709551616) (h0 : 0 ≤ n) (h1 : n ≤ 4096) : Ev (fun r => loessref6_Rank.f r L n h) (numP (rankI L h n)) := by
  unfold loessref6_Rank.f rankI
  rw [if_neg (by omega)]
  exact rank_ev L h hl hh0 hh1 64 0 n 0 0 rfl (by omega) (by decide) h0 h1 (by decide) (by decide)
end Go.Proofs.Ytobdfehpbgcloaa.GL
