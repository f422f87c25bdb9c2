/- The law GammaAny, walked by hand. -/
import Derived.Test.YtbaopegmdllbeaaGGammaLaw
import Derived.Test.YtbaopegmdllbeaaQGammaRef
import Derived.Test.YtbaopegmdllbeaaQOpen
import Derived.Deep.QuietTactic
import Derived.BigQuiet
namespace Go.Proofs.Ytbaopegmdllbeaa.GL
open Go.RowKit Go.Proofs.YtbaopegmdllbeaaW.PrintWords Go.Proofs.YtbaopegmdllbeaaW.PrintLast Go.Proofs.YtbaopegmdllbeaaW.PrintMore Go.Proofs.Ytbaopegmdllbeaa.Q Go.Proofs.Ytbaopegmdllbeaa.XBit Go.Proofs.Ytbaopegmdllbeaa.G
set_option linter.unusedVariables false
set_option linter.unusedSimpArgs false
theorem law_Of_m2 {w : World} {A : Option Addr} {c m : Nat} {L : List Bool} (hm : m = L.length) (hC : Kd.C Kd.bool w A m L) (hl : L.length < 100000000000) :
    Calls Try.prog 24 #[.slice A m c] w (NewPost w L) := by
  subst hm
  exact law_Of hC hl
def RefPost (w : World) (at_ : Int) (o : Option (Int × Int)) (e : Ending) (w' : World) : Prop := e = .returned (getR at_ o) ∧ Drawn0 w w'
theorem ref_get {w : World} {A : Option Addr} {c m : Nat} {L : List Bool} (at_ : Int) (hm : m = L.length) (hC : Kd.C Kd.bool w A m L) (hc : m ≤ c) (hl : L.length < 100000000000) (h1 : at_ < 9223372036854775808) :
    Calls Try.prog 30 #[.slice A m c, .int .i64 at_] w (RefPost w at_ (getG L at_)) := by
  subst hm
  obtain ⟨k, hk⟩ := (getGamma_ev L at_ hl h1).rounds
  have := loessref6_GetGamma.calls k A c L at_ (getP at_ (getG L at_)).1 (getP at_ (getG L at_)).2.1 (getP at_ (getG L at_)).2.2 w hC hc hk
  refine this.mono ?_
  rintro e w' ⟨rfl, hd⟩
  refine ⟨?_, hd⟩
  cases getG L at_ <;> rfl
theorem getG_bd {L : List Bool} {at_ x e : Int} (h : getG L at_ = some (x, e)) : e ≤ L.length := by
  unfold getG at h
  split at h
  · cases h
  · split at h
    · cases h
    · unfold numAt at h
      split at h
      · rename_i hc
        simp only [Option.map_some, Option.some.injEq, Prod.mk.injEq] at h
        omega
      · cases h
/-- What the law's loop has told: numbers, and whether more can be told. -/
def AnyRel (L : List Bool) (o : Option (List Int × Int)) (N : Nat) (k : Int) (D : List Int) (more : Bool) : Prop :=
  D.length ≤ N ∧ k < 9223372036854775808 ∧ (more = true → o = (allG L k (N - D.length)).map fun q => (D ++ q.1, q.2)) ∧ (more = false → o = none)
set_option maxRecDepth 1000000 in
set_option maxHeartbeats 8000000 in
theorem GammaAny.walk (P : True) (A0 : Option Addr) (len0 c0 : Nat) (l : List Bool) (at_ n : Int) (w : World) (w0 : O.IsRows Kd.bool (fun _ => True) w A0 len0 c0 l) (w1 : (Lit.int .i64 at_).wf = true) (w2 : (Lit.int .i64 n).wf = true) :
    Calls Try.prog 9 #[.slice A0 len0 c0, .int .i64 at_, .int .i64 n] w fun e w' => e = .returned (.bool true) ∧ Below w.heap.size w w' := by
  obtain ⟨hlen, hlc, hcm, hC0, _⟩ := w0
  have HAT := Aside0.mk (wfI64 w1).2
  have HB := Aside0.mk (Below.refl w.heap.size w)
  clear w1 w2
  by_cases hcut : 200 < len0
  · skip
    obtain ⟨L, hL⟩ : ∃ L, L = l.take 200 := ⟨_, rfl⟩
    obtain ⟨M, hM⟩ : ∃ M, M = 200 := ⟨_, rfl⟩
    obtain ⟨i0, hi, hi1, hi2, hi3⟩ := info_parts info4
    have hrun : ∀ W : World, (Instr.slice 43 (.slice A0 len0 c0) none (some (.int .i64 200)) none).run Try.prog W = .ok (.slice A0 M c0) W := by
      intro W
      rw [hM]
      exact cut_to (P := Try.prog) 43 4 .i64 Try.underlying43 hi A0 len0 c0 200 (by decide) (by omega) hlc W
    have hcd : decide ((200 : Int) < (len0 : Int)) = true := decide_eq_true (by omega)
    have hcd2 : decide (200 < len0) = true := decide_eq_true hcut
    have hC1 : Kd.C Kd.bool w A0 M L := by
      have := Kd.C_take (k := Kd.bool) (m := 200) (by rw [hlen]; exact hC0) (by omega)
      rw [List.length_take, hlen, Nat.min_eq_left (by omega)] at this
      rw [hM, hL]
      exact this
    have hML : M = L.length := by rw [hM, hL, List.length_take]; omega
    have HM200 := Aside0.mk hM
    have hmi : (M : Int) ≤ 200 := by omega
    have HC := Aside0.mk hC1
    have HM := Aside0.mk hML
    have HM3 := Aside0.mk (show M ≤ 200 by omega)
    have HLC := Aside0.mk (show M ≤ c0 by omega)
    have HL := Aside0.mk (show L.length < 1000000000 by omega)
    have HL1 := Aside0.mk (show L.length < 100000000 by omega)
    have HL0 := Aside0.mk (show L.length < 100000000000 by omega)
    clear hC0 hlen hM hL hML hcut hlc hcm hC1 hi hi1 hi2 hi3 HM200
    obtain ⟨g, hg⟩ : ∃ g, g = getG L at_ := ⟨_, rfl⟩
    have HG := Aside0.mk hg
    by_cases hn : n < 0 ∨ 40 < n
    · have hn0 : decide (n < 0) = true ∨ (decide (n < 0) = false ∧ decide (40 < n) = true) := by
        by_cases h : n < 0
        · exact .inl (decide_eq_true h)
        · exact .inr ⟨decide_eq_false h, decide_eq_true (by omega)⟩
      clear hn hg
      rcases hn0 with h0 | ⟨h0, h1⟩ <;> rcases g with _ | ⟨x, e⟩
      all_goals
        go_enter Try.func9, Try.ntmps9
        go_wp2_with (first
          | (go_at_call 28; refine (law7_begun _).mono ?_; rintro e w11 ⟨rfl, hb⟩; have m2_ := Aside0.mk (below_step HB.out hb); clear HB; have HB := m2_; clear m2_ hb)
          | (go_at_call 24; refine (law_Of_m2 HM.out (Kd.C_below HC.out HB.out) HL0.out).mono ?_; rintro e w3 ⟨p, rfl, hbo, hb⟩; have HBO := Aside0.mk hbo.toP; have n1_ := Aside0.mk (below_step HB.out hb); have n2_ := Aside0.mk (Kd.C_below HC.out n1_.out); clear HB hbo hb HC; have HB := n1_; have HC := n2_; clear n1_ n2_)
          | (go_at_call 29; refine (gamma_Get _ HBO.out HL0.out).mono ?_; rw [← HG.out]; rintro e w' ⟨rfl, rfl⟩; simp only [getR])
          | (go_at_call 30; refine (ref_get _ HM.out HC.out HLC.out HL0.out HAT.out).mono ?_; rw [← HG.out]; rintro e w' ⟨rfl, ⟨nd, rfl⟩⟩; simp only [getR]))
        go_ret
        exact ⟨rfl, pw_below_drewN HB.out _⟩
    · obtain ⟨N, rfl⟩ := Int.eq_ofNat_of_zero_le (show 0 ≤ n by omega)
      have h0 : decide ((N : Int) < 0) = false := decide_eq_false (by omega)
      have h1 : decide ((40 : Int) < (N : Int)) = false := decide_eq_false (by omega)
      have hN40 : (N : Int) ≤ 40 := by omega
      have HN := Aside0.mk (show (N : Int) < 1000000000 by omega)
      obtain ⟨o, ho⟩ : ∃ o, o = allI L at_ (N : Int) := ⟨_, rfl⟩
      have HO2 := Aside0.mk ho
      have HREL := Aside0.mk (show AnyRel L o N at_ [] true from ⟨Nat.zero_le _, HAT.out, fun _ => by
        rw [ho, allI, if_neg (by omega), Int.toNat_natCast]
        cases allG L at_ N <;> simp [*], fun h => by cases h⟩)
      clear hn hg ho
      rcases o with _ | ⟨la, tt⟩ <;> rcases g with _ | ⟨x, e⟩
      · skip
        go_enter Try.func9, Try.ntmps9
        go_wp2_with (first
          | (go_at_call 28; refine (law7_begun _).mono ?_; rintro e w11 ⟨rfl, hb⟩; have m2_ := Aside0.mk (below_step HB.out hb); clear HB; have HB := m2_; clear m2_ hb)
          | (go_at_call 24; refine (law_Of_m2 HM.out (Kd.C_below HC.out HB.out) HL0.out).mono ?_; rintro e w3 ⟨p, rfl, hbo, hb⟩; have HBO := Aside0.mk hbo.toP; have n1_ := Aside0.mk (below_step HB.out hb); have n2_ := Aside0.mk (Kd.C_below HC.out n1_.out); clear HB hbo hb HC; have HB := n1_; have HC := n2_; clear n1_ n2_)
          | (go_at_call 29; refine (gamma_Get _ HBO.out HL0.out).mono ?_; rw [← HG.out]; rintro e w' ⟨rfl, rfl⟩; simp only [getR])
          | (go_at_call 30; refine (ref_get _ HM.out HC.out HLC.out HL0.out HAT.out).mono ?_; rw [← HG.out]; rintro e w' ⟨rfl, ⟨nd, rfl⟩⟩; simp only [getR])
          | (go_at_call 31; refine (gamma_All _ _ (HBO.out.drewN nd) HL0.out HN.out).mono ?_; rw [← HO2.out]; rintro e w6 ⟨hb, rfl⟩; have n1_ := Aside0.mk (below_step (pw_below_drewN HB.out nd) hb); have n2_ := Aside0.mk (Kd.C_below (Kd.C_drewN HC.out nd) hb); clear HB HC hb; have HB := n1_; have HC := n2_; clear n1_ n2_))
        go_loopw [18, 19, 20, 21] (fun v18 v19 v20 v21 wr => ∃ (k : Int) (D : List Int) (more : Bool), v21 = .int .i64 (D.length : Int) ∧ v18 = .int .i64 k ∧ v19 = .bool more ∧ Aside0 (AnyRel L none N k D more) ∧ Aside0 (Kd.R (Kd.int .u64) 36 wr w6.heap.size (fun _ => True) v20 D) ∧ Aside0 (Below w6.heap.size w6 wr)) (fun _ _ _ v _ => (2 * N + 1 - 2 * (intOf v).toNat))
        case atStart => exact ⟨at_, [], true, by first | rfl | go_num, rfl, rfl, HREL, ⟨Kd.R_nil _ _ _ _ _⟩, ⟨Below.refl _ _⟩⟩
        case round =>
          clear HREL
          obtain ⟨k, D, more, rfl, rfl, rfl, HREL, HO, HR⟩ := hrel
          obtain ⟨i, hi⟩ : ∃ i, i = D.length := ⟨_, rfl⟩
          rw [← hi]
          have hiN : i ≤ N := by rw [hi]; exact HREL.out.1
          have HI := Aside0.mk hi
          have HATK := Aside0.mk HREL.out.2.1
          cases more with
          | false =>
            have hnone := HREL.out.2.2.2 rfl
            by_cases hlt : i < N
            · have hd := decide_eq_true hlt
              clear hlt hiN hi
              (go_wp2; go_ret; exact ⟨rfl, below_step HB.out HR.out⟩)
            · have hd := decide_eq_false hlt
              clear hlt hiN hi
              (go_wp2; go_ret; exact ⟨rfl, below_step HB.out HR.out⟩)
          | true =>
            have hsome := HREL.out.2.2.1 rfl
            by_cases hlt : i < N
            · have HLT := Aside0.mk hlt
              have hlz : (i : Int) < (N : Int) := by omega
              obtain ⟨gk, hgk⟩ : ∃ g, g = getG L k := ⟨_, rfl⟩
              have HGK := Aside0.mk hgk
              have HCAP := Aside0.mk (show (D.length + 1) * 8 ≤ 140737488355328 by omega)
              have hstep : N - D.length = (N - (D.length + 1)) + 1 := by omega
              rw [hstep, allG, ← hgk] at hsome
              have HSOME := Aside0.mk hsome
              clear hsome hgk hstep hlt hiN hi HREL
              rcases gk with _ | ⟨y, ey⟩
              · go_wp2_with (first
                  | (go_at_call 30; refine (ref_get _ HM.out (Kd.C_below HC.out HR.out) HLC.out HL0.out HATK.out).mono ?_; rw [← HGK.out]; rintro e w' ⟨rfl, ⟨nd, rfl⟩⟩; simp only [getR]; have n1_ := Aside0.mk (Kd.R_drewN HO.out nd); have n2_ := Aside0.mk (pw_below_drewN HR.out nd); clear HO HR; have HO := n1_; have HR := n2_; clear n1_ n2_)
                  | ((with_reducible refine gate_builtin (b := .append) (xs := #[.tmp 93, .tmp 95]) rfl ?_); at_builtin; refine Kd.R_append (Kd.int .u64) (w0 := w6) w6.heap.size rfl (.tmp 93) (.tmp 95) 32 36 (.int .u64 0) 8 rfl Try.underlying32 (by kernel_rfl) rfl (by decide) (by omega) _ D 0 [.int .u64 0] (fun _ => True) (fun _ => False) rfl rfl ?aP (fun _ hk => hk.elim) ?aF ?aO ?aB ?aS ?aL ?_; (case aP => exact rfl); (case aF => exact (fun _ _ => trivial)); (case aO => exact HO.out); (case aB => exact HR.out); (case aS => exact below_size HR.out); (case aL => exact HCAP.out); intro v1 w1 ho hb hg hat; have n1_ := Aside0.mk ho; have n2_ := Aside0.mk hb; clear HO HR; have HO := n1_; have HR := n2_; clear n1_ n2_ ho hb hg hat))
                refine ⟨⟨k, D ++ [0], false, ?_, rfl, rfl, ⟨?_⟩, HO, HR⟩, ?_⟩
                · rw [List.length_append, List.length_singleton, ← HI.out]; first | rfl | go_num
                · exact ⟨by rw [List.length_append, List.length_singleton, ← HI.out]; exact HLT.out, HATK.out, (fun h => by cases h), fun _ => HSOME.out⟩
                · have := HLT.out
                  simp [intOf]
                  omega
              · have hey := getG_bd HGK.out.symm
                have HEY := Aside0.mk (show ey < 9223372036854775808 by have := HL0.out; omega)
                clear hey
                go_wp2_with (first
                  | (go_at_call 30; refine (ref_get _ HM.out (Kd.C_below HC.out HR.out) HLC.out HL0.out HATK.out).mono ?_; rw [← HGK.out]; rintro e w' ⟨rfl, ⟨nd, rfl⟩⟩; simp only [getR]; have n1_ := Aside0.mk (Kd.R_drewN HO.out nd); have n2_ := Aside0.mk (pw_below_drewN HR.out nd); clear HO HR; have HO := n1_; have HR := n2_; clear n1_ n2_)
                  | ((with_reducible refine gate_builtin (b := .append) (xs := #[.tmp 93, .tmp 95]) rfl ?_); at_builtin; refine Kd.R_append (Kd.int .u64) (w0 := w6) w6.heap.size rfl (.tmp 93) (.tmp 95) 32 36 (.int .u64 0) 8 rfl Try.underlying32 (by kernel_rfl) rfl (by decide) (by omega) _ D y [.int .u64 y] (fun _ => True) (fun _ => False) rfl rfl ?aP (fun _ hk => hk.elim) ?aF ?aO ?aB ?aS ?aL ?_; (case aP => exact rfl); (case aF => exact (fun _ _ => trivial)); (case aO => exact HO.out); (case aB => exact HR.out); (case aS => exact below_size HR.out); (case aL => exact HCAP.out); intro v1 w1 ho hb hg hat; have n1_ := Aside0.mk ho; have n2_ := Aside0.mk hb; clear HO HR; have HO := n1_; have HR := n2_; clear n1_ n2_ ho hb hg hat))
                refine ⟨⟨ey, D ++ [y], true, ?_, rfl, rfl, ⟨?_⟩, HO, HR⟩, ?_⟩
                · rw [List.length_append, List.length_singleton, ← HI.out]; first | rfl | go_num
                · refine ⟨by rw [List.length_append, List.length_singleton, ← HI.out]; exact HLT.out, HEY.out, fun _ => ?_, fun h => by cases h⟩
                  have := HSOME.out
                  rw [this, List.length_append, List.length_singleton]
                  simp only [Option.map_map]
                  congr 1
                  funext q
                  simp
                · have := HLT.out
                  simp [intOf]
                  omega
            · have hd := decide_eq_false hlt
              have hiE : i = N := by omega
              rw [show N - D.length = 0 by omega, allG] at hsome
              clear hlt hiN
              simp at hsome
      · skip
        go_enter Try.func9, Try.ntmps9
        go_wp2_with (first
          | (go_at_call 28; refine (law7_begun _).mono ?_; rintro e w11 ⟨rfl, hb⟩; have m2_ := Aside0.mk (below_step HB.out hb); clear HB; have HB := m2_; clear m2_ hb)
          | (go_at_call 24; refine (law_Of_m2 HM.out (Kd.C_below HC.out HB.out) HL0.out).mono ?_; rintro e w3 ⟨p, rfl, hbo, hb⟩; have HBO := Aside0.mk hbo.toP; have n1_ := Aside0.mk (below_step HB.out hb); have n2_ := Aside0.mk (Kd.C_below HC.out n1_.out); clear HB hbo hb HC; have HB := n1_; have HC := n2_; clear n1_ n2_)
          | (go_at_call 29; refine (gamma_Get _ HBO.out HL0.out).mono ?_; rw [← HG.out]; rintro e w' ⟨rfl, rfl⟩; simp only [getR])
          | (go_at_call 30; refine (ref_get _ HM.out HC.out HLC.out HL0.out HAT.out).mono ?_; rw [← HG.out]; rintro e w' ⟨rfl, ⟨nd, rfl⟩⟩; simp only [getR])
          | (go_at_call 31; refine (gamma_All _ _ (HBO.out.drewN nd) HL0.out HN.out).mono ?_; rw [← HO2.out]; rintro e w6 ⟨hb, rfl⟩; have n1_ := Aside0.mk (below_step (pw_below_drewN HB.out nd) hb); have n2_ := Aside0.mk (Kd.C_below (Kd.C_drewN HC.out nd) hb); clear HB HC hb; have HB := n1_; have HC := n2_; clear n1_ n2_))
        go_loopw [18, 19, 20, 21] (fun v18 v19 v20 v21 wr => ∃ (k : Int) (D : List Int) (more : Bool), v21 = .int .i64 (D.length : Int) ∧ v18 = .int .i64 k ∧ v19 = .bool more ∧ Aside0 (AnyRel L none N k D more) ∧ Aside0 (Kd.R (Kd.int .u64) 36 wr w6.heap.size (fun _ => True) v20 D) ∧ Aside0 (Below w6.heap.size w6 wr)) (fun _ _ _ v _ => (2 * N + 1 - 2 * (intOf v).toNat))
        case atStart => exact ⟨at_, [], true, by first | rfl | go_num, rfl, rfl, HREL, ⟨Kd.R_nil _ _ _ _ _⟩, ⟨Below.refl _ _⟩⟩
        case round =>
          clear HREL
          obtain ⟨k, D, more, rfl, rfl, rfl, HREL, HO, HR⟩ := hrel
          obtain ⟨i, hi⟩ : ∃ i, i = D.length := ⟨_, rfl⟩
          rw [← hi]
          have hiN : i ≤ N := by rw [hi]; exact HREL.out.1
          have HI := Aside0.mk hi
          have HATK := Aside0.mk HREL.out.2.1
          cases more with
          | false =>
            have hnone := HREL.out.2.2.2 rfl
            by_cases hlt : i < N
            · have hd := decide_eq_true hlt
              clear hlt hiN hi
              (go_wp2; go_ret; exact ⟨rfl, below_step HB.out HR.out⟩)
            · have hd := decide_eq_false hlt
              clear hlt hiN hi
              (go_wp2; go_ret; exact ⟨rfl, below_step HB.out HR.out⟩)
          | true =>
            have hsome := HREL.out.2.2.1 rfl
            by_cases hlt : i < N
            · have HLT := Aside0.mk hlt
              have hlz : (i : Int) < (N : Int) := by omega
              obtain ⟨gk, hgk⟩ : ∃ g, g = getG L k := ⟨_, rfl⟩
              have HGK := Aside0.mk hgk
              have HCAP := Aside0.mk (show (D.length + 1) * 8 ≤ 140737488355328 by omega)
              have hstep : N - D.length = (N - (D.length + 1)) + 1 := by omega
              rw [hstep, allG, ← hgk] at hsome
              have HSOME := Aside0.mk hsome
              clear hsome hgk hstep hlt hiN hi HREL
              rcases gk with _ | ⟨y, ey⟩
              · go_wp2_with (first
                  | (go_at_call 30; refine (ref_get _ HM.out (Kd.C_below HC.out HR.out) HLC.out HL0.out HATK.out).mono ?_; rw [← HGK.out]; rintro e w' ⟨rfl, ⟨nd, rfl⟩⟩; simp only [getR]; have n1_ := Aside0.mk (Kd.R_drewN HO.out nd); have n2_ := Aside0.mk (pw_below_drewN HR.out nd); clear HO HR; have HO := n1_; have HR := n2_; clear n1_ n2_)
                  | ((with_reducible refine gate_builtin (b := .append) (xs := #[.tmp 93, .tmp 95]) rfl ?_); at_builtin; refine Kd.R_append (Kd.int .u64) (w0 := w6) w6.heap.size rfl (.tmp 93) (.tmp 95) 32 36 (.int .u64 0) 8 rfl Try.underlying32 (by kernel_rfl) rfl (by decide) (by omega) _ D 0 [.int .u64 0] (fun _ => True) (fun _ => False) rfl rfl ?aP (fun _ hk => hk.elim) ?aF ?aO ?aB ?aS ?aL ?_; (case aP => exact rfl); (case aF => exact (fun _ _ => trivial)); (case aO => exact HO.out); (case aB => exact HR.out); (case aS => exact below_size HR.out); (case aL => exact HCAP.out); intro v1 w1 ho hb hg hat; have n1_ := Aside0.mk ho; have n2_ := Aside0.mk hb; clear HO HR; have HO := n1_; have HR := n2_; clear n1_ n2_ ho hb hg hat))
                refine ⟨⟨k, D ++ [0], false, ?_, rfl, rfl, ⟨?_⟩, HO, HR⟩, ?_⟩
                · rw [List.length_append, List.length_singleton, ← HI.out]; first | rfl | go_num
                · exact ⟨by rw [List.length_append, List.length_singleton, ← HI.out]; exact HLT.out, HATK.out, (fun h => by cases h), fun _ => HSOME.out⟩
                · have := HLT.out
                  simp [intOf]
                  omega
              · have hey := getG_bd HGK.out.symm
                have HEY := Aside0.mk (show ey < 9223372036854775808 by have := HL0.out; omega)
                clear hey
                go_wp2_with (first
                  | (go_at_call 30; refine (ref_get _ HM.out (Kd.C_below HC.out HR.out) HLC.out HL0.out HATK.out).mono ?_; rw [← HGK.out]; rintro e w' ⟨rfl, ⟨nd, rfl⟩⟩; simp only [getR]; have n1_ := Aside0.mk (Kd.R_drewN HO.out nd); have n2_ := Aside0.mk (pw_below_drewN HR.out nd); clear HO HR; have HO := n1_; have HR := n2_; clear n1_ n2_)
                  | ((with_reducible refine gate_builtin (b := .append) (xs := #[.tmp 93, .tmp 95]) rfl ?_); at_builtin; refine Kd.R_append (Kd.int .u64) (w0 := w6) w6.heap.size rfl (.tmp 93) (.tmp 95) 32 36 (.int .u64 0) 8 rfl Try.underlying32 (by kernel_rfl) rfl (by decide) (by omega) _ D y [.int .u64 y] (fun _ => True) (fun _ => False) rfl rfl ?aP (fun _ hk => hk.elim) ?aF ?aO ?aB ?aS ?aL ?_; (case aP => exact rfl); (case aF => exact (fun _ _ => trivial)); (case aO => exact HO.out); (case aB => exact HR.out); (case aS => exact below_size HR.out); (case aL => exact HCAP.out); intro v1 w1 ho hb hg hat; have n1_ := Aside0.mk ho; have n2_ := Aside0.mk hb; clear HO HR; have HO := n1_; have HR := n2_; clear n1_ n2_ ho hb hg hat))
                refine ⟨⟨ey, D ++ [y], true, ?_, rfl, rfl, ⟨?_⟩, HO, HR⟩, ?_⟩
                · rw [List.length_append, List.length_singleton, ← HI.out]; first | rfl | go_num
                · refine ⟨by rw [List.length_append, List.length_singleton, ← HI.out]; exact HLT.out, HEY.out, fun _ => ?_, fun h => by cases h⟩
                  have := HSOME.out
                  rw [this, List.length_append, List.length_singleton]
                  simp only [Option.map_map]
                  congr 1
                  funext q
                  simp
                · have := HLT.out
                  simp [intOf]
                  omega
            · have hd := decide_eq_false hlt
              have hiE : i = N := by omega
              rw [show N - D.length = 0 by omega, allG] at hsome
              clear hlt hiN
              simp at hsome
      · skip
        go_enter Try.func9, Try.ntmps9
        go_wp2_with (first
          | (go_at_call 28; refine (law7_begun _).mono ?_; rintro e w11 ⟨rfl, hb⟩; have m2_ := Aside0.mk (below_step HB.out hb); clear HB; have HB := m2_; clear m2_ hb)
          | (go_at_call 24; refine (law_Of_m2 HM.out (Kd.C_below HC.out HB.out) HL0.out).mono ?_; rintro e w3 ⟨p, rfl, hbo, hb⟩; have HBO := Aside0.mk hbo.toP; have n1_ := Aside0.mk (below_step HB.out hb); have n2_ := Aside0.mk (Kd.C_below HC.out n1_.out); clear HB hbo hb HC; have HB := n1_; have HC := n2_; clear n1_ n2_)
          | (go_at_call 29; refine (gamma_Get _ HBO.out HL0.out).mono ?_; rw [← HG.out]; rintro e w' ⟨rfl, rfl⟩; simp only [getR])
          | (go_at_call 30; refine (ref_get _ HM.out HC.out HLC.out HL0.out HAT.out).mono ?_; rw [← HG.out]; rintro e w' ⟨rfl, ⟨nd, rfl⟩⟩; simp only [getR])
          | (go_at_call 31; refine (gamma_All _ _ (HBO.out.drewN nd) HL0.out HN.out).mono ?_; rw [← HO2.out]; rintro e w6 ⟨hb, va, rfl, hRa⟩; obtain ⟨Aa, ca, rfl, hla, hCa⟩ := Kd.R_reads hRa; have HCA := Aside0.mk hCa; clear hRa hCa hla; have n1_ := Aside0.mk (below_step (pw_below_drewN HB.out nd) hb); have n2_ := Aside0.mk (Kd.C_below (Kd.C_drewN HC.out nd) hb); clear HB HC hb; have HB := n1_; have HC := n2_; clear n1_ n2_))
        go_loopw [18, 19, 20, 21] (fun v18 v19 v20 v21 wr => ∃ (k : Int) (D : List Int) (more : Bool), v21 = .int .i64 (D.length : Int) ∧ v18 = .int .i64 k ∧ v19 = .bool more ∧ Aside0 (AnyRel L (some (la, tt)) N k D more) ∧ Aside0 (Kd.R (Kd.int .u64) 36 wr w6.heap.size (fun _ => True) v20 D) ∧ Aside0 (Below w6.heap.size w6 wr)) (fun _ _ _ v _ => (2 * N + 1 - 2 * (intOf v).toNat))
        case atStart => exact ⟨at_, [], true, by first | rfl | go_num, rfl, rfl, HREL, ⟨Kd.R_nil _ _ _ _ _⟩, ⟨Below.refl _ _⟩⟩
        case round =>
          clear HREL
          obtain ⟨k, D, more, rfl, rfl, rfl, HREL, HO, HR⟩ := hrel
          obtain ⟨i, hi⟩ : ∃ i, i = D.length := ⟨_, rfl⟩
          rw [← hi]
          have hiN : i ≤ N := by rw [hi]; exact HREL.out.1
          have HI := Aside0.mk hi
          have HATK := Aside0.mk HREL.out.2.1
          cases more with
          | false =>
            have hnone := HREL.out.2.2.2 rfl
            by_cases hlt : i < N
            · have hd := decide_eq_true hlt
              clear hlt hiN hi
              (cases hnone)
            · have hd := decide_eq_false hlt
              clear hlt hiN hi
              (cases hnone)
          | true =>
            have hsome := HREL.out.2.2.1 rfl
            by_cases hlt : i < N
            · have HLT := Aside0.mk hlt
              have hlz : (i : Int) < (N : Int) := by omega
              obtain ⟨gk, hgk⟩ : ∃ g, g = getG L k := ⟨_, rfl⟩
              have HGK := Aside0.mk hgk
              have HCAP := Aside0.mk (show (D.length + 1) * 8 ≤ 140737488355328 by omega)
              have hstep : N - D.length = (N - (D.length + 1)) + 1 := by omega
              rw [hstep, allG, ← hgk] at hsome
              have HSOME := Aside0.mk hsome
              clear hsome hgk hstep hlt hiN hi HREL
              rcases gk with _ | ⟨y, ey⟩
              · go_wp2_with (first
                  | (go_at_call 30; refine (ref_get _ HM.out (Kd.C_below HC.out HR.out) HLC.out HL0.out HATK.out).mono ?_; rw [← HGK.out]; rintro e w' ⟨rfl, ⟨nd, rfl⟩⟩; simp only [getR]; have n1_ := Aside0.mk (Kd.R_drewN HO.out nd); have n2_ := Aside0.mk (pw_below_drewN HR.out nd); clear HO HR; have HO := n1_; have HR := n2_; clear n1_ n2_)
                  | ((with_reducible refine gate_builtin (b := .append) (xs := #[.tmp 93, .tmp 95]) rfl ?_); at_builtin; refine Kd.R_append (Kd.int .u64) (w0 := w6) w6.heap.size rfl (.tmp 93) (.tmp 95) 32 36 (.int .u64 0) 8 rfl Try.underlying32 (by kernel_rfl) rfl (by decide) (by omega) _ D 0 [.int .u64 0] (fun _ => True) (fun _ => False) rfl rfl ?aP (fun _ hk => hk.elim) ?aF ?aO ?aB ?aS ?aL ?_; (case aP => exact rfl); (case aF => exact (fun _ _ => trivial)); (case aO => exact HO.out); (case aB => exact HR.out); (case aS => exact below_size HR.out); (case aL => exact HCAP.out); intro v1 w1 ho hb hg hat; have n1_ := Aside0.mk ho; have n2_ := Aside0.mk hb; clear HO HR; have HO := n1_; have HR := n2_; clear n1_ n2_ ho hb hg hat))
                refine ⟨⟨k, D ++ [0], false, ?_, rfl, rfl, ⟨?_⟩, HO, HR⟩, ?_⟩
                · rw [List.length_append, List.length_singleton, ← HI.out]; first | rfl | go_num
                · exact ⟨by rw [List.length_append, List.length_singleton, ← HI.out]; exact HLT.out, HATK.out, (fun h => by cases h), fun _ => HSOME.out⟩
                · have := HLT.out
                  simp [intOf]
                  omega
              · have hey := getG_bd HGK.out.symm
                have HEY := Aside0.mk (show ey < 9223372036854775808 by have := HL0.out; omega)
                clear hey
                go_wp2_with (first
                  | (go_at_call 30; refine (ref_get _ HM.out (Kd.C_below HC.out HR.out) HLC.out HL0.out HATK.out).mono ?_; rw [← HGK.out]; rintro e w' ⟨rfl, ⟨nd, rfl⟩⟩; simp only [getR]; have n1_ := Aside0.mk (Kd.R_drewN HO.out nd); have n2_ := Aside0.mk (pw_below_drewN HR.out nd); clear HO HR; have HO := n1_; have HR := n2_; clear n1_ n2_)
                  | ((with_reducible refine gate_builtin (b := .append) (xs := #[.tmp 93, .tmp 95]) rfl ?_); at_builtin; refine Kd.R_append (Kd.int .u64) (w0 := w6) w6.heap.size rfl (.tmp 93) (.tmp 95) 32 36 (.int .u64 0) 8 rfl Try.underlying32 (by kernel_rfl) rfl (by decide) (by omega) _ D y [.int .u64 y] (fun _ => True) (fun _ => False) rfl rfl ?aP (fun _ hk => hk.elim) ?aF ?aO ?aB ?aS ?aL ?_; (case aP => exact rfl); (case aF => exact (fun _ _ => trivial)); (case aO => exact HO.out); (case aB => exact HR.out); (case aS => exact below_size HR.out); (case aL => exact HCAP.out); intro v1 w1 ho hb hg hat; have n1_ := Aside0.mk ho; have n2_ := Aside0.mk hb; clear HO HR; have HO := n1_; have HR := n2_; clear n1_ n2_ ho hb hg hat))
                refine ⟨⟨ey, D ++ [y], true, ?_, rfl, rfl, ⟨?_⟩, HO, HR⟩, ?_⟩
                · rw [List.length_append, List.length_singleton, ← HI.out]; first | rfl | go_num
                · refine ⟨by rw [List.length_append, List.length_singleton, ← HI.out]; exact HLT.out, HEY.out, fun _ => ?_, fun h => by cases h⟩
                  have := HSOME.out
                  rw [this, List.length_append, List.length_singleton]
                  simp only [Option.map_map]
                  congr 1
                  funext q
                  simp
                · have := HLT.out
                  simp [intOf]
                  omega
            · have hd := decide_eq_false hlt
              have hiE : i = N := by omega
              rw [show N - D.length = 0 by omega, allG] at hsome
              clear hlt hiN
              have hs : la = D ∧ tt = k := by simpa using hsome
              obtain ⟨rfl, rfl⟩ := hs
              rw [hi] at hiE
              subst hiE
              obtain ⟨Aw, cw, rfl, hlw, hCw⟩ := Kd.R_reads HO.out
              have HCW := Aside0.mk hCw
              rw [hi] at hd ⊢
              clear hsome hi hlw hCw HI
              go_wp2
              go_loopw [25] (fun v25 wq => ∃ (j : Nat), v25 = .int .i64 j ∧ j ≤ la.length ∧ Aside0 (Drawn0 wr wq)) (fun v _ => la.length - (intOf v).toNat)
              case atStart => exact ⟨0, by first | rfl | go_num, Nat.zero_le _, ⟨Drawn0.refl _⟩⟩
              case round =>
                obtain ⟨j, rfl, hj, HD⟩ := hrel
                obtain ⟨nq0, rfl⟩ := HD.out.out
                clear HD
                by_cases hlt2 : j < la.length
                · have hj40 : (j : Int) < 40 := by omega
                  have hjl : (j : Int) < (la.length : Int) := by omega
                  obtain ⟨ad1, e1, hx1⟩ := Kd.at_int (Kd.C_below HCA.out HR.out) (j : Int) (Int.natCast_nonneg _) hjl
                  obtain ⟨ad2, e2, hx2⟩ := Kd.at_int HCW.out (j : Int) (Int.natCast_nonneg _) hjl
                  cases e1
                  cases e2
                  have HLT2 := Aside0.mk hlt2
                  replace hx1 : wr.cell? (ad1.add j) = some (.int .u64 (la.getD j 0)) := hx1
                  replace hx2 : wr.cell? (ad2.add j) = some (.int .u64 (la.getD j 0)) := hx2
                  go_wp2
                  go_quiet (fail)
                  go_wp2
                  refine ⟨⟨j + 1, by first | rfl | go_num, HLT2.out, ⟨?_⟩⟩, ?_⟩
                  · exact ⟨⟨_, rfl⟩⟩
                  · have := HLT2.out
                    simp [intOf]
                    omega
                · go_wp2
                  go_ret
                  exact ⟨rfl, below_step HB.out (pw_below_drewN HR.out _)⟩
      · skip
        go_enter Try.func9, Try.ntmps9
        go_wp2_with (first
          | (go_at_call 28; refine (law7_begun _).mono ?_; rintro e w11 ⟨rfl, hb⟩; have m2_ := Aside0.mk (below_step HB.out hb); clear HB; have HB := m2_; clear m2_ hb)
          | (go_at_call 24; refine (law_Of_m2 HM.out (Kd.C_below HC.out HB.out) HL0.out).mono ?_; rintro e w3 ⟨p, rfl, hbo, hb⟩; have HBO := Aside0.mk hbo.toP; have n1_ := Aside0.mk (below_step HB.out hb); have n2_ := Aside0.mk (Kd.C_below HC.out n1_.out); clear HB hbo hb HC; have HB := n1_; have HC := n2_; clear n1_ n2_)
          | (go_at_call 29; refine (gamma_Get _ HBO.out HL0.out).mono ?_; rw [← HG.out]; rintro e w' ⟨rfl, rfl⟩; simp only [getR])
          | (go_at_call 30; refine (ref_get _ HM.out HC.out HLC.out HL0.out HAT.out).mono ?_; rw [← HG.out]; rintro e w' ⟨rfl, ⟨nd, rfl⟩⟩; simp only [getR])
          | (go_at_call 31; refine (gamma_All _ _ (HBO.out.drewN nd) HL0.out HN.out).mono ?_; rw [← HO2.out]; rintro e w6 ⟨hb, va, rfl, hRa⟩; obtain ⟨Aa, ca, rfl, hla, hCa⟩ := Kd.R_reads hRa; have HCA := Aside0.mk hCa; clear hRa hCa hla; have n1_ := Aside0.mk (below_step (pw_below_drewN HB.out nd) hb); have n2_ := Aside0.mk (Kd.C_below (Kd.C_drewN HC.out nd) hb); clear HB HC hb; have HB := n1_; have HC := n2_; clear n1_ n2_))
        go_loopw [18, 19, 20, 21] (fun v18 v19 v20 v21 wr => ∃ (k : Int) (D : List Int) (more : Bool), v21 = .int .i64 (D.length : Int) ∧ v18 = .int .i64 k ∧ v19 = .bool more ∧ Aside0 (AnyRel L (some (la, tt)) N k D more) ∧ Aside0 (Kd.R (Kd.int .u64) 36 wr w6.heap.size (fun _ => True) v20 D) ∧ Aside0 (Below w6.heap.size w6 wr)) (fun _ _ _ v _ => (2 * N + 1 - 2 * (intOf v).toNat))
        case atStart => exact ⟨at_, [], true, by first | rfl | go_num, rfl, rfl, HREL, ⟨Kd.R_nil _ _ _ _ _⟩, ⟨Below.refl _ _⟩⟩
        case round =>
          clear HREL
          obtain ⟨k, D, more, rfl, rfl, rfl, HREL, HO, HR⟩ := hrel
          obtain ⟨i, hi⟩ : ∃ i, i = D.length := ⟨_, rfl⟩
          rw [← hi]
          have hiN : i ≤ N := by rw [hi]; exact HREL.out.1
          have HI := Aside0.mk hi
          have HATK := Aside0.mk HREL.out.2.1
          cases more with
          | false =>
            have hnone := HREL.out.2.2.2 rfl
            by_cases hlt : i < N
            · have hd := decide_eq_true hlt
              clear hlt hiN hi
              (cases hnone)
            · have hd := decide_eq_false hlt
              clear hlt hiN hi
              (cases hnone)
          | true =>
            have hsome := HREL.out.2.2.1 rfl
            by_cases hlt : i < N
            · have HLT := Aside0.mk hlt
              have hlz : (i : Int) < (N : Int) := by omega
              obtain ⟨gk, hgk⟩ : ∃ g, g = getG L k := ⟨_, rfl⟩
              have HGK := Aside0.mk hgk
              have HCAP := Aside0.mk (show (D.length + 1) * 8 ≤ 140737488355328 by omega)
              have hstep : N - D.length = (N - (D.length + 1)) + 1 := by omega
              rw [hstep, allG, ← hgk] at hsome
              have HSOME := Aside0.mk hsome
              clear hsome hgk hstep hlt hiN hi HREL
              rcases gk with _ | ⟨y, ey⟩
              · go_wp2_with (first
                  | (go_at_call 30; refine (ref_get _ HM.out (Kd.C_below HC.out HR.out) HLC.out HL0.out HATK.out).mono ?_; rw [← HGK.out]; rintro e w' ⟨rfl, ⟨nd, rfl⟩⟩; simp only [getR]; have n1_ := Aside0.mk (Kd.R_drewN HO.out nd); have n2_ := Aside0.mk (pw_below_drewN HR.out nd); clear HO HR; have HO := n1_; have HR := n2_; clear n1_ n2_)
                  | ((with_reducible refine gate_builtin (b := .append) (xs := #[.tmp 93, .tmp 95]) rfl ?_); at_builtin; refine Kd.R_append (Kd.int .u64) (w0 := w6) w6.heap.size rfl (.tmp 93) (.tmp 95) 32 36 (.int .u64 0) 8 rfl Try.underlying32 (by kernel_rfl) rfl (by decide) (by omega) _ D 0 [.int .u64 0] (fun _ => True) (fun _ => False) rfl rfl ?aP (fun _ hk => hk.elim) ?aF ?aO ?aB ?aS ?aL ?_; (case aP => exact rfl); (case aF => exact (fun _ _ => trivial)); (case aO => exact HO.out); (case aB => exact HR.out); (case aS => exact below_size HR.out); (case aL => exact HCAP.out); intro v1 w1 ho hb hg hat; have n1_ := Aside0.mk ho; have n2_ := Aside0.mk hb; clear HO HR; have HO := n1_; have HR := n2_; clear n1_ n2_ ho hb hg hat))
                refine ⟨⟨k, D ++ [0], false, ?_, rfl, rfl, ⟨?_⟩, HO, HR⟩, ?_⟩
                · rw [List.length_append, List.length_singleton, ← HI.out]; first | rfl | go_num
                · exact ⟨by rw [List.length_append, List.length_singleton, ← HI.out]; exact HLT.out, HATK.out, (fun h => by cases h), fun _ => HSOME.out⟩
                · have := HLT.out
                  simp [intOf]
                  omega
              · have hey := getG_bd HGK.out.symm
                have HEY := Aside0.mk (show ey < 9223372036854775808 by have := HL0.out; omega)
                clear hey
                go_wp2_with (first
                  | (go_at_call 30; refine (ref_get _ HM.out (Kd.C_below HC.out HR.out) HLC.out HL0.out HATK.out).mono ?_; rw [← HGK.out]; rintro e w' ⟨rfl, ⟨nd, rfl⟩⟩; simp only [getR]; have n1_ := Aside0.mk (Kd.R_drewN HO.out nd); have n2_ := Aside0.mk (pw_below_drewN HR.out nd); clear HO HR; have HO := n1_; have HR := n2_; clear n1_ n2_)
                  | ((with_reducible refine gate_builtin (b := .append) (xs := #[.tmp 93, .tmp 95]) rfl ?_); at_builtin; refine Kd.R_append (Kd.int .u64) (w0 := w6) w6.heap.size rfl (.tmp 93) (.tmp 95) 32 36 (.int .u64 0) 8 rfl Try.underlying32 (by kernel_rfl) rfl (by decide) (by omega) _ D y [.int .u64 y] (fun _ => True) (fun _ => False) rfl rfl ?aP (fun _ hk => hk.elim) ?aF ?aO ?aB ?aS ?aL ?_; (case aP => exact rfl); (case aF => exact (fun _ _ => trivial)); (case aO => exact HO.out); (case aB => exact HR.out); (case aS => exact below_size HR.out); (case aL => exact HCAP.out); intro v1 w1 ho hb hg hat; have n1_ := Aside0.mk ho; have n2_ := Aside0.mk hb; clear HO HR; have HO := n1_; have HR := n2_; clear n1_ n2_ ho hb hg hat))
                refine ⟨⟨ey, D ++ [y], true, ?_, rfl, rfl, ⟨?_⟩, HO, HR⟩, ?_⟩
                · rw [List.length_append, List.length_singleton, ← HI.out]; first | rfl | go_num
                · refine ⟨by rw [List.length_append, List.length_singleton, ← HI.out]; exact HLT.out, HEY.out, fun _ => ?_, fun h => by cases h⟩
                  have := HSOME.out
                  rw [this, List.length_append, List.length_singleton]
                  simp only [Option.map_map]
                  congr 1
                  funext q
                  simp
                · have := HLT.out
                  simp [intOf]
                  omega
            · have hd := decide_eq_false hlt
              have hiE : i = N := by omega
              rw [show N - D.length = 0 by omega, allG] at hsome
              clear hlt hiN
              have hs : la = D ∧ tt = k := by simpa using hsome
              obtain ⟨rfl, rfl⟩ := hs
              rw [hi] at hiE
              subst hiE
              obtain ⟨Aw, cw, rfl, hlw, hCw⟩ := Kd.R_reads HO.out
              have HCW := Aside0.mk hCw
              rw [hi] at hd ⊢
              clear hsome hi hlw hCw HI
              go_wp2
              go_loopw [25] (fun v25 wq => ∃ (j : Nat), v25 = .int .i64 j ∧ j ≤ la.length ∧ Aside0 (Drawn0 wr wq)) (fun v _ => la.length - (intOf v).toNat)
              case atStart => exact ⟨0, by first | rfl | go_num, Nat.zero_le _, ⟨Drawn0.refl _⟩⟩
              case round =>
                obtain ⟨j, rfl, hj, HD⟩ := hrel
                obtain ⟨nq0, rfl⟩ := HD.out.out
                clear HD
                by_cases hlt2 : j < la.length
                · have hj40 : (j : Int) < 40 := by omega
                  have hjl : (j : Int) < (la.length : Int) := by omega
                  obtain ⟨ad1, e1, hx1⟩ := Kd.at_int (Kd.C_below HCA.out HR.out) (j : Int) (Int.natCast_nonneg _) hjl
                  obtain ⟨ad2, e2, hx2⟩ := Kd.at_int HCW.out (j : Int) (Int.natCast_nonneg _) hjl
                  cases e1
                  cases e2
                  have HLT2 := Aside0.mk hlt2
                  replace hx1 : wr.cell? (ad1.add j) = some (.int .u64 (la.getD j 0)) := hx1
                  replace hx2 : wr.cell? (ad2.add j) = some (.int .u64 (la.getD j 0)) := hx2
                  go_wp2
                  go_quiet (fail)
                  go_wp2
                  refine ⟨⟨j + 1, by first | rfl | go_num, HLT2.out, ⟨?_⟩⟩, ?_⟩
                  · exact ⟨⟨_, rfl⟩⟩
                  · have := HLT2.out
                    simp [intOf]
                    omega
                · go_wp2
                  go_ret
                  exact ⟨rfl, below_step HB.out (pw_below_drewN HR.out _)⟩
  · skip
    obtain ⟨L, hL⟩ : ∃ L, L = l := ⟨_, rfl⟩
    obtain ⟨M, hM⟩ : ∃ M, M = len0 := ⟨_, rfl⟩
    rw [← hM] at hC0 hcut ⊢
    rw [← hL] at hC0
    have hML : M = L.length := by rw [hM, hL, hlen]
    have hcd : decide ((200 : Int) < (M : Int)) = false := decide_eq_false (by omega)
    have hcd2 : decide (200 < M) = false := decide_eq_false (by omega)
    have hmi : (M : Int) ≤ 200 := by omega
    have HC := Aside0.mk hC0
    have HM := Aside0.mk hML
    have HM3 := Aside0.mk (show M ≤ 200 by omega)
    have HLC := Aside0.mk (show M ≤ c0 by omega)
    have HL := Aside0.mk (show L.length < 1000000000 by omega)
    have HL1 := Aside0.mk (show L.length < 100000000 by omega)
    have HL0 := Aside0.mk (show L.length < 100000000000 by omega)
    clear hC0 hlen hM hL hML hcut hlc hcm
    obtain ⟨g, hg⟩ : ∃ g, g = getG L at_ := ⟨_, rfl⟩
    have HG := Aside0.mk hg
    by_cases hn : n < 0 ∨ 40 < n
    · have hn0 : decide (n < 0) = true ∨ (decide (n < 0) = false ∧ decide (40 < n) = true) := by
        by_cases h : n < 0
        · exact .inl (decide_eq_true h)
        · exact .inr ⟨decide_eq_false h, decide_eq_true (by omega)⟩
      clear hn hg
      rcases hn0 with h0 | ⟨h0, h1⟩ <;> rcases g with _ | ⟨x, e⟩
      all_goals
        go_enter Try.func9, Try.ntmps9
        go_wp2_with (first
          | (go_at_call 28; refine (law7_begun _).mono ?_; rintro e w11 ⟨rfl, hb⟩; have m2_ := Aside0.mk (below_step HB.out hb); clear HB; have HB := m2_; clear m2_ hb)
          | (go_at_call 24; refine (law_Of_m2 HM.out (Kd.C_below HC.out HB.out) HL0.out).mono ?_; rintro e w3 ⟨p, rfl, hbo, hb⟩; have HBO := Aside0.mk hbo.toP; have n1_ := Aside0.mk (below_step HB.out hb); have n2_ := Aside0.mk (Kd.C_below HC.out n1_.out); clear HB hbo hb HC; have HB := n1_; have HC := n2_; clear n1_ n2_)
          | (go_at_call 29; refine (gamma_Get _ HBO.out HL0.out).mono ?_; rw [← HG.out]; rintro e w' ⟨rfl, rfl⟩; simp only [getR])
          | (go_at_call 30; refine (ref_get _ HM.out HC.out HLC.out HL0.out HAT.out).mono ?_; rw [← HG.out]; rintro e w' ⟨rfl, ⟨nd, rfl⟩⟩; simp only [getR]))
        go_ret
        exact ⟨rfl, pw_below_drewN HB.out _⟩
    · obtain ⟨N, rfl⟩ := Int.eq_ofNat_of_zero_le (show 0 ≤ n by omega)
      have h0 : decide ((N : Int) < 0) = false := decide_eq_false (by omega)
      have h1 : decide ((40 : Int) < (N : Int)) = false := decide_eq_false (by omega)
      have hN40 : (N : Int) ≤ 40 := by omega
      have HN := Aside0.mk (show (N : Int) < 1000000000 by omega)
      obtain ⟨o, ho⟩ : ∃ o, o = allI L at_ (N : Int) := ⟨_, rfl⟩
      have HO2 := Aside0.mk ho
      have HREL := Aside0.mk (show AnyRel L o N at_ [] true from ⟨Nat.zero_le _, HAT.out, fun _ => by
        rw [ho, allI, if_neg (by omega), Int.toNat_natCast]
        cases allG L at_ N <;> simp [*], fun h => by cases h⟩)
      clear hn hg ho
      rcases o with _ | ⟨la, tt⟩ <;> rcases g with _ | ⟨x, e⟩
      · skip
        go_enter Try.func9, Try.ntmps9
        go_wp2_with (first
          | (go_at_call 28; refine (law7_begun _).mono ?_; rintro e w11 ⟨rfl, hb⟩; have m2_ := Aside0.mk (below_step HB.out hb); clear HB; have HB := m2_; clear m2_ hb)
          | (go_at_call 24; refine (law_Of_m2 HM.out (Kd.C_below HC.out HB.out) HL0.out).mono ?_; rintro e w3 ⟨p, rfl, hbo, hb⟩; have HBO := Aside0.mk hbo.toP; have n1_ := Aside0.mk (below_step HB.out hb); have n2_ := Aside0.mk (Kd.C_below HC.out n1_.out); clear HB hbo hb HC; have HB := n1_; have HC := n2_; clear n1_ n2_)
          | (go_at_call 29; refine (gamma_Get _ HBO.out HL0.out).mono ?_; rw [← HG.out]; rintro e w' ⟨rfl, rfl⟩; simp only [getR])
          | (go_at_call 30; refine (ref_get _ HM.out HC.out HLC.out HL0.out HAT.out).mono ?_; rw [← HG.out]; rintro e w' ⟨rfl, ⟨nd, rfl⟩⟩; simp only [getR])
          | (go_at_call 31; refine (gamma_All _ _ (HBO.out.drewN nd) HL0.out HN.out).mono ?_; rw [← HO2.out]; rintro e w6 ⟨hb, rfl⟩; have n1_ := Aside0.mk (below_step (pw_below_drewN HB.out nd) hb); have n2_ := Aside0.mk (Kd.C_below (Kd.C_drewN HC.out nd) hb); clear HB HC hb; have HB := n1_; have HC := n2_; clear n1_ n2_))
        go_loopw [18, 19, 20, 21] (fun v18 v19 v20 v21 wr => ∃ (k : Int) (D : List Int) (more : Bool), v21 = .int .i64 (D.length : Int) ∧ v18 = .int .i64 k ∧ v19 = .bool more ∧ Aside0 (AnyRel L none N k D more) ∧ Aside0 (Kd.R (Kd.int .u64) 36 wr w6.heap.size (fun _ => True) v20 D) ∧ Aside0 (Below w6.heap.size w6 wr)) (fun _ _ _ v _ => (2 * N + 1 - 2 * (intOf v).toNat))
        case atStart => exact ⟨at_, [], true, by first | rfl | go_num, rfl, rfl, HREL, ⟨Kd.R_nil _ _ _ _ _⟩, ⟨Below.refl _ _⟩⟩
        case round =>
          clear HREL
          obtain ⟨k, D, more, rfl, rfl, rfl, HREL, HO, HR⟩ := hrel
          obtain ⟨i, hi⟩ : ∃ i, i = D.length := ⟨_, rfl⟩
          rw [← hi]
          have hiN : i ≤ N := by rw [hi]; exact HREL.out.1
          have HI := Aside0.mk hi
          have HATK := Aside0.mk HREL.out.2.1
          cases more with
          | false =>
            have hnone := HREL.out.2.2.2 rfl
            by_cases hlt : i < N
            · have hd := decide_eq_true hlt
              clear hlt hiN hi
              (go_wp2; go_ret; exact ⟨rfl, below_step HB.out HR.out⟩)
            · have hd := decide_eq_false hlt
              clear hlt hiN hi
              (go_wp2; go_ret; exact ⟨rfl, below_step HB.out HR.out⟩)
          | true =>
            have hsome := HREL.out.2.2.1 rfl
            by_cases hlt : i < N
            · have HLT := Aside0.mk hlt
              have hlz : (i : Int) < (N : Int) := by omega
              obtain ⟨gk, hgk⟩ : ∃ g, g = getG L k := ⟨_, rfl⟩
              have HGK := Aside0.mk hgk
              have HCAP := Aside0.mk (show (D.length + 1) * 8 ≤ 140737488355328 by omega)
              have hstep : N - D.length = (N - (D.length + 1)) + 1 := by omega
              rw [hstep, allG, ← hgk] at hsome
              have HSOME := Aside0.mk hsome
              clear hsome hgk hstep hlt hiN hi HREL
              rcases gk with _ | ⟨y, ey⟩
              · go_wp2_with (first
                  | (go_at_call 30; refine (ref_get _ HM.out (Kd.C_below HC.out HR.out) HLC.out HL0.out HATK.out).mono ?_; rw [← HGK.out]; rintro e w' ⟨rfl, ⟨nd, rfl⟩⟩; simp only [getR]; have n1_ := Aside0.mk (Kd.R_drewN HO.out nd); have n2_ := Aside0.mk (pw_below_drewN HR.out nd); clear HO HR; have HO := n1_; have HR := n2_; clear n1_ n2_)
                  | ((with_reducible refine gate_builtin (b := .append) (xs := #[.tmp 93, .tmp 95]) rfl ?_); at_builtin; refine Kd.R_append (Kd.int .u64) (w0 := w6) w6.heap.size rfl (.tmp 93) (.tmp 95) 32 36 (.int .u64 0) 8 rfl Try.underlying32 (by kernel_rfl) rfl (by decide) (by omega) _ D 0 [.int .u64 0] (fun _ => True) (fun _ => False) rfl rfl ?aP (fun _ hk => hk.elim) ?aF ?aO ?aB ?aS ?aL ?_; (case aP => exact rfl); (case aF => exact (fun _ _ => trivial)); (case aO => exact HO.out); (case aB => exact HR.out); (case aS => exact below_size HR.out); (case aL => exact HCAP.out); intro v1 w1 ho hb hg hat; have n1_ := Aside0.mk ho; have n2_ := Aside0.mk hb; clear HO HR; have HO := n1_; have HR := n2_; clear n1_ n2_ ho hb hg hat))
                refine ⟨⟨k, D ++ [0], false, ?_, rfl, rfl, ⟨?_⟩, HO, HR⟩, ?_⟩
                · rw [List.length_append, List.length_singleton, ← HI.out]; first | rfl | go_num
                · exact ⟨by rw [List.length_append, List.length_singleton, ← HI.out]; exact HLT.out, HATK.out, (fun h => by cases h), fun _ => HSOME.out⟩
                · have := HLT.out
                  simp [intOf]
                  omega
              · have hey := getG_bd HGK.out.symm
                have HEY := Aside0.mk (show ey < 9223372036854775808 by have := HL0.out; omega)
                clear hey
                go_wp2_with (first
                  | (go_at_call 30; refine (ref_get _ HM.out (Kd.C_below HC.out HR.out) HLC.out HL0.out HATK.out).mono ?_; rw [← HGK.out]; rintro e w' ⟨rfl, ⟨nd, rfl⟩⟩; simp only [getR]; have n1_ := Aside0.mk (Kd.R_drewN HO.out nd); have n2_ := Aside0.mk (pw_below_drewN HR.out nd); clear HO HR; have HO := n1_; have HR := n2_; clear n1_ n2_)
                  | ((with_reducible refine gate_builtin (b := .append) (xs := #[.tmp 93, .tmp 95]) rfl ?_); at_builtin; refine Kd.R_append (Kd.int .u64) (w0 := w6) w6.heap.size rfl (.tmp 93) (.tmp 95) 32 36 (.int .u64 0) 8 rfl Try.underlying32 (by kernel_rfl) rfl (by decide) (by omega) _ D y [.int .u64 y] (fun _ => True) (fun _ => False) rfl rfl ?aP (fun _ hk => hk.elim) ?aF ?aO ?aB ?aS ?aL ?_; (case aP => exact rfl); (case aF => exact (fun _ _ => trivial)); (case aO => exact HO.out); (case aB => exact HR.out); (case aS => exact below_size HR.out); (case aL => exact HCAP.out); intro v1 w1 ho hb hg hat; have n1_ := Aside0.mk ho; have n2_ := Aside0.mk hb; clear HO HR; have HO := n1_; have HR := n2_; clear n1_ n2_ ho hb hg hat))
                refine ⟨⟨ey, D ++ [y], true, ?_, rfl, rfl, ⟨?_⟩, HO, HR⟩, ?_⟩
                · rw [List.length_append, List.length_singleton, ← HI.out]; first | rfl | go_num
                · refine ⟨by rw [List.length_append, List.length_singleton, ← HI.out]; exact HLT.out, HEY.out, fun _ => ?_, fun h => by cases h⟩
                  have := HSOME.out
                  rw [this, List.length_append, List.length_singleton]
                  simp only [Option.map_map]
                  congr 1
                  funext q
                  simp
                · have := HLT.out
                  simp [intOf]
                  omega
            · have hd := decide_eq_false hlt
              have hiE : i = N := by omega
              rw [show N - D.length = 0 by omega, allG] at hsome
              clear hlt hiN
              simp at hsome
      · skip
        go_enter Try.func9, Try.ntmps9
        go_wp2_with (first
          | (go_at_call 28; refine (law7_begun _).mono ?_; rintro e w11 ⟨rfl, hb⟩; have m2_ := Aside0.mk (below_step HB.out hb); clear HB; have HB := m2_; clear m2_ hb)
          | (go_at_call 24; refine (law_Of_m2 HM.out (Kd.C_below HC.out HB.out) HL0.out).mono ?_; rintro e w3 ⟨p, rfl, hbo, hb⟩; have HBO := Aside0.mk hbo.toP; have n1_ := Aside0.mk (below_step HB.out hb); have n2_ := Aside0.mk (Kd.C_below HC.out n1_.out); clear HB hbo hb HC; have HB := n1_; have HC := n2_; clear n1_ n2_)
          | (go_at_call 29; refine (gamma_Get _ HBO.out HL0.out).mono ?_; rw [← HG.out]; rintro e w' ⟨rfl, rfl⟩; simp only [getR])
          | (go_at_call 30; refine (ref_get _ HM.out HC.out HLC.out HL0.out HAT.out).mono ?_; rw [← HG.out]; rintro e w' ⟨rfl, ⟨nd, rfl⟩⟩; simp only [getR])
          | (go_at_call 31; refine (gamma_All _ _ (HBO.out.drewN nd) HL0.out HN.out).mono ?_; rw [← HO2.out]; rintro e w6 ⟨hb, rfl⟩; have n1_ := Aside0.mk (below_step (pw_below_drewN HB.out nd) hb); have n2_ := Aside0.mk (Kd.C_below (Kd.C_drewN HC.out nd) hb); clear HB HC hb; have HB := n1_; have HC := n2_; clear n1_ n2_))
        go_loopw [18, 19, 20, 21] (fun v18 v19 v20 v21 wr => ∃ (k : Int) (D : List Int) (more : Bool), v21 = .int .i64 (D.length : Int) ∧ v18 = .int .i64 k ∧ v19 = .bool more ∧ Aside0 (AnyRel L none N k D more) ∧ Aside0 (Kd.R (Kd.int .u64) 36 wr w6.heap.size (fun _ => True) v20 D) ∧ Aside0 (Below w6.heap.size w6 wr)) (fun _ _ _ v _ => (2 * N + 1 - 2 * (intOf v).toNat))
        case atStart => exact ⟨at_, [], true, by first | rfl | go_num, rfl, rfl, HREL, ⟨Kd.R_nil _ _ _ _ _⟩, ⟨Below.refl _ _⟩⟩
        case round =>
          clear HREL
          obtain ⟨k, D, more, rfl, rfl, rfl, HREL, HO, HR⟩ := hrel
          obtain ⟨i, hi⟩ : ∃ i, i = D.length := ⟨_, rfl⟩
          rw [← hi]
          have hiN : i ≤ N := by rw [hi]; exact HREL.out.1
          have HI := Aside0.mk hi
          have HATK := Aside0.mk HREL.out.2.1
          cases more with
          | false =>
            have hnone := HREL.out.2.2.2 rfl
            by_cases hlt : i < N
            · have hd := decide_eq_true hlt
              clear hlt hiN hi
              (go_wp2; go_ret; exact ⟨rfl, below_step HB.out HR.out⟩)
            · have hd := decide_eq_false hlt
              clear hlt hiN hi
              (go_wp2; go_ret; exact ⟨rfl, below_step HB.out HR.out⟩)
          | true =>
            have hsome := HREL.out.2.2.1 rfl
            by_cases hlt : i < N
            · have HLT := Aside0.mk hlt
              have hlz : (i : Int) < (N : Int) := by omega
              obtain ⟨gk, hgk⟩ : ∃ g, g = getG L k := ⟨_, rfl⟩
              have HGK := Aside0.mk hgk
              have HCAP := Aside0.mk (show (D.length + 1) * 8 ≤ 140737488355328 by omega)
              have hstep : N - D.length = (N - (D.length + 1)) + 1 := by omega
              rw [hstep, allG, ← hgk] at hsome
              have HSOME := Aside0.mk hsome
              clear hsome hgk hstep hlt hiN hi HREL
              rcases gk with _ | ⟨y, ey⟩
              · go_wp2_with (first
                  | (go_at_call 30; refine (ref_get _ HM.out (Kd.C_below HC.out HR.out) HLC.out HL0.out HATK.out).mono ?_; rw [← HGK.out]; rintro e w' ⟨rfl, ⟨nd, rfl⟩⟩; simp only [getR]; have n1_ := Aside0.mk (Kd.R_drewN HO.out nd); have n2_ := Aside0.mk (pw_below_drewN HR.out nd); clear HO HR; have HO := n1_; have HR := n2_; clear n1_ n2_)
                  | ((with_reducible refine gate_builtin (b := .append) (xs := #[.tmp 93, .tmp 95]) rfl ?_); at_builtin; refine Kd.R_append (Kd.int .u64) (w0 := w6) w6.heap.size rfl (.tmp 93) (.tmp 95) 32 36 (.int .u64 0) 8 rfl Try.underlying32 (by kernel_rfl) rfl (by decide) (by omega) _ D 0 [.int .u64 0] (fun _ => True) (fun _ => False) rfl rfl ?aP (fun _ hk => hk.elim) ?aF ?aO ?aB ?aS ?aL ?_; (case aP => exact rfl); (case aF => exact (fun _ _ => trivial)); (case aO => exact HO.out); (case aB => exact HR.out); (case aS => exact below_size HR.out); (case aL => exact HCAP.out); intro v1 w1 ho hb hg hat; have n1_ := Aside0.mk ho; have n2_ := Aside0.mk hb; clear HO HR; have HO := n1_; have HR := n2_; clear n1_ n2_ ho hb hg hat))
                refine ⟨⟨k, D ++ [0], false, ?_, rfl, rfl, ⟨?_⟩, HO, HR⟩, ?_⟩
                · rw [List.length_append, List.length_singleton, ← HI.out]; first | rfl | go_num
                · exact ⟨by rw [List.length_append, List.length_singleton, ← HI.out]; exact HLT.out, HATK.out, (fun h => by cases h), fun _ => HSOME.out⟩
                · have := HLT.out
                  simp [intOf]
                  omega
              · have hey := getG_bd HGK.out.symm
                have HEY := Aside0.mk (show ey < 9223372036854775808 by have := HL0.out; omega)
                clear hey
                go_wp2_with (first
                  | (go_at_call 30; refine (ref_get _ HM.out (Kd.C_below HC.out HR.out) HLC.out HL0.out HATK.out).mono ?_; rw [← HGK.out]; rintro e w' ⟨rfl, ⟨nd, rfl⟩⟩; simp only [getR]; have n1_ := Aside0.mk (Kd.R_drewN HO.out nd); have n2_ := Aside0.mk (pw_below_drewN HR.out nd); clear HO HR; have HO := n1_; have HR := n2_; clear n1_ n2_)
                  | ((with_reducible refine gate_builtin (b := .append) (xs := #[.tmp 93, .tmp 95]) rfl ?_); at_builtin; refine Kd.R_append (Kd.int .u64) (w0 := w6) w6.heap.size rfl (.tmp 93) (.tmp 95) 32 36 (.int .u64 0) 8 rfl Try.underlying32 (by kernel_rfl) rfl (by decide) (by omega) _ D y [.int .u64 y] (fun _ => True) (fun _ => False) rfl rfl ?aP (fun _ hk => hk.elim) ?aF ?aO ?aB ?aS ?aL ?_; (case aP => exact rfl); (case aF => exact (fun _ _ => trivial)); (case aO => exact HO.out); (case aB => exact HR.out); (case aS => exact below_size HR.out); (case aL => exact HCAP.out); intro v1 w1 ho hb hg hat; have n1_ := Aside0.mk ho; have n2_ := Aside0.mk hb; clear HO HR; have HO := n1_; have HR := n2_; clear n1_ n2_ ho hb hg hat))
                refine ⟨⟨ey, D ++ [y], true, ?_, rfl, rfl, ⟨?_⟩, HO, HR⟩, ?_⟩
                · rw [List.length_append, List.length_singleton, ← HI.out]; first | rfl | go_num
                · refine ⟨by rw [List.length_append, List.length_singleton, ← HI.out]; exact HLT.out, HEY.out, fun _ => ?_, fun h => by cases h⟩
                  have := HSOME.out
                  rw [this, List.length_append, List.length_singleton]
                  simp only [Option.map_map]
                  congr 1
                  funext q
                  simp
                · have := HLT.out
                  simp [intOf]
                  omega
            · have hd := decide_eq_false hlt
              have hiE : i = N := by omega
              rw [show N - D.length = 0 by omega, allG] at hsome
              clear hlt hiN
              simp at hsome
      · skip
        go_enter Try.func9, Try.ntmps9
        go_wp2_with (first
          | (go_at_call 28; refine (law7_begun _).mono ?_; rintro e w11 ⟨rfl, hb⟩; have m2_ := Aside0.mk (below_step HB.out hb); clear HB; have HB := m2_; clear m2_ hb)
          | (go_at_call 24; refine (law_Of_m2 HM.out (Kd.C_below HC.out HB.out) HL0.out).mono ?_; rintro e w3 ⟨p, rfl, hbo, hb⟩; have HBO := Aside0.mk hbo.toP; have n1_ := Aside0.mk (below_step HB.out hb); have n2_ := Aside0.mk (Kd.C_below HC.out n1_.out); clear HB hbo hb HC; have HB := n1_; have HC := n2_; clear n1_ n2_)
          | (go_at_call 29; refine (gamma_Get _ HBO.out HL0.out).mono ?_; rw [← HG.out]; rintro e w' ⟨rfl, rfl⟩; simp only [getR])
          | (go_at_call 30; refine (ref_get _ HM.out HC.out HLC.out HL0.out HAT.out).mono ?_; rw [← HG.out]; rintro e w' ⟨rfl, ⟨nd, rfl⟩⟩; simp only [getR])
          | (go_at_call 31; refine (gamma_All _ _ (HBO.out.drewN nd) HL0.out HN.out).mono ?_; rw [← HO2.out]; rintro e w6 ⟨hb, va, rfl, hRa⟩; obtain ⟨Aa, ca, rfl, hla, hCa⟩ := Kd.R_reads hRa; have HCA := Aside0.mk hCa; clear hRa hCa hla; have n1_ := Aside0.mk (below_step (pw_below_drewN HB.out nd) hb); have n2_ := Aside0.mk (Kd.C_below (Kd.C_drewN HC.out nd) hb); clear HB HC hb; have HB := n1_; have HC := n2_; clear n1_ n2_))
        go_loopw [18, 19, 20, 21] (fun v18 v19 v20 v21 wr => ∃ (k : Int) (D : List Int) (more : Bool), v21 = .int .i64 (D.length : Int) ∧ v18 = .int .i64 k ∧ v19 = .bool more ∧ Aside0 (AnyRel L (some (la, tt)) N k D more) ∧ Aside0 (Kd.R (Kd.int .u64) 36 wr w6.heap.size (fun _ => True) v20 D) ∧ Aside0 (Below w6.heap.size w6 wr)) (fun _ _ _ v _ => (2 * N + 1 - 2 * (intOf v).toNat))
        case atStart => exact ⟨at_, [], true, by first | rfl | go_num, rfl, rfl, HREL, ⟨Kd.R_nil _ _ _ _ _⟩, ⟨Below.refl _ _⟩⟩
        case round =>
          clear HREL
          obtain ⟨k, D, more, rfl, rfl, rfl, HREL, HO, HR⟩ := hrel
          obtain ⟨i, hi⟩ : ∃ i, i = D.length := ⟨_, rfl⟩
          rw [← hi]
          have hiN : i ≤ N := by rw [hi]; exact HREL.out.1
          have HI := Aside0.mk hi
          have HATK := Aside0.mk HREL.out.2.1
          cases more with
          | false =>
            have hnone := HREL.out.2.2.2 rfl
            by_cases hlt : i < N
            · have hd := decide_eq_true hlt
              clear hlt hiN hi
              (cases hnone)
            · have hd := decide_eq_false hlt
              clear hlt hiN hi
              (cases hnone)
          | true =>
            have hsome := HREL.out.2.2.1 rfl
            by_cases hlt : i < N
            · have HLT := Aside0.mk hlt
              have hlz : (i : Int) < (N : Int) := by omega
              obtain ⟨gk, hgk⟩ : ∃ g, g = getG L k := ⟨_, rfl⟩
              have HGK := Aside0.mk hgk
              have HCAP := Aside0.mk (show (D.length + 1) * 8 ≤ 140737488355328 by omega)
              have hstep : N - D.length = (N - (D.length + 1)) + 1 := by omega
              rw [hstep, allG, ← hgk] at hsome
              have HSOME := Aside0.mk hsome
              clear hsome hgk hstep hlt hiN hi HREL
              rcases gk with _ | ⟨y, ey⟩
              · go_wp2_with (first
                  | (go_at_call 30; refine (ref_get _ HM.out (Kd.C_below HC.out HR.out) HLC.out HL0.out HATK.out).mono ?_; rw [← HGK.out]; rintro e w' ⟨rfl, ⟨nd, rfl⟩⟩; simp only [getR]; have n1_ := Aside0.mk (Kd.R_drewN HO.out nd); have n2_ := Aside0.mk (pw_below_drewN HR.out nd); clear HO HR; have HO := n1_; have HR := n2_; clear n1_ n2_)
                  | ((with_reducible refine gate_builtin (b := .append) (xs := #[.tmp 93, .tmp 95]) rfl ?_); at_builtin; refine Kd.R_append (Kd.int .u64) (w0 := w6) w6.heap.size rfl (.tmp 93) (.tmp 95) 32 36 (.int .u64 0) 8 rfl Try.underlying32 (by kernel_rfl) rfl (by decide) (by omega) _ D 0 [.int .u64 0] (fun _ => True) (fun _ => False) rfl rfl ?aP (fun _ hk => hk.elim) ?aF ?aO ?aB ?aS ?aL ?_; (case aP => exact rfl); (case aF => exact (fun _ _ => trivial)); (case aO => exact HO.out); (case aB => exact HR.out); (case aS => exact below_size HR.out); (case aL => exact HCAP.out); intro v1 w1 ho hb hg hat; have n1_ := Aside0.mk ho; have n2_ := Aside0.mk hb; clear HO HR; have HO := n1_; have HR := n2_; clear n1_ n2_ ho hb hg hat))
                refine ⟨⟨k, D ++ [0], false, ?_, rfl, rfl, ⟨?_⟩, HO, HR⟩, ?_⟩
                · rw [List.length_append, List.length_singleton, ← HI.out]; first | rfl | go_num
                · exact ⟨by rw [List.length_append, List.length_singleton, ← HI.out]; exact HLT.out, HATK.out, (fun h => by cases h), fun _ => HSOME.out⟩
                · have := HLT.out
                  simp [intOf]
                  omega
              · have hey := getG_bd HGK.out.symm
                have HEY := Aside0.mk (show ey < 9223372036854775808 by have := HL0.out; omega)
                clear hey
                go_wp2_with (first
                  | (go_at_call 30; refine (ref_get _ HM.out (Kd.C_below HC.out HR.out) HLC.out HL0.out HATK.out).mono ?_; rw [← HGK.out]; rintro e w' ⟨rfl, ⟨nd, rfl⟩⟩; simp only [getR]; have n1_ := Aside0.mk (Kd.R_drewN HO.out nd); have n2_ := Aside0.mk (pw_below_drewN HR.out nd); clear HO HR; have HO := n1_; have HR := n2_; clear n1_ n2_)
                  | ((with_reducible refine gate_builtin (b := .append) (xs := #[.tmp 93, .tmp 95]) rfl ?_); at_builtin; refine Kd.R_append (Kd.int .u64) (w0 := w6) w6.heap.size rfl (.tmp 93) (.tmp 95) 32 36 (.int .u64 0) 8 rfl Try.underlying32 (by kernel_rfl) rfl (by decide) (by omega) _ D y [.int .u64 y] (fun _ => True) (fun _ => False) rfl rfl ?aP (fun _ hk => hk.elim) ?aF ?aO ?aB ?aS ?aL ?_; (case aP => exact rfl); (case aF => exact (fun _ _ => trivial)); (case aO => exact HO.out); (case aB => exact HR.out); (case aS => exact below_size HR.out); (case aL => exact HCAP.out); intro v1 w1 ho hb hg hat; have n1_ := Aside0.mk ho; have n2_ := Aside0.mk hb; clear HO HR; have HO := n1_; have HR := n2_; clear n1_ n2_ ho hb hg hat))
                refine ⟨⟨ey, D ++ [y], true, ?_, rfl, rfl, ⟨?_⟩, HO, HR⟩, ?_⟩
                · rw [List.length_append, List.length_singleton, ← HI.out]; first | rfl | go_num
                · refine ⟨by rw [List.length_append, List.length_singleton, ← HI.out]; exact HLT.out, HEY.out, fun _ => ?_, fun h => by cases h⟩
                  have := HSOME.out
                  rw [this, List.length_append, List.length_singleton]
                  simp only [Option.map_map]
                  congr 1
                  funext q
                  simp
                · have := HLT.out
                  simp [intOf]
                  omega
            · have hd := decide_eq_false hlt
              have hiE : i = N := by omega
              rw [show N - D.length = 0 by omega, allG] at hsome
              clear hlt hiN
              have hs : la = D ∧ tt = k := by simpa using hsome
              obtain ⟨rfl, rfl⟩ := hs
              rw [hi] at hiE
              subst hiE
              obtain ⟨Aw, cw, rfl, hlw, hCw⟩ := Kd.R_reads HO.out
              have HCW := Aside0.mk hCw
              rw [hi] at hd ⊢
              clear hsome hi hlw hCw HI
              go_wp2
              go_loopw [25] (fun v25 wq => ∃ (j : Nat), v25 = .int .i64 j ∧ j ≤ la.length ∧ Aside0 (Drawn0 wr wq)) (fun v _ => la.length - (intOf v).toNat)
              case atStart => exact ⟨0, by first | rfl | go_num, Nat.zero_le _, ⟨Drawn0.refl _⟩⟩
              case round =>
                obtain ⟨j, rfl, hj, HD⟩ := hrel
                obtain ⟨nq0, rfl⟩ := HD.out.out
                clear HD
                by_cases hlt2 : j < la.length
                · have hj40 : (j : Int) < 40 := by omega
                  have hjl : (j : Int) < (la.length : Int) := by omega
                  obtain ⟨ad1, e1, hx1⟩ := Kd.at_int (Kd.C_below HCA.out HR.out) (j : Int) (Int.natCast_nonneg _) hjl
                  obtain ⟨ad2, e2, hx2⟩ := Kd.at_int HCW.out (j : Int) (Int.natCast_nonneg _) hjl
                  cases e1
                  cases e2
                  have HLT2 := Aside0.mk hlt2
                  replace hx1 : wr.cell? (ad1.add j) = some (.int .u64 (la.getD j 0)) := hx1
                  replace hx2 : wr.cell? (ad2.add j) = some (.int .u64 (la.getD j 0)) := hx2
                  go_wp2
                  go_quiet (fail)
                  go_wp2
                  refine ⟨⟨j + 1, by first | rfl | go_num, HLT2.out, ⟨?_⟩⟩, ?_⟩
                  · exact ⟨⟨_, rfl⟩⟩
                  · have := HLT2.out
                    simp [intOf]
                    omega
                · go_wp2
                  go_ret
                  exact ⟨rfl, below_step HB.out (pw_below_drewN HR.out _)⟩
      · skip
        go_enter Try.func9, Try.ntmps9
        go_wp2_with (first
          | (go_at_call 28; refine (law7_begun _).mono ?_; rintro e w11 ⟨rfl, hb⟩; have m2_ := Aside0.mk (below_step HB.out hb); clear HB; have HB := m2_; clear m2_ hb)
          | (go_at_call 24; refine (law_Of_m2 HM.out (Kd.C_below HC.out HB.out) HL0.out).mono ?_; rintro e w3 ⟨p, rfl, hbo, hb⟩; have HBO := Aside0.mk hbo.toP; have n1_ := Aside0.mk (below_step HB.out hb); have n2_ := Aside0.mk (Kd.C_below HC.out n1_.out); clear HB hbo hb HC; have HB := n1_; have HC := n2_; clear n1_ n2_)
          | (go_at_call 29; refine (gamma_Get _ HBO.out HL0.out).mono ?_; rw [← HG.out]; rintro e w' ⟨rfl, rfl⟩; simp only [getR])
          | (go_at_call 30; refine (ref_get _ HM.out HC.out HLC.out HL0.out HAT.out).mono ?_; rw [← HG.out]; rintro e w' ⟨rfl, ⟨nd, rfl⟩⟩; simp only [getR])
          | (go_at_call 31; refine (gamma_All _ _ (HBO.out.drewN nd) HL0.out HN.out).mono ?_; rw [← HO2.out]; rintro e w6 ⟨hb, va, rfl, hRa⟩; obtain ⟨Aa, ca, rfl, hla, hCa⟩ := Kd.R_reads hRa; have HCA := Aside0.mk hCa; clear hRa hCa hla; have n1_ := Aside0.mk (below_step (pw_below_drewN HB.out nd) hb); have n2_ := Aside0.mk (Kd.C_below (Kd.C_drewN HC.out nd) hb); clear HB HC hb; have HB := n1_; have HC := n2_; clear n1_ n2_))
        go_loopw [18, 19, 20, 21] (fun v18 v19 v20 v21 wr => ∃ (k : Int) (D : List Int) (more : Bool), v21 = .int .i64 (D.length : Int) ∧ v18 = .int .i64 k ∧ v19 = .bool more ∧ Aside0 (AnyRel L (some (la, tt)) N k D more) ∧ Aside0 (Kd.R (Kd.int .u64) 36 wr w6.heap.size (fun _ => True) v20 D) ∧ Aside0 (Below w6.heap.size w6 wr)) (fun _ _ _ v _ => (2 * N + 1 - 2 * (intOf v).toNat))
        case atStart => exact ⟨at_, [], true, by first | rfl | go_num, rfl, rfl, HREL, ⟨Kd.R_nil _ _ _ _ _⟩, ⟨Below.refl _ _⟩⟩
        case round =>
          clear HREL
          obtain ⟨k, D, more, rfl, rfl, rfl, HREL, HO, HR⟩ := hrel
          obtain ⟨i, hi⟩ : ∃ i, i = D.length := ⟨_, rfl⟩
          rw [← hi]
          have hiN : i ≤ N := by rw [hi]; exact HREL.out.1
          have HI := Aside0.mk hi
          have HATK := Aside0.mk HREL.out.2.1
          cases more with
          | false =>
            have hnone := HREL.out.2.2.2 rfl
            by_cases hlt : i < N
            · have hd := decide_eq_true hlt
              clear hlt hiN hi
              (cases hnone)
            · have hd := decide_eq_false hlt
              clear hlt hiN hi
              (cases hnone)
          | true =>
            have hsome := HREL.out.2.2.1 rfl
            by_cases hlt : i < N
            · have HLT := Aside0.mk hlt
              have hlz : (i : Int) < (N : Int) := by omega
              obtain ⟨gk, hgk⟩ : ∃ g, g = getG L k := ⟨_, rfl⟩
              have HGK := Aside0.mk hgk
              have HCAP := Aside0.mk (show (D.length + 1) * 8 ≤ 140737488355328 by omega)
              have hstep : N - D.length = (N - (D.length + 1)) + 1 := by omega
              rw [hstep, allG, ← hgk] at hsome
              have HSOME := Aside0.mk hsome
              clear hsome hgk hstep hlt hiN hi HREL
              rcases gk with _ | ⟨y, ey⟩
              · go_wp2_with (first
                  | (go_at_call 30; refine (ref_get _ HM.out (Kd.C_below HC.out HR.out) HLC.out HL0.out HATK.out).mono ?_; rw [← HGK.out]; rintro e w' ⟨rfl, ⟨nd, rfl⟩⟩; simp only [getR]; have n1_ := Aside0.mk (Kd.R_drewN HO.out nd); have n2_ := Aside0.mk (pw_below_drewN HR.out nd); clear HO HR; have HO := n1_; have HR := n2_; clear n1_ n2_)
                  | ((with_reducible refine gate_builtin (b := .append) (xs := #[.tmp 93, .tmp 95]) rfl ?_); at_builtin; refine Kd.R_append (Kd.int .u64) (w0 := w6) w6.heap.size rfl (.tmp 93) (.tmp 95) 32 36 (.int .u64 0) 8 rfl Try.underlying32 (by kernel_rfl) rfl (by decide) (by omega) _ D 0 [.int .u64 0] (fun _ => True) (fun _ => False) rfl rfl ?aP (fun _ hk => hk.elim) ?aF ?aO ?aB ?aS ?aL ?_; (case aP => exact rfl); (case aF => exact (fun _ _ => trivial)); (case aO => exact HO.out); (case aB => exact HR.out); (case aS => exact below_size HR.out); (case aL => exact HCAP.out); intro v1 w1 ho hb hg hat; have n1_ := Aside0.mk ho; have n2_ := Aside0.mk hb; clear HO HR; have HO := n1_; have HR := n2_; clear n1_ n2_ ho hb hg hat))
                refine ⟨⟨k, D ++ [0], false, ?_, rfl, rfl, ⟨?_⟩, HO, HR⟩, ?_⟩
                · rw [List.length_append, List.length_singleton, ← HI.out]; first | rfl | go_num
                · exact ⟨by rw [List.length_append, List.length_singleton, ← HI.out]; exact HLT.out, HATK.out, (fun h => by cases h), fun _ => HSOME.out⟩
                · have := HLT.out
                  simp [intOf]
                  omega
              · have hey := getG_bd HGK.out.symm
                have HEY := Aside0.mk (show ey < 9223372036854775808 by have := HL0.out; omega)
                clear hey
                go_wp2_with (first
                  | (go_at_call 30; refine (ref_get _ HM.out (Kd.C_below HC.out HR.out) HLC.out HL0.out HATK.out).mono ?_; rw [← HGK.out]; rintro e w' ⟨rfl, ⟨nd, rfl⟩⟩; simp only [getR]; have n1_ := Aside0.mk (Kd.R_drewN HO.out nd); have n2_ := Aside0.mk (pw_below_drewN HR.out nd); clear HO HR; have HO := n1_; have HR := n2_; clear n1_ n2_)
                  | ((with_reducible refine gate_builtin (b := .append) (xs := #[.tmp 93, .tmp 95]) rfl ?_); at_builtin; refine Kd.R_append (Kd.int .u64) (w0 := w6) w6.heap.size rfl (.tmp 93) (.tmp 95) 32 36 (.int .u64 0) 8 rfl Try.underlying32 (by kernel_rfl) rfl (by decide) (by omega) _ D y [.int .u64 y] (fun _ => True) (fun _ => False) rfl rfl ?aP (fun _ hk => hk.elim) ?aF ?aO ?aB ?aS ?aL ?_; (case aP => exact rfl); (case aF => exact (fun _ _ => trivial)); (case aO => exact HO.out); (case aB => exact HR.out); (case aS => exact below_size HR.out); (case aL => exact HCAP.out); intro v1 w1 ho hb hg hat; have n1_ := Aside0.mk ho; have n2_ := Aside0.mk hb; clear HO HR; have HO := n1_; have HR := n2_; clear n1_ n2_ ho hb hg hat))
                refine ⟨⟨ey, D ++ [y], true, ?_, rfl, rfl, ⟨?_⟩, HO, HR⟩, ?_⟩
                · rw [List.length_append, List.length_singleton, ← HI.out]; first | rfl | go_num
                · refine ⟨by rw [List.length_append, List.length_singleton, ← HI.out]; exact HLT.out, HEY.out, fun _ => ?_, fun h => by cases h⟩
                  have := HSOME.out
                  rw [this, List.length_append, List.length_singleton]
                  simp only [Option.map_map]
                  congr 1
                  funext q
                  simp
                · have := HLT.out
                  simp [intOf]
                  omega
            · have hd := decide_eq_false hlt
              have hiE : i = N := by omega
              rw [show N - D.length = 0 by omega, allG] at hsome
              clear hlt hiN
              have hs : la = D ∧ tt = k := by simpa using hsome
              obtain ⟨rfl, rfl⟩ := hs
              rw [hi] at hiE
              subst hiE
              obtain ⟨Aw, cw, rfl, hlw, hCw⟩ := Kd.R_reads HO.out
              have HCW := Aside0.mk hCw
              rw [hi] at hd ⊢
              clear hsome hi hlw hCw HI
              go_wp2
              go_loopw [25] (fun v25 wq => ∃ (j : Nat), v25 = .int .i64 j ∧ j ≤ la.length ∧ Aside0 (Drawn0 wr wq)) (fun v _ => la.length - (intOf v).toNat)
              case atStart => exact ⟨0, by first | rfl | go_num, Nat.zero_le _, ⟨Drawn0.refl _⟩⟩
              case round =>
                obtain ⟨j, rfl, hj, HD⟩ := hrel
                obtain ⟨nq0, rfl⟩ := HD.out.out
                clear HD
                by_cases hlt2 : j < la.length
                · have hj40 : (j : Int) < 40 := by omega
                  have hjl : (j : Int) < (la.length : Int) := by omega
                  obtain ⟨ad1, e1, hx1⟩ := Kd.at_int (Kd.C_below HCA.out HR.out) (j : Int) (Int.natCast_nonneg _) hjl
                  obtain ⟨ad2, e2, hx2⟩ := Kd.at_int HCW.out (j : Int) (Int.natCast_nonneg _) hjl
                  cases e1
                  cases e2
                  have HLT2 := Aside0.mk hlt2
                  replace hx1 : wr.cell? (ad1.add j) = some (.int .u64 (la.getD j 0)) := hx1
                  replace hx2 : wr.cell? (ad2.add j) = some (.int .u64 (la.getD j 0)) := hx2
                  go_wp2
                  go_quiet (fail)
                  go_wp2
                  refine ⟨⟨j + 1, by first | rfl | go_num, HLT2.out, ⟨?_⟩⟩, ?_⟩
                  · exact ⟨⟨_, rfl⟩⟩
                  · have := HLT2.out
                    simp [intOf]
                    omega
                · go_wp2
                  go_ret
                  exact ⟨rfl, below_step HB.out (pw_below_drewN HR.out _)⟩
end Go.Proofs.Ytbaopegmdllbeaa.GL
