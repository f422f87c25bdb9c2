/- The law DirAny in plain Lean: any bytes are a list's, just its, or none's; those that were changed, too. -/
import Derived.Test.YtoffcgdamcchcaaQDirLaw
import Derived.Test.YtoffcgdamcchcaaQShort
import Derived.OpenShut
import Derived.Test.YtoffcgdamcchcaaXDirx27
set_option linter.unusedVariables false
set_option linter.unusedSimpArgs false
namespace Go.Proofs.Ytoffcgdamcchcaa.Pure
open Go.RowKit Go.Proofs.YtoffcgdamcchcaaW.PrintWords Go.Proofs.YtoffcgdamcchcaaW.PrintMore Go.Proofs.Ytoffcgdamcchcaa.XDir Go.Proofs.Ytoffcgdamcchcaa.GL Go.Proofs.Ytoffcgdamcchcaa.Q
theorem byt_set {l : List Int} (h : Byt l) (i : Nat) {v : Int} (h0 : 0 ≤ v) (h1 : v < 256) : Byt (l.set i v) := by
  intro x hx
  rcases List.mem_or_eq_of_mem_set hx with hx | rfl
  · exact h x hx
  · exact ⟨h0, h1⟩
theorem DirAny (b : List Int) (l : List Ent) (p x : Int) (hb : ∀ y ∈ b, (Lit.int .u8 y).wf = true) (hl : ∀ y ∈ l, I64 y.f1 ∧ I64 y.f2.f0 ∧ I64 y.f2.f1) (hp : (Lit.int .i64 p).wf = true) (hx : (Lit.int .u8 x).wf = true) : ∃ k, loesslaw14_DirAny.f k b l p x = some true := by
  have hB := Byt.of_wf hb
  have hX := wfU8 hx
  have hP := wfI64 hp
  refine Ev.rounds ?_
  unfold loesslaw14_DirAny.f
  refine dir_then ?_
  have hs : loesslaw1_Short.f b 60 = some (b.take 60) := short_eq b 60
  refine Ev.bind (evC hs) (Ev.bind (cut_ev l) (Ev.bind (tells_ev _ (hB.take 60) (by rw [List.length_take]; omega)) (Ev.congr (fun k => if_pos rfl) ?_)))
  have hlen := cutL_len l
  have hsm := cutL_sm hl
  obtain ⟨A, hA⟩ : ∃ A, A = cutL l := ⟨_, rfl⟩
  rw [← hA] at hlen hsm ⊢
  clear hA
  have hout : Ev (fun k => loesslaw14_DirAny.j0 k A p x true) true := Ev.step (fun k => by unfold loesslaw14_DirAny.j0; rfl) (Ev.congr (fun k => if_pos rfl) (Ev.now _))
  refine Ev.bind (lmay_ev A (by omega)) ?_
  by_cases hm : mayD A = true
  · refine Ev.congr (fun k => if_pos hm) ?_
    by_cases h0 : p < 0
    · rw [decide_eq_true h0]; exact hout
    rw [decide_eq_false h0]
    refine Ev.step (fun k => by unfold loesslaw14_DirAny.j0; rfl) (Ev.congr (fun k => if_neg (by decide)) ?_)
    refine Ev.bind (bytes_ev A (by omega) hsm) ?_
    have hc := encD_len hm
    have hcb := encD_byt A
    have hc0 : 0 < (encD A).length := by
      have := putN_pos (A.length : Int)
      unfold encD
      rw [List.length_append]
      omega
    obtain ⟨c, hcd⟩ : ∃ c, c = encD A := ⟨_, rfl⟩
    rw [← hcd] at hc hcb hc0 ⊢
    clear hcd
    have m0 : 0 ≤ Int.tmod p (c.length : Int) := Int.tmod_nonneg _ (by omega)
    have m1 : Int.tmod p (c.length : Int) < (c.length : Int) := Int.tmod_lt_of_pos _ (by omega)
    obtain ⟨m, hmm⟩ : ∃ m, m = Int.tmod p (c.length : Int) := ⟨_, rfl⟩
    rw [← hmm] at m0 m1 ⊢
    refine Ev.congr (fun k => if_neg (by omega)) (Ev.congr (fun k => if_pos m0) (Ev.congr (fun k => if_pos m1) ?_))
    simp only [Option.bind_some]
    have hv := wfU8 (wf_bits .xor .u8 (rd c m) x)
    have hy : Byt (c.set m.toNat (Go.bits .xor .u8 (rd c m) x)) := byt_set hcb _ hv.1 hv.2
    have hyl : (c.set m.toNat (Go.bits .xor .u8 (rd c m) x)).length = c.length := List.length_set
    obtain ⟨y, hyy⟩ : ∃ y, y = c.set m.toNat (Go.bits .xor .u8 (rd c m) x) := ⟨_, rfl⟩
    rw [← hyy] at hy hyl ⊢
    refine Ev.bind (tells_ev y hy (by omega)) (Ev.congr (fun k => if_pos rfl) (Ev.congr (fun k => if_pos (by omega)) ?_))
    refine Ev.bind (tells_ev _ (hy.take _) (by rw [List.length_take]; omega)) (Ev.congr (fun k => if_pos rfl) (Ev.congr (fun k => if_pos (by omega)) ?_))
    exact Ev.bind (tells_ev _ (hy.append (Byt.cons hX.1 hX.2 Byt.nil)) (by rw [List.length_append, List.length_singleton]; omega)) (Ev.now _)
  · exact Ev.congr (fun k => if_neg hm) hout
end Go.Proofs.Ytoffcgdamcchcaa.Pure
