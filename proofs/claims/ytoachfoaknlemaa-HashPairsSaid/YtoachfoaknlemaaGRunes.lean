/- The functions of package runes, by hand: a range over a string, by the model's own decode. Each has the form that the printed functions have. -/
-- GIVEN loess/runes.Of 1
import Derived.Test.YtoachfoaknlemaaProg
import Derived.Test.YtoachfoaknlemaaWMore
import Derived.WalkKit
import Derived.WalkSpells
import Derived.Deep.LoopGhost
import Derived.Lib.OthersKept
import Derived.BigQuiet
import Derived.Deep.QuietTactic
set_option linter.unusedVariables false
set_option linter.unusedSimpArgs false
namespace Go.Proofs.Ytoachfoaknlemaa.G
open Go.RowKit Go.Proofs.YtoachfoaknlemaaW.PrintWords Go.Proofs.YtoachfoaknlemaaW.PrintLast Go.Proofs.YtoachfoaknlemaaW.PrintMore
/-- Runes and where they begin, from a place on (so many at most). -/
def runesAt (s : ByteArray) : Nat → Nat → List (Int × Nat)
  | 0, _ => []
  | f + 1, p => if p < s.size then (((Utf8.decode s p).1 : Int), p) :: runesAt s f (p + (Utf8.decode s p).2) else []
def validAt (s : ByteArray) : Nat → Nat → Int → Bool
  | 0, _, last => decide (last < 0) || decide ((s.size : Int) > last + 1)
  | f + 1, p, last =>
    if p < s.size then (if 0 ≤ last ∧ (p : Int) = last + 1 then false else validAt s f (p + (Utf8.decode s p).2) (if ((Utf8.decode s p).1 : Int) = 65533 then p else -1))
    else decide (last < 0) || decide ((s.size : Int) > last + 1)
def atAt (s : ByteArray) (n : Int) : Nat → Nat → Nat → Int × Int × Bool
  | 0, _, _ => (0, 0, false)
  | f + 1, p, k => if p < s.size then (if (k : Int) = n then (((Utf8.decode s p).1 : Int), (p : Int), true) else atAt s n f (p + (Utf8.decode s p).2) (k + 1)) else (0, 0, false)
def cutAt (s : ByteArray) (n : Int) : Nat → Nat → Nat → ByteArray
  | 0, _, _ => if n ≤ 0 then ⟨#[]⟩ else s
  | f + 1, p, k => if p < s.size then (if (k : Int) ≥ n then s.extract 0 p else cutAt s n f (p + (Utf8.decode s p).2) (k + 1)) else if n ≤ 0 then ⟨#[]⟩ else s
theorem g_width (s : ByteArray) (p : Nat) (h : p < s.size) : 1 ≤ (Utf8.decode s p).2 := by
  by_cases ha : (s[p]'h).toNat < 128
  · rw [decode_ascii s p h ha]
    exact Nat.le_refl _
  · exact (decode_high s p h (by omega)).2
theorem runesAt_end (s : ByteArray) (f p : Nat) (h : ¬ p < s.size) : runesAt s f p = [] := by
  cases f with
  | zero => rfl
  | succ f => simp [runesAt, h]
theorem validAt_end (s : ByteArray) (f p : Nat) (l : Int) (h : ¬ p < s.size) : validAt s f p l = (decide (l < 0) || decide ((s.size : Int) > l + 1)) := by
  cases f with
  | zero => rfl
  | succ f => simp [validAt, h]
theorem atAt_end (s : ByteArray) (n : Int) (f p k : Nat) (h : ¬ p < s.size) : atAt s n f p k = (0, 0, false) := by
  cases f with
  | zero => rfl
  | succ f => simp [atAt, h]
theorem cutAt_end (s : ByteArray) (n : Int) (f p k : Nat) (h : ¬ p < s.size) : cutAt s n f p k = if n ≤ 0 then ⟨#[]⟩ else s := by
  cases f with
  | zero => rfl
  | succ f => simp [cutAt, h]
theorem g_iterPos {w : World} {k : Nat} {s : ByteArray} {p : Nat} (h : w.heap[k]? = some (.stringIter s p)) : w.iterPos k = p := by simp [World.iterPos, h]
theorem g_info : (Try.prog.info? 21).map (fun i => (i.zero, i.size, i.bytes)) = some (some (.int .i32 0), 1, 4) := by kernel_rfl
theorem g_below_iter (w : World) (s : ByteArray) (p : Nat) : Below w.heap.size w (w.iter s p) := (Below.refl _ _).alloc (Nat.le_refl _) _
theorem g_R_iterAt {w : World} {base : Nat} {xs : List Int} {v : Value} (h : (Kd.int .i32).R 21 w base (fun _ => True) v xs) {k : Nat} (hk : k < base) (s : ByteArray) (p : Nat) : (Kd.int .i32).R 21 (w.iterAt k s p) base (fun _ => True) v xs :=
  Kd.R_mono (Kd.R_step (Kd.R_mono (ok' := fun k' => base ≤ k') (Kd.R_bound h) (fun _ hk => hk.2.1)) (fun k' h1 _ => Lib.iterAt_other _ _ _ _ _ (by omega))) (fun _ _ => trivial)

def runes_Of.f (a0 : ByteArray) : Option (List Int) := if a0.size < 35184372088832 then some ((runesAt a0 a0.size 0).map (·.1)) else none
set_option maxRecDepth 1000000 in
set_option maxHeartbeats 2000000 in
theorem runes_Of.calls (a0 : ByteArray) (r : List Int) (w : World) (h : runes_Of.f a0 = some r) :
    Calls Try.prog 19 #[.string a0] w fun e w' => ∃ v0_ : Value, e = .returned (v0_) ∧ Kd.R (Kd.int .i32) 21 w' w.heap.size (fun _ => True) v0_ r ∧ Below w.heap.size w w' := by
  unfold runes_Of.f at h
  split at h
  · rename_i hsz
    have HR := Aside0.mk (Option.some.inj h)
    clear h
    go_enter Try.func19, Try.ntmps19
    go_wp2
    go_loopw [3] (fun v wr => ∃ (pos fuel : Nat) (acc : List Int), wr.heap[w.heap.size]? = some (.stringIter a0 pos) ∧ Aside0 ((Kd.int .i32).R 21 wr (w.heap.size + 1) (fun _ => True) v acc) ∧ Aside0 (Below w.heap.size w wr) ∧ Aside0 (acc ++ (runesAt a0 fuel pos).map (·.1) = r) ∧ a0.size ≤ pos + fuel ∧ acc.length ≤ pos) (fun _ wr => a0.size - wr.iterPos w.heap.size)
    case atStart => exact ⟨0, a0.size, [], World.iter_heap w a0 0, ⟨Kd.R_nil _ _ _ _ _⟩, ⟨g_below_iter _ _ _⟩, HR, by omega, by simp⟩
    case round =>
      clear HR
      obtain ⟨pos, fuel, acc, hit, HO, HB, HS, hb, hlen⟩ := hrel
      have hpos0 := g_iterPos hit
      by_cases hp : pos < a0.size
      · have hnx : ∀ ty, (Instr.next (.pointer (some ⟨w.heap.size, 0, none⟩)) true ty).run Try.prog wr = _ := fun ty => Lib.run_next_any_at wr w.heap.size a0 pos ty hit hp
        have hwd := g_width a0 pos hp
        obtain ⟨fuel, rfl⟩ : ∃ f', fuel = f' + 1 := ⟨fuel - 1, by omega⟩
        have hit2 := Lib.iterAt_heap wr w.heap.size a0 pos (pos + (Utf8.decode a0 pos).2) hit
        have HB2 := Aside0.mk (Lib.below_iterAt HB.out (k := w.heap.size) (Nat.le_refl _) a0 (pos + (Utf8.decode a0 pos).2))
        have HO2 := Aside0.mk (g_R_iterAt HO.out (k := w.heap.size) (by omega) a0 (pos + (Utf8.decode a0 pos).2))
        obtain ⟨W1, hW1⟩ : ∃ W1, W1 = wr.iterAt w.heap.size a0 (pos + (Utf8.decode a0 pos).2) := ⟨_, rfl⟩
        rw [← hW1] at hnx hit2 HB2 HO2
        have hBlt : w.heap.size < W1.heap.size := (Array.getElem?_eq_some_iff.1 hit2).1
        clear hW1 hit HO HB
        go_wp2_with (first
          | ((with_reducible refine gate_builtin (b := .append) (xs := #[.tmp 11, .tmp 13]) rfl ?_); at_builtin; refine Kd.R_append (Kd.int .i32) (w0 := W1) (w.heap.size + 1) rfl (.tmp 11) (.tmp 13) 37 21 (.int .i32 0) 4 rfl Try.underlying37 g_info rfl (by decide) (by omega) _ acc ((Utf8.decode a0 pos).1 : Int) [.int .i32 ((Utf8.decode a0 pos).1 : Int)] (fun _ => True) (fun _ => False) rfl rfl ?aP (fun _ hk => hk.elim) ?aF ?aO ?aB ?aS ?aL ?_
             (case aP => exact rfl)
             (case aF => exact (fun _ _ => trivial))
             (case aO => exact HO2.out)
             (case aB => exact Below.refl _ _)
             (case aS => omega)
             (case aL => omega)
             intro v' w3 ho hb3 hg hat
             have X : Aside0 (w3.heap[w.heap.size]? = some (.stringIter a0 (pos + (Utf8.decode a0 pos).2)) ∧ Below w.heap.size w w3) := ⟨(hg.block w.heap.size hBlt (fun h_ => by have := Kd.R_base HO2.out _ h_.symm; omega)).trans hit2, HB2.out.grown hg (by omega) (fun k_ h_ => by have := Kd.R_base HO2.out _ h_; omega)⟩
             have HO3 := Aside0.mk ho
             clear ho hb3 hg hat))
        go_roundw
        case rel => exact ⟨pos + (Utf8.decode a0 pos).2, fuel, acc ++ [((Utf8.decode a0 pos).1 : Int)], X.out.1, HO3, ⟨X.out.2⟩, ⟨by rw [← HS.out, runesAt, if_pos hp]; simp⟩, by omega, by simp; omega⟩
        case measure => rw [g_iterPos X.out.1, hpos0]; omega
      · have hnx : ∀ ty, (Instr.next (.pointer (some ⟨w.heap.size, 0, none⟩)) true ty).run Try.prog wr = _ := fun ty => Lib.run_next_end_at wr w.heap.size a0 pos ty hit hp
        have e := HS.out
        rw [runesAt_end _ _ _ hp, List.map_nil, List.append_nil] at e
        subst e
        go_wp2
        go_ret
        exact ⟨_, rfl, Kd.R_lower HO.out (by omega), HB.out⟩
  · cases h
end Go.Proofs.Ytoachfoaknlemaa.G
