/- The functions of package runes, by hand: a range over a string, by the model's own decode. Each has the form that the printed functions have. -/
-- GIVEN loess/runes.Valid 1
import Derived.Test.YtbeoegdkoodlfaaProg
import Derived.Test.YtbeoegdkoodlfaaWMore
import Derived.WalkKit
import Derived.WalkSpells
import Derived.Deep.LoopGhost
import Derived.Lib.OthersKept
import Derived.BigQuiet
import Derived.Deep.QuietTactic
set_option linter.unusedVariables false
set_option linter.unusedSimpArgs false
namespace Go.Proofs.Ytbeoegdkoodlfaa.G
open Go.RowKit Go.Proofs.YtbeoegdkoodlfaaW.PrintWords Go.Proofs.YtbeoegdkoodlfaaW.PrintLast Go.Proofs.YtbeoegdkoodlfaaW.PrintMore
/-- Runes and where they begin, from a place on (so many at most). -/
def runesAt (s : ByteArray) : Nat → Nat → List (Int × Nat)
  | 0, _ => []
  | f + 1, p => if p < s.size then (((Utf8.decode s p).1 : Int), p) :: runesAt s f (p + (Utf8.decode s p).2) else []
def validAt (s : ByteArray) : Nat → Nat → Int → Bool
  | 0, _, last => decide (last < 0) || decide ((s.size : Int) > last + 1)
  | f + 1, p, last =>
    if p < s.size then (if 0 ≤ last ∧ (p : Int) = last + 1 then false else validAt s f (p + (Utf8.decode s p).2) (if ((Utf8.decode s p).1 : Int) = 65533 then p else -1))
    else decide (last < 0) || decide ((s.size : Int) > last + 1)
def atAt (s : ByteArray) (n : Int) : Nat → Nat → Nat → Int × Int × Bool
  | 0, _, _ => (0, 0, false)
  | f + 1, p, k => if p < s.size then (if (k : Int) = n then (((Utf8.decode s p).1 : Int), (p : Int), true) else atAt s n f (p + (Utf8.decode s p).2) (k + 1)) else (0, 0, false)
def cutAt (s : ByteArray) (n : Int) : Nat → Nat → Nat → ByteArray
  | 0, _, _ => if n ≤ 0 then ⟨#[]⟩ else s
  | f + 1, p, k => if p < s.size then (if (k : Int) ≥ n then s.extract 0 p else cutAt s n f (p + (Utf8.decode s p).2) (k + 1)) else if n ≤ 0 then ⟨#[]⟩ else s
theorem g_width (s : ByteArray) (p : Nat) (h : p < s.size) : 1 ≤ (Utf8.decode s p).2 := by
  by_cases ha : (s[p]'h).toNat < 128
  · rw [decode_ascii s p h ha]
    exact Nat.le_refl _
  · exact (decode_high s p h (by omega)).2
theorem runesAt_end (s : ByteArray) (f p : Nat) (h : ¬ p < s.size) : runesAt s f p = [] := by
  cases f with
  | zero => rfl
  | succ f => simp [runesAt, h]
theorem validAt_end (s : ByteArray) (f p : Nat) (l : Int) (h : ¬ p < s.size) : validAt s f p l = (decide (l < 0) || decide ((s.size : Int) > l + 1)) := by
  cases f with
  | zero => rfl
  | succ f => simp [validAt, h]
theorem atAt_end (s : ByteArray) (n : Int) (f p k : Nat) (h : ¬ p < s.size) : atAt s n f p k = (0, 0, false) := by
  cases f with
  | zero => rfl
  | succ f => simp [atAt, h]
theorem cutAt_end (s : ByteArray) (n : Int) (f p k : Nat) (h : ¬ p < s.size) : cutAt s n f p k = if n ≤ 0 then ⟨#[]⟩ else s := by
  cases f with
  | zero => rfl
  | succ f => simp [cutAt, h]
theorem g_iterPos {w : World} {k : Nat} {s : ByteArray} {p : Nat} (h : w.heap[k]? = some (.stringIter s p)) : w.iterPos k = p := by simp [World.iterPos, h]
theorem g_info : (Try.prog.info? 21).map (fun i => (i.zero, i.size, i.bytes)) = some (some (.int .i32 0), 1, 4) := by kernel_rfl
theorem g_below_iter (w : World) (s : ByteArray) (p : Nat) : Below w.heap.size w (w.iter s p) := (Below.refl _ _).alloc (Nat.le_refl _) _
theorem g_R_iterAt {w : World} {base : Nat} {xs : List Int} {v : Value} (h : (Kd.int .i32).R 21 w base (fun _ => True) v xs) {k : Nat} (hk : k < base) (s : ByteArray) (p : Nat) : (Kd.int .i32).R 21 (w.iterAt k s p) base (fun _ => True) v xs :=
  Kd.R_mono (Kd.R_step (Kd.R_mono (ok' := fun k' => base ≤ k') (Kd.R_bound h) (fun _ hk => hk.2.1)) (fun k' h1 _ => Lib.iterAt_other _ _ _ _ _ (by omega))) (fun _ _ => trivial)

def runes_Valid.f (a0 : ByteArray) : Option Bool := if a0.size ≤ 9223372036854775800 then some (validAt a0 a0.size 0 (-1)) else none
set_option maxRecDepth 1000000 in
set_option maxHeartbeats 4000000 in
theorem runes_Valid.calls (a0 : ByteArray) (r : Bool) (w : World) (h : runes_Valid.f a0 = some r) :
    Calls Try.prog 30 #[.string a0] w fun e w' => e = .returned (.bool r) ∧ Below w.heap.size w w' := by
  unfold runes_Valid.f at h
  split at h
  · rename_i hsz
    have HR := Aside0.mk (Option.some.inj h)
    clear h
    go_enter Try.func30, Try.ntmps30
    go_wp2
    go_loopw [3] (fun v wr => ∃ (pos fuel : Nat) (l : Int), wr = w.iter a0 pos ∧ v = .int .i64 l ∧ Aside0 (validAt a0 fuel pos l = r) ∧ a0.size ≤ pos + fuel ∧ -1 ≤ l ∧ l < a0.size) (fun _ wr => a0.size - wr.iterPos w.heap.size)
    case atStart => exact ⟨0, a0.size, -1, rfl, rfl, HR, by omega, by omega, by omega⟩
    case round =>
      clear HR
      obtain ⟨pos, fuel, l, rfl, rfl, HS, hb, hl0, hl1⟩ := hrel
      by_cases hp : pos < a0.size
      · have hnx : ∀ ty, (Instr.next (.pointer (some ⟨w.heap.size, 0, none⟩)) true ty).run Try.prog (w.iter a0 pos) = _ := fun ty => run_next_any w a0 pos ty hp
        have hwd := g_width a0 pos hp
        obtain ⟨fuel, rfl⟩ : ∃ f', fuel = f' + 1 := ⟨fuel - 1, by omega⟩
        have e := HS.out
        clear HS
        rw [validAt, if_pos hp] at e
        have step : ∀ c : Bool, decide (0 ≤ l) = c → ¬ (0 ≤ l ∧ (pos : Int) = l + 1) → validAt a0 fuel (pos + (Utf8.decode a0 pos).2) (if ((Utf8.decode a0 pos).1 : Int) = 65533 then (pos : Int) else -1) = r → True := fun _ _ _ _ => trivial
        clear step
        by_cases h1 : 0 ≤ l
        · have h1b : decide (0 ≤ l) = true := decide_eq_true h1
          by_cases h2 : (pos : Int) = l + 1
          · rw [if_pos ⟨h1, h2⟩] at e
            have HE := Aside0.mk e
            clear e
            have h2b : ((pos : Int) == l + 1) = true := beq_iff_eq.mpr h2
            clear h2
            go_wp2
            go_ret
            exact ⟨by rw [HE.out]; rfl, g_below_iter _ _ _⟩
          · rw [if_neg (fun hh => h2 hh.2)] at e
            have h2b : ((pos : Int) == l + 1) = false := beq_eq_false_iff_ne.mpr h2
            by_cases h3 : ((Utf8.decode a0 pos).1 : Int) = 65533
            · rw [if_pos h3] at e
              have HE := Aside0.mk e
              clear e h2
              have h3b : (((Utf8.decode a0 pos).1 : Int) == 65533) = true := beq_iff_eq.mpr h3
              clear h3
              go_wp2
              go_roundw
              case rel => exact ⟨pos + (Utf8.decode a0 pos).2, fuel, (pos : Int), rfl, rfl, HE, by omega, by omega, by omega⟩
              case measure => simp; omega
            · rw [if_neg h3] at e
              have HE := Aside0.mk e
              clear e h2
              have h3b : (((Utf8.decode a0 pos).1 : Int) == 65533) = false := beq_eq_false_iff_ne.mpr h3
              clear h3
              go_wp2
              go_roundw
              case rel => exact ⟨pos + (Utf8.decode a0 pos).2, fuel, (-1 : Int), rfl, rfl, HE, by omega, by omega, by omega⟩
              case measure => simp; omega
        · have h1b : decide (0 ≤ l) = false := decide_eq_false h1
          rw [if_neg (fun hh => h1 hh.1)] at e
          by_cases h3 : ((Utf8.decode a0 pos).1 : Int) = 65533
          · rw [if_pos h3] at e
            have HE := Aside0.mk e
            clear e
            have h3b : (((Utf8.decode a0 pos).1 : Int) == 65533) = true := beq_iff_eq.mpr h3
            clear h3
            go_wp2
            go_roundw
            case rel => exact ⟨pos + (Utf8.decode a0 pos).2, fuel, (pos : Int), rfl, rfl, HE, by omega, by omega, by omega⟩
            case measure => simp; omega
          · rw [if_neg h3] at e
            have HE := Aside0.mk e
            clear e
            have h3b : (((Utf8.decode a0 pos).1 : Int) == 65533) = false := beq_eq_false_iff_ne.mpr h3
            clear h3
            go_wp2
            go_roundw
            case rel => exact ⟨pos + (Utf8.decode a0 pos).2, fuel, (-1 : Int), rfl, rfl, HE, by omega, by omega, by omega⟩
            case measure => simp; omega
      · have hnx : ∀ ty, (Instr.next (.pointer (some ⟨w.heap.size, 0, none⟩)) true ty).run Try.prog (w.iter a0 pos) = _ := fun ty => run_next_end w a0 pos ty hp
        have e := HS.out
        clear HS
        rw [validAt_end _ _ _ _ hp] at e
        by_cases h1 : l < 0
        · have HE := Aside0.mk e
          clear e
          have h1b : decide (l < 0) = true := decide_eq_true h1
          clear h1
          go_wp2
          go_ret
          exact ⟨by rw [← HE.out, h1b]; rfl, g_below_iter _ _ _⟩
        · have HE := Aside0.mk e
          clear e
          have h1b : decide (l < 0) = false := decide_eq_false h1
          go_wp2
          go_ret
          exact ⟨by rw [← HE.out, h1b]; rfl, g_below_iter _ _ _⟩
  · cases h
end Go.Proofs.Ytbeoegdkoodlfaa.G
