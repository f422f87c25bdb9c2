/- The functions of package runes, by hand: a range over a string, by the model's own decode. Each has the form that the printed functions have. -/
-- GIVEN loess/runes.Of 1
-- GIVEN loess/runes.Count 1
-- GIVEN loess/runes.Valid 1
-- GIVEN loess/runes.At 1
-- GIVEN loess/runes.Cut 1
import Derived.Test.YtmolfmnepbgdfaaProg
import Derived.Test.YtmolfmnepbgdfaaWMore
import Derived.WalkKit
import Derived.WalkSpells
import Derived.Deep.LoopGhost
import Derived.Lib.OthersKept
import Derived.BigQuiet
import Derived.Deep.QuietTactic
set_option linter.unusedVariables false
set_option linter.unusedSimpArgs false
namespace Go.Proofs.Ytmolfmnepbgdfaa.G
open Go.RowKit Go.Proofs.YtmolfmnepbgdfaaW.PrintWords Go.Proofs.YtmolfmnepbgdfaaW.PrintLast Go.Proofs.YtmolfmnepbgdfaaW.PrintMore
/-- Runes and where they begin, from a place on (so many at most). -/
def runesAt (s : ByteArray) : Nat → Nat → List (Int × Nat)
  | 0, _ => []
  | f + 1, p => if p < s.size then (((Utf8.decode s p).1 : Int), p) :: runesAt s f (p + (Utf8.decode s p).2) else []
def validAt (s : ByteArray) : Nat → Nat → Int → Bool
  | 0, _, last => decide (last < 0) || decide ((s.size : Int) > last + 1)
  | f + 1, p, last =>
    if p < s.size then (if 0 ≤ last ∧ (p : Int) = last + 1 then false else validAt s f (p + (Utf8.decode s p).2) (if ((Utf8.decode s p).1 : Int) = 65533 then p else -1))
    else decide (last < 0) || decide ((s.size : Int) > last + 1)
def atAt (s : ByteArray) (n : Int) : Nat → Nat → Nat → Int × Int × Bool
  | 0, _, _ => (0, 0, false)
  | f + 1, p, k => if p < s.size then (if (k : Int) = n then (((Utf8.decode s p).1 : Int), (p : Int), true) else atAt s n f (p + (Utf8.decode s p).2) (k + 1)) else (0, 0, false)
def cutAt (s : ByteArray) (n : Int) : Nat → Nat → Nat → ByteArray
  | 0, _, _ => if n ≤ 0 then ⟨#[]⟩ else s
  | f + 1, p, k => if p < s.size then (if (k : Int) ≥ n then s.extract 0 p else cutAt s n f (p + (Utf8.decode s p).2) (k + 1)) else if n ≤ 0 then ⟨#[]⟩ else s
theorem g_width (s : ByteArray) (p : Nat) (h : p < s.size) : 1 ≤ (Utf8.decode s p).2 := by
  by_cases ha : (s[p]'h).toNat < 128
  · rw [decode_ascii s p h ha]
    exact Nat.le_refl _
  · exact (decode_high s p h (by omega)).2
theorem runesAt_end (s : ByteArray) (f p : Nat) (h : ¬ p < s.size) : runesAt s f p = [] := by
  cases f with
  | zero => rfl
  | succ f => simp [runesAt, h]
theorem validAt_end (s : ByteArray) (f p : Nat) (l : Int) (h : ¬ p < s.size) : validAt s f p l = (decide (l < 0) || decide ((s.size : Int) > l + 1)) := by
  cases f with
  | zero => rfl
  | succ f => simp [validAt, h]
theorem atAt_end (s : ByteArray) (n : Int) (f p k : Nat) (h : ¬ p < s.size) : atAt s n f p k = (0, 0, false) := by
  cases f with
  | zero => rfl
  | succ f => simp [atAt, h]
theorem cutAt_end (s : ByteArray) (n : Int) (f p k : Nat) (h : ¬ p < s.size) : cutAt s n f p k = if n ≤ 0 then ⟨#[]⟩ else s := by
  cases f with
  | zero => rfl
  | succ f => simp [cutAt, h]
theorem g_iterPos {w : World} {k : Nat} {s : ByteArray} {p : Nat} (h : w.heap[k]? = some (.stringIter s p)) : w.iterPos k = p := by simp [World.iterPos, h]
theorem g_info : (Try.prog.info? 21).map (fun i => (i.zero, i.size, i.bytes)) = some (some (.int .i32 0), 1, 4) := by kernel_rfl
theorem g_below_iter (w : World) (s : ByteArray) (p : Nat) : Below w.heap.size w (w.iter s p) := (Below.refl _ _).alloc (Nat.le_refl _) _
theorem g_R_iterAt {w : World} {base : Nat} {xs : List Int} {v : Value} (h : (Kd.int .i32).R 21 w base (fun _ => True) v xs) {k : Nat} (hk : k < base) (s : ByteArray) (p : Nat) : (Kd.int .i32).R 21 (w.iterAt k s p) base (fun _ => True) v xs :=
  Kd.R_mono (Kd.R_step (Kd.R_mono (ok' := fun k' => base ≤ k') (Kd.R_bound h) (fun _ hk => hk.2.1)) (fun k' h1 _ => Lib.iterAt_other _ _ _ _ _ (by omega))) (fun _ _ => trivial)

def runes_Of.f (a0 : ByteArray) : Option (List Int) := if a0.size < 35184372088832 then some ((runesAt a0 a0.size 0).map (·.1)) else none
set_option maxRecDepth 1000000 in
set_option maxHeartbeats 2000000 in
theorem runes_Of.calls (a0 : ByteArray) (r : List Int) (w : World) (h : runes_Of.f a0 = some r) :
    Calls Try.prog 12 #[.string a0] w fun e w' => ∃ v0_ : Value, e = .returned (v0_) ∧ Kd.R (Kd.int .i32) 21 w' w.heap.size (fun _ => True) v0_ r ∧ Below w.heap.size w w' := by
  unfold runes_Of.f at h
  split at h
  · rename_i hsz
    have HR := Aside0.mk (Option.some.inj h)
    clear h
    go_enter Try.func12, Try.ntmps12
    go_wp2
    go_loopw [3] (fun v wr => ∃ (pos fuel : Nat) (acc : List Int), wr.heap[w.heap.size]? = some (.stringIter a0 pos) ∧ Aside0 ((Kd.int .i32).R 21 wr (w.heap.size + 1) (fun _ => True) v acc) ∧ Aside0 (Below w.heap.size w wr) ∧ Aside0 (acc ++ (runesAt a0 fuel pos).map (·.1) = r) ∧ a0.size ≤ pos + fuel ∧ acc.length ≤ pos) (fun _ wr => a0.size - wr.iterPos w.heap.size)
    case atStart => exact ⟨0, a0.size, [], World.iter_heap w a0 0, ⟨Kd.R_nil _ _ _ _ _⟩, ⟨g_below_iter _ _ _⟩, HR, by omega, by simp⟩
    case round =>
      clear HR
      obtain ⟨pos, fuel, acc, hit, HO, HB, HS, hb, hlen⟩ := hrel
      have hpos0 := g_iterPos hit
      by_cases hp : pos < a0.size
      · have hnx : ∀ ty, (Instr.next (.pointer (some ⟨w.heap.size, 0, none⟩)) true ty).run Try.prog wr = _ := fun ty => Lib.run_next_any_at wr w.heap.size a0 pos ty hit hp
        have hwd := g_width a0 pos hp
        obtain ⟨fuel, rfl⟩ : ∃ f', fuel = f' + 1 := ⟨fuel - 1, by omega⟩
        have hit2 := Lib.iterAt_heap wr w.heap.size a0 pos (pos + (Utf8.decode a0 pos).2) hit
        have HB2 := Aside0.mk (Lib.below_iterAt HB.out (k := w.heap.size) (Nat.le_refl _) a0 (pos + (Utf8.decode a0 pos).2))
        have HO2 := Aside0.mk (g_R_iterAt HO.out (k := w.heap.size) (by omega) a0 (pos + (Utf8.decode a0 pos).2))
        obtain ⟨W1, hW1⟩ : ∃ W1, W1 = wr.iterAt w.heap.size a0 (pos + (Utf8.decode a0 pos).2) := ⟨_, rfl⟩
        rw [← hW1] at hnx hit2 HB2 HO2
        have hBlt : w.heap.size < W1.heap.size := (Array.getElem?_eq_some_iff.1 hit2).1
        clear hW1 hit HO HB
        go_wp2_with (first
          | ((with_reducible refine gate_builtin (b := .append) (xs := #[.tmp 11, .tmp 13]) rfl ?_); at_builtin; refine Kd.R_append (Kd.int .i32) (w0 := W1) (w.heap.size + 1) rfl (.tmp 11) (.tmp 13) 24 21 (.int .i32 0) 4 rfl Try.underlying24 g_info rfl (by decide) (by omega) _ acc ((Utf8.decode a0 pos).1 : Int) [.int .i32 ((Utf8.decode a0 pos).1 : Int)] (fun _ => True) (fun _ => False) rfl rfl ?aP (fun _ hk => hk.elim) ?aF ?aO ?aB ?aS ?aL ?_
             (case aP => exact rfl)
             (case aF => exact (fun _ _ => trivial))
             (case aO => exact HO2.out)
             (case aB => exact Below.refl _ _)
             (case aS => omega)
             (case aL => omega)
             intro v' w3 ho hb3 hg hat
             have X : Aside0 (w3.heap[w.heap.size]? = some (.stringIter a0 (pos + (Utf8.decode a0 pos).2)) ∧ Below w.heap.size w w3) := ⟨(hg.block w.heap.size hBlt (fun h_ => by have := Kd.R_base HO2.out _ h_.symm; omega)).trans hit2, HB2.out.grown hg (by omega) (fun k_ h_ => by have := Kd.R_base HO2.out _ h_; omega)⟩
             have HO3 := Aside0.mk ho
             clear ho hb3 hg hat))
        go_roundw
        case rel => exact ⟨pos + (Utf8.decode a0 pos).2, fuel, acc ++ [((Utf8.decode a0 pos).1 : Int)], X.out.1, HO3, ⟨X.out.2⟩, ⟨by rw [← HS.out, runesAt, if_pos hp]; simp⟩, by omega, by simp; omega⟩
        case measure => rw [g_iterPos X.out.1, hpos0]; omega
      · have hnx : ∀ ty, (Instr.next (.pointer (some ⟨w.heap.size, 0, none⟩)) true ty).run Try.prog wr = _ := fun ty => Lib.run_next_end_at wr w.heap.size a0 pos ty hit hp
        have e := HS.out
        rw [runesAt_end _ _ _ hp, List.map_nil, List.append_nil] at e
        subst e
        go_wp2
        go_ret
        exact ⟨_, rfl, Kd.R_lower HO.out (by omega), HB.out⟩
  · cases h

def runes_Count.f (a0 : ByteArray) : Option Int := if a0.size ≤ 9223372036854775807 then some ((runesAt a0 a0.size 0).length : Int) else none
set_option maxRecDepth 1000000 in
set_option maxHeartbeats 2000000 in
theorem runes_Count.calls (a0 : ByteArray) (r : Int) (w : World) (h : runes_Count.f a0 = some r) :
    Calls Try.prog 13 #[.string a0] w fun e w' => e = .returned (.int .i64 r) ∧ Below w.heap.size w w' := by
  unfold runes_Count.f at h
  split at h
  · rename_i hsz
    have HR := Aside0.mk (Option.some.inj h)
    clear h
    go_enter Try.func13, Try.ntmps13
    go_wp2
    go_loopw [3] (fun v wr => ∃ (pos fuel n : Nat), wr = w.iter a0 pos ∧ v = .int .i64 n ∧ Aside0 (((n + (runesAt a0 fuel pos).length : Nat) : Int) = r) ∧ a0.size ≤ pos + fuel ∧ n ≤ pos) (fun _ wr => a0.size - wr.iterPos w.heap.size)
    case atStart => exact ⟨0, a0.size, 0, rfl, rfl, ⟨by rw [Nat.zero_add]; exact HR.out⟩, by omega, by simp⟩
    case round =>
      clear HR
      obtain ⟨pos, fuel, n, rfl, rfl, HS, hb, hlen⟩ := hrel
      by_cases hp : pos < a0.size
      · have hnx : ∀ ty, (Instr.next (.pointer (some ⟨w.heap.size, 0, none⟩)) true ty).run Try.prog (w.iter a0 pos) = _ := fun ty => run_next_any w a0 pos ty hp
        have hwd := g_width a0 pos hp
        obtain ⟨fuel, rfl⟩ : ∃ f', fuel = f' + 1 := ⟨fuel - 1, by omega⟩
        go_wp2
        go_roundw
        case rel => exact ⟨pos + (Utf8.decode a0 pos).2, fuel, n + 1, rfl, by go_num, ⟨by rw [← HS.out, runesAt, if_pos hp]; simp only [List.length_cons]; omega⟩, by omega, by omega⟩
        case measure => simp; omega
      · have hnx : ∀ ty, (Instr.next (.pointer (some ⟨w.heap.size, 0, none⟩)) true ty).run Try.prog (w.iter a0 pos) = _ := fun ty => run_next_end w a0 pos ty hp
        have e := HS.out
        rw [runesAt_end _ _ _ hp, List.length_nil, Nat.add_zero] at e
        clear HS
        have HE := Aside0.mk e
        clear e
        go_wp2
        go_ret
        exact ⟨by rw [HE.out]; rfl, g_below_iter _ _ _⟩
  · cases h

def runes_At.f (a0 : ByteArray) (a1 : Int) : Option (Int × Int × Bool) := if a0.size ≤ 9223372036854775807 then some (atAt a0 a1 a0.size 0 0) else none
set_option maxRecDepth 1000000 in
set_option maxHeartbeats 2000000 in
theorem runes_At.calls (a0 : ByteArray) (a1 : Int) (r1 : Int) (r2 : Int) (r3 : Bool) (w : World) (h : runes_At.f a0 a1 = some (r1, r2, r3)) :
    Calls Try.prog 16 #[.string a0, .int .i64 a1] w fun e w' => e = .returned (.tuple #[.int .i32 r1, .int .i64 r2, .bool r3]) ∧ Below w.heap.size w w' := by
  unfold runes_At.f at h
  split at h
  · rename_i hsz
    have HR := Aside0.mk (Option.some.inj h)
    clear h
    go_enter Try.func16, Try.ntmps16
    go_wp2
    go_loopw [7] (fun v wr => ∃ (pos fuel n : Nat), wr = w.iter a0 pos ∧ v = .int .i64 n ∧ Aside0 (atAt a0 a1 fuel pos n = (r1, r2, r3)) ∧ a0.size ≤ pos + fuel ∧ n ≤ pos) (fun _ wr => a0.size - wr.iterPos w.heap.size)
    case atStart => exact ⟨0, a0.size, 0, rfl, rfl, HR, by omega, by simp⟩
    case round =>
      clear HR
      obtain ⟨pos, fuel, n, rfl, rfl, HS, hb, hlen⟩ := hrel
      by_cases hp : pos < a0.size
      · have hnx : ∀ ty, (Instr.next (.pointer (some ⟨w.heap.size, 0, none⟩)) true ty).run Try.prog (w.iter a0 pos) = _ := fun ty => run_next_any w a0 pos ty hp
        have hwd := g_width a0 pos hp
        obtain ⟨fuel, rfl⟩ : ∃ f', fuel = f' + 1 := ⟨fuel - 1, by omega⟩
        have e := HS.out
        clear HS
        rw [atAt, if_pos hp] at e
        by_cases hk : (n : Int) = a1
        · rw [if_pos hk] at e
          have HE := Aside0.mk e
          clear e
          have hkb : ((n : Int) == a1) = true := beq_iff_eq.mpr hk
          have HK := Aside0.mk hk
          clear hk
          go_wp2
          go_ret3
          have e2 := HE.out
          simp only [Prod.mk.injEq] at e2
          obtain ⟨rfl, rfl, rfl⟩ := e2
          exact ⟨rfl, g_below_iter _ _ _⟩
        · rw [if_neg hk] at e
          have HE := Aside0.mk e
          clear e
          have hkb : ((n : Int) == a1) = false := beq_eq_false_iff_ne.mpr hk
          clear hk
          go_wp2
          go_roundw
          case rel => exact ⟨pos + (Utf8.decode a0 pos).2, fuel, n + 1, rfl, by go_num, HE, by omega, by omega⟩
          case measure => simp; omega
      · have hnx : ∀ ty, (Instr.next (.pointer (some ⟨w.heap.size, 0, none⟩)) true ty).run Try.prog (w.iter a0 pos) = _ := fun ty => run_next_end w a0 pos ty hp
        have e := HS.out
        clear HS
        rw [atAt_end _ _ _ _ _ hp] at e
        have HE := Aside0.mk e
        clear e
        go_wp2
        go_ret3
        have e2 := HE.out
        simp only [Prod.mk.injEq] at e2
        obtain ⟨rfl, rfl, rfl⟩ := e2
        exact ⟨rfl, g_below_iter _ _ _⟩
  · cases h

def runes_Cut.f (a0 : ByteArray) (a1 : Int) : Option ByteArray := if a0.size ≤ 9223372036854775807 then some (cutAt a0 a1 a0.size 0 0) else none
set_option maxRecDepth 1000000 in
set_option maxHeartbeats 2000000 in
theorem runes_Cut.calls (a0 : ByteArray) (a1 : Int) (r : ByteArray) (w : World) (h : runes_Cut.f a0 a1 = some r) :
    Calls Try.prog 17 #[.string a0, .int .i64 a1] w fun e w' => e = .returned (.string r) ∧ Below w.heap.size w w' := by
  unfold runes_Cut.f at h
  split at h
  · rename_i hsz
    have HR := Aside0.mk (Option.some.inj h)
    clear h
    go_enter Try.func17, Try.ntmps17
    go_wp2
    go_loopw [5] (fun v wr => ∃ (pos fuel n : Nat), wr = w.iter a0 pos ∧ v = .int .i64 n ∧ Aside0 (cutAt a0 a1 fuel pos n = r) ∧ a0.size ≤ pos + fuel ∧ n ≤ pos) (fun _ wr => a0.size - wr.iterPos w.heap.size)
    case atStart => exact ⟨0, a0.size, 0, rfl, rfl, HR, by omega, by simp⟩
    case round =>
      clear HR
      obtain ⟨pos, fuel, n, rfl, rfl, HS, hb, hlen⟩ := hrel
      by_cases hp : pos < a0.size
      · have hnx : ∀ ty, (Instr.next (.pointer (some ⟨w.heap.size, 0, none⟩)) true ty).run Try.prog (w.iter a0 pos) = _ := fun ty => run_next_any w a0 pos ty hp
        have hwd := g_width a0 pos hp
        obtain ⟨fuel, rfl⟩ : ∃ f', fuel = f' + 1 := ⟨fuel - 1, by omega⟩
        have e := HS.out
        clear HS
        rw [cutAt, if_pos hp] at e
        by_cases hk : (n : Int) ≥ a1
        · rw [if_pos hk] at e
          have HE := Aside0.mk e
          clear e
          have hkb : decide (a1 ≤ (n : Int)) = true := decide_eq_true hk
          clear hk
          have hpb : (pos : Int) ≤ (a0.size : Int) := by omega
          go_wp2
          go_ret
          exact ⟨by rw [← HE.out]; rfl, g_below_iter _ _ _⟩
        · rw [if_neg hk] at e
          have HE := Aside0.mk e
          clear e
          have hkb : decide (a1 ≤ (n : Int)) = false := decide_eq_false hk
          clear hk
          go_wp2
          go_roundw
          case rel => exact ⟨pos + (Utf8.decode a0 pos).2, fuel, n + 1, rfl, by go_num, HE, by omega, by omega⟩
          case measure => simp; omega
      · have hnx : ∀ ty, (Instr.next (.pointer (some ⟨w.heap.size, 0, none⟩)) true ty).run Try.prog (w.iter a0 pos) = _ := fun ty => run_next_end w a0 pos ty hp
        have e := HS.out
        clear HS
        rw [cutAt_end _ _ _ _ _ hp] at e
        by_cases hn : a1 ≤ 0
        · rw [if_pos hn] at e
          have HE := Aside0.mk e
          clear e
          have hnb : decide (a1 ≤ 0) = true := decide_eq_true hn
          clear hn
          go_wp2
          go_ret
          exact ⟨by rw [← HE.out]; rfl, g_below_iter _ _ _⟩
        · rw [if_neg hn] at e
          have HE := Aside0.mk e
          clear e
          have hnb : decide (a1 ≤ 0) = false := decide_eq_false hn
          clear hn
          go_wp2
          go_ret
          exact ⟨by rw [← HE.out]; rfl, g_below_iter _ _ _⟩
  · cases h

def runes_Valid.f (a0 : ByteArray) : Option Bool := if a0.size ≤ 9223372036854775800 then some (validAt a0 a0.size 0 (-1)) else none
set_option maxRecDepth 1000000 in
set_option maxHeartbeats 4000000 in
theorem runes_Valid.calls (a0 : ByteArray) (r : Bool) (w : World) (h : runes_Valid.f a0 = some r) :
    Calls Try.prog 14 #[.string a0] w fun e w' => e = .returned (.bool r) ∧ Below w.heap.size w w' := by
  unfold runes_Valid.f at h
  split at h
  · rename_i hsz
    have HR := Aside0.mk (Option.some.inj h)
    clear h
    go_enter Try.func14, Try.ntmps14
    go_wp2
    go_loopw [3] (fun v wr => ∃ (pos fuel : Nat) (l : Int), wr = w.iter a0 pos ∧ v = .int .i64 l ∧ Aside0 (validAt a0 fuel pos l = r) ∧ a0.size ≤ pos + fuel ∧ -1 ≤ l ∧ l < a0.size) (fun _ wr => a0.size - wr.iterPos w.heap.size)
    case atStart => exact ⟨0, a0.size, -1, rfl, rfl, HR, by omega, by omega, by omega⟩
    case round =>
      clear HR
      obtain ⟨pos, fuel, l, rfl, rfl, HS, hb, hl0, hl1⟩ := hrel
      by_cases hp : pos < a0.size
      · have hnx : ∀ ty, (Instr.next (.pointer (some ⟨w.heap.size, 0, none⟩)) true ty).run Try.prog (w.iter a0 pos) = _ := fun ty => run_next_any w a0 pos ty hp
        have hwd := g_width a0 pos hp
        obtain ⟨fuel, rfl⟩ : ∃ f', fuel = f' + 1 := ⟨fuel - 1, by omega⟩
        have e := HS.out
        clear HS
        rw [validAt, if_pos hp] at e
        have step : ∀ c : Bool, decide (0 ≤ l) = c → ¬ (0 ≤ l ∧ (pos : Int) = l + 1) → validAt a0 fuel (pos + (Utf8.decode a0 pos).2) (if ((Utf8.decode a0 pos).1 : Int) = 65533 then (pos : Int) else -1) = r → True := fun _ _ _ _ => trivial
        clear step
        by_cases h1 : 0 ≤ l
        · have h1b : decide (0 ≤ l) = true := decide_eq_true h1
          by_cases h2 : (pos : Int) = l + 1
          · rw [if_pos ⟨h1, h2⟩] at e
            have HE := Aside0.mk e
            clear e
            have h2b : ((pos : Int) == l + 1) = true := beq_iff_eq.mpr h2
            clear h2
            go_wp2
            go_ret
            exact ⟨by rw [HE.out]; rfl, g_below_iter _ _ _⟩
          · rw [if_neg (fun hh => h2 hh.2)] at e
            have h2b : ((pos : Int) == l + 1) = false := beq_eq_false_iff_ne.mpr h2
            by_cases h3 : ((Utf8.decode a0 pos).1 : Int) = 65533
            · rw [if_pos h3] at e
              have HE := Aside0.mk e
              clear e h2
              have h3b : (((Utf8.decode a0 pos).1 : Int) == 65533) = true := beq_iff_eq.mpr h3
              clear h3
              go_wp2
              go_roundw
              case rel => exact ⟨pos + (Utf8.decode a0 pos).2, fuel, (pos : Int), rfl, rfl, HE, by omega, by omega, by omega⟩
              case measure => simp; omega
            · rw [if_neg h3] at e
              have HE := Aside0.mk e
              clear e h2
              have h3b : (((Utf8.decode a0 pos).1 : Int) == 65533) = false := beq_eq_false_iff_ne.mpr h3
              clear h3
              go_wp2
              go_roundw
              case rel => exact ⟨pos + (Utf8.decode a0 pos).2, fuel, (-1 : Int), rfl, rfl, HE, by omega, by omega, by omega⟩
              case measure => simp; omega
        · have h1b : decide (0 ≤ l) = false := decide_eq_false h1
          rw [if_neg (fun hh => h1 hh.1)] at e
          by_cases h3 : ((Utf8.decode a0 pos).1 : Int) = 65533
          · rw [if_pos h3] at e
            have HE := Aside0.mk e
            clear e
            have h3b : (((Utf8.decode a0 pos).1 : Int) == 65533) = true := beq_iff_eq.mpr h3
            clear h3
            go_wp2
            go_roundw
            case rel => exact ⟨pos + (Utf8.decode a0 pos).2, fuel, (pos : Int), rfl, rfl, HE, by omega, by omega, by omega⟩
            case measure => simp; omega
          · rw [if_neg h3] at e
            have HE := Aside0.mk e
            clear e
            have h3b : (((Utf8.decode a0 pos).1 : Int) == 65533) = false := beq_eq_false_iff_ne.mpr h3
            clear h3
            go_wp2
            go_roundw
            case rel => exact ⟨pos + (Utf8.decode a0 pos).2, fuel, (-1 : Int), rfl, rfl, HE, by omega, by omega, by omega⟩
            case measure => simp; omega
      · have hnx : ∀ ty, (Instr.next (.pointer (some ⟨w.heap.size, 0, none⟩)) true ty).run Try.prog (w.iter a0 pos) = _ := fun ty => run_next_end w a0 pos ty hp
        have e := HS.out
        clear HS
        rw [validAt_end _ _ _ _ hp] at e
        by_cases h1 : l < 0
        · have HE := Aside0.mk e
          clear e
          have h1b : decide (l < 0) = true := decide_eq_true h1
          clear h1
          go_wp2
          go_ret
          exact ⟨by rw [← HE.out, h1b]; rfl, g_below_iter _ _ _⟩
        · have HE := Aside0.mk e
          clear e
          have h1b : decide (l < 0) = false := decide_eq_false h1
          go_wp2
          go_ret
          exact ⟨by rw [← HE.out, h1b]; rfl, g_below_iter _ _ _⟩
  · cases h
end Go.Proofs.Ytmolfmnepbgdfaa.G
