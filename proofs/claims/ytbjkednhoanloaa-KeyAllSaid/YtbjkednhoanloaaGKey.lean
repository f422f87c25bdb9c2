/- key.Fold and the reference's Fold, by hand: a text made bytes, its bytes stored into, made a text again. -/
-- GIVEN loess/key.Fold 1
-- GIVEN loess/loessref1.Fold 1
import Derived.Test.YtbjkednhoanloaaGRunes
import Derived.Lib.ConvBytes
set_option linter.unusedVariables false
set_option linter.unusedSimpArgs false
namespace Go.Proofs.Ytbjkednhoanloaa.G
open Go.RowKit Go.Proofs.YtbjkednhoanloaaW.PrintWords Go.Proofs.YtbjkednhoanloaaW.PrintLast Go.Proofs.YtbjkednhoanloaaW.PrintMore
/-- A row of bytes that came of a text: its spare part is frozen. -/
def BRow (w : World) (g cap : Nat) (e : TypeId) (xs : List Int) : Prop :=
  ∃ cur, w.heap[g]? = some (.cells cur e (cap, cap + 1)) ∧ cur.size = cap ∧ xs.length ≤ cap ∧ ∀ j (h : j < xs.length), cur[j]? = some (.int .u8 xs[j])
theorem BRow.cell {w : World} {g cap : Nat} {e : TypeId} {xs : List Int} (h : BRow w g cap e xs) (j : Nat) (hj : j < xs.length) : w.cell? ⟨g, j, none⟩ = some (.int .u8 xs[j]) := by
  obtain ⟨cur, h1, h2, h3, h4⟩ := h
  rw [cell_of_row w g j cur e _ h1]
  exact h4 j hj
theorem BRow.hot {w : World} {g cap : Nat} {e : TypeId} {xs : List Int} (h : BRow w g cap e xs) (j : Nat) (hj : j < xs.length) : w.frozen? ⟨g, j, none⟩ = false := by
  obtain ⟨cur, h1, h2, h3, h4⟩ := h
  simp [World.frozen?, h1]
  omega
theorem BRow.set {w : World} {g cap : Nat} {e : TypeId} {xs : List Int} (h : BRow w g cap e xs) (j : Nat) (hj : j < xs.length) (x : Int) : BRow (w.setCell ⟨g, j, none⟩ (.int .u8 x)) g cap e (xs.set j x) := by
  obtain ⟨cur, h1, h2, h3, h4⟩ := h
  refine ⟨cur.setIfInBounds j (.int .u8 x), ?_, by simp [h2], by simpa using h3, fun i hi => ?_⟩
  · rw [setCell_eq_setRow w g j cur e _ _ h1]
    exact setRow_heap w g cur _ e _ h1
  · have hi' : i < xs.length := by simpa using hi
    rw [List.getElem_set]
    by_cases hij : j = i
    · subst hij
      rw [if_pos rfl, Array.getElem?_setIfInBounds_self]
      rw [if_pos (by omega)]
    · rw [if_neg hij, Array.getElem?_setIfInBounds_ne hij]
      exact h4 i hi'
theorem BRow.reads {w : World} {g cap : Nat} {e : TypeId} {xs : List Int} (h : BRow w g cap e xs) (n : Nat) (hn : xs.length = n) (hl : n ≤ 9223372036854775807) : (Kd.int .u8).C w (some ⟨g, 0, none⟩) n xs := by
  subst hn
  refine Kd.C_of_reads (d := 0) (h1 := fun _ => rfl) ⟨rfl, hl, fun _ => ⟨_, rfl, fun j hj => ?_⟩⟩
  rw [add_plain, h.cell j hj]
  simp [List.getD_eq_getElem?_getD, hj]
theorem BRow.start (w : World) (e : TypeId) (s : ByteArray) : BRow (Lib.bytesWorld w e s) w.heap.size (grownCap w s.size 0 e) e (bytesOf s) := by
  have hle : s.size ≤ grownCap w s.size 0 e := by
    exact grownCap_ge w s.size 0 e
  have hsz : (Lib.bytesCells w e s).size = grownCap w s.size 0 e := by
    have : s.data.size = s.size := rfl
    simp [Lib.bytesCells, this]
    omega
  refine ⟨Lib.bytesCells w e s, ?_, hsz, by rw [bytesOf_length]; exact hle, fun j hj => ?_⟩
  · rw [Lib.bytesWorld_at_new, hsz]
  · have hj' : j < s.data.toList.length := by
      have := bytesOf_length s
      have h2 := data_length s
      omega
    have h1 := Lib.bytesWorld_cell w e s j (by rw [← bytesOf_length]; exact hj)
    rw [cell_of_row _ _ j _ e _ (Lib.bytesWorld_at_new w e s)] at h1
    rw [h1]
    simp [bytesOf, List.getD_eq_getElem?_getD, List.getElem?_eq_getElem hj']
def foldB (x : Int) : Int := if 65 ≤ x ∧ x ≤ 90 then x + 32 else x
theorem fold_step {l : List Int} (pos : Nat) (hp : pos < l.length) {xs : List Int} (h : xs = (l.map foldB).take pos ++ l.drop pos) : xs[pos]? = l[pos]? ∧ xs.set pos (foldB l[pos]) = (l.map foldB).take (pos + 1) ++ l.drop (pos + 1) := by
  subst h
  have hl : ((l.map foldB).take pos).length = pos := by simp; omega
  refine ⟨?_, ?_⟩
  · rw [List.getElem?_append_right (by omega), hl]
    simp
  · rw [List.drop_eq_getElem_cons hp, List.set_append_right _ _ (by omega), hl]
    rw [List.take_succ_eq_append_getElem (by simpa using hp), Nat.sub_self, List.set_cons_zero, List.append_assoc, List.getElem_map]
    rfl
theorem BRow.same {l : List Int} {pos : Nat} {xs : List Int} {x : Int} (h : xs = (l.map foldB).take pos ++ l.drop pos) {hp : pos < l.length} (hx : x = l[pos]) (hp' : pos < l.length) : xs.set pos x = xs := by
  have h1 := (fold_step pos hp h).1
  rw [List.getElem?_eq_getElem hp, ← hx] at h1
  obtain ⟨hlt, he⟩ := List.getElem?_eq_some_iff.1 h1
  rw [← he]
  exact List.set_getElem_self hlt
theorem fold_done {l : List Int} (pos : Nat) (hp : ¬ pos < l.length) {xs : List Int} (h : xs = (l.map foldB).take pos ++ l.drop pos) : xs = l.map foldB := by
  rw [h, List.take_of_length_le (by simp; omega), List.drop_of_length_le (by omega), List.append_nil]
def key_Fold.f (a0 : ByteArray) : Option ByteArray := if a0.size ≤ 9223372036854775800 then some (strOfNums ((bytesOf a0).map foldB)) else none
set_option maxRecDepth 1000000 in
set_option maxHeartbeats 4000000 in
theorem key_Fold.calls (a0 : ByteArray) (r : ByteArray) (w : World) (h : key_Fold.f a0 = some r) :
    Calls Try.prog 14 #[.string a0] w fun e w' => e = .returned (.string r) ∧ Below w.heap.size w w' := by
  unfold key_Fold.f at h
  split at h
  · rename_i hsz
    have HR := Aside0.mk (Option.some.inj h)
    clear h
    have kb := print_bytes (P := Try.prog) 9 35 5 Try.underlying9 Try.underlying35 Try.underlying5 a0 w
    have HS := Aside0.mk (BRow.start w 5 a0)
    have HB := Aside0.mk (bytes_below (B := w.heap.size) (Below.refl w.heap.size w) (Nat.le_refl _) 5 a0)
    obtain ⟨cap, hcap⟩ : ∃ cap, cap = grownCap w a0.size 0 5 := ⟨_, rfl⟩
    obtain ⟨w1, hw1⟩ : ∃ w1, w1 = Lib.bytesWorld w 5 a0 := ⟨_, rfl⟩
    rw [← hcap, ← hw1] at kb
    rw [← hcap, ← hw1] at HS
    rw [← hw1] at HB
    clear hw1 hcap
    go_enter Try.func14, Try.ntmps14
    go_wp2
    go_loopw [10] (fun v wr => ∃ (pos : Nat) (xs : List Int), v = .int .i64 pos ∧ pos ≤ a0.size ∧ xs.length = a0.size ∧ Aside0 (BRow wr w.heap.size cap 5 xs) ∧ Aside0 (Below w.heap.size w wr) ∧ Aside0 (xs = ((bytesOf a0).map foldB).take pos ++ (bytesOf a0).drop pos)) (fun v _ => match v with | .int _ i => a0.size - i.toNat | _ => 0)
    case atStart => exact ⟨0, bytesOf a0, rfl, Nat.zero_le _, bytesOf_length a0, HS, HB, ⟨by simp⟩⟩
    case round =>
      have HR0 := HR
      clear HR
      obtain ⟨pos, xs, rfl, hp, hl, H1, H2, H3⟩ := hrel
      by_cases hpl : pos < a0.size
      · have hbl : pos < (bytesOf a0).length := by rw [bytesOf_length]; exact hpl
        have hst := Aside0.mk (fold_step pos hbl H3.out)
        have hcell := H1.out.cell pos (by omega)
        have hhot := H1.out.hot pos (by omega)
        have hbx : xs[pos]'(by omega) = (bytesOf a0)[pos] := Option.some.inj (by rw [← List.getElem?_eq_getElem, ← List.getElem?_eq_getElem]; exact hst.out.1)
        rw [hbx] at hcell
        have hst2 := Aside0.mk hst.out.2
        clear hst hbx
        have hu : 0 ≤ (bytesOf a0)[pos] ∧ (bytesOf a0)[pos] < 256 := by
          simp only [bytesOf, List.getElem_map]
          have := (a0.data.toList[pos]'(by simpa [bytesOf] using hbl)).toNat_lt
          omega
        obtain ⟨x, hx⟩ : ∃ x, x = (bytesOf a0)[pos] := ⟨_, rfl⟩
        rw [← hx] at hcell hst2 hu
        have HX := Aside0.mk hx
        clear hx
        have hlt : (pos : Int) < a0.size := by omega
        by_cases h1 : 65 ≤ x
        · have h1b : decide (65 ≤ x) = true := decide_eq_true h1
          by_cases h2 : x ≤ 90
          · have h2b : decide (x ≤ 90) = true := decide_eq_true h2
            have HN := Aside0.mk (H1.out.set pos (by omega) (x - 65 + 97))
            have HN2 := Aside0.mk (H2.out.setCell (p := ⟨w.heap.size, pos, none⟩) (Nat.le_refl _) (.int .u8 (x - 65 + 97)))
            have HE := Aside0.mk (show foldB x = x - 65 + 97 by unfold foldB; rw [if_pos ⟨h1, h2⟩]; omega)
            go_wp2
            go_roundw
            case rel => exact ⟨pos + 1, xs.set pos (x - 65 + 97), by go_num, by omega, by simp; omega, HN, HN2, ⟨by rw [← HE.out]; exact hst2.out⟩⟩
            case measure => simp; omega
          · have h2b : decide (x ≤ 90) = false := decide_eq_false h2
            have HE := Aside0.mk (show foldB x = x by unfold foldB; rw [if_neg (fun h => h2 h.2)])
            go_wp2
            go_roundw
            case rel => exact ⟨pos + 1, xs, by go_num, by omega, by omega, H1, H2, ⟨by rw [← hst2.out, HE.out]; exact (BRow.same H3.out HX.out hbl).symm⟩⟩
            case measure => simp; omega
        · have h1b : decide (65 ≤ x) = false := decide_eq_false h1
          have HE := Aside0.mk (show foldB x = x by unfold foldB; rw [if_neg (fun h => h1 h.1)])
          go_wp2
          go_roundw
          case rel => exact ⟨pos + 1, xs, by go_num, by omega, by omega, H1, H2, ⟨by rw [← hst2.out, HE.out]; exact (BRow.same H3.out HX.out hbl).symm⟩⟩
          case measure => simp; omega
      · have hlt : ¬ (pos : Int) < a0.size := by omega
        have hcv := Kd.C_string (P := Try.prog) (c := cap) Try.underlying35 Try.underlying5 Try.underlying9 (H1.out.reads a0.size hl (by omega))
        have HE := Aside0.mk (fold_done pos (by rw [bytesOf_length]; exact hpl) H3.out)
        clear H3
        go_wp2
        go_ret
        exact ⟨by rw [HE.out, HR0.out]; rfl, H2.out⟩
  · cases h
def loessref1_Fold.f (a0 : ByteArray) : Option ByteArray := if a0.size ≤ 9223372036854775800 then some (strOfNums ((bytesOf a0).map foldB)) else none
set_option maxRecDepth 1000000 in
set_option maxHeartbeats 4000000 in
theorem loessref1_Fold.calls (a0 : ByteArray) (r : ByteArray) (w : World) (h : loessref1_Fold.f a0 = some r) :
    Calls Try.prog 15 #[.string a0] w fun e w' => e = .returned (.string r) ∧ Below w.heap.size w w' := by
  unfold loessref1_Fold.f at h
  split at h
  · rename_i hsz
    have HR := Aside0.mk (Option.some.inj h)
    clear h
    have kb := print_bytes (P := Try.prog) 9 35 5 Try.underlying9 Try.underlying35 Try.underlying5 a0 w
    have HS := Aside0.mk (BRow.start w 5 a0)
    have HB := Aside0.mk (bytes_below (B := w.heap.size) (Below.refl w.heap.size w) (Nat.le_refl _) 5 a0)
    obtain ⟨cap, hcap⟩ : ∃ cap, cap = grownCap w a0.size 0 5 := ⟨_, rfl⟩
    obtain ⟨w1, hw1⟩ : ∃ w1, w1 = Lib.bytesWorld w 5 a0 := ⟨_, rfl⟩
    rw [← hcap, ← hw1] at kb
    rw [← hcap, ← hw1] at HS
    rw [← hw1] at HB
    clear hw1 hcap
    go_enter Try.func15, Try.ntmps15
    go_wp2
    go_loopw [4] (fun v wr => ∃ (pos : Nat) (xs : List Int), v = .int .i64 pos ∧ pos ≤ a0.size ∧ xs.length = a0.size ∧ Aside0 (BRow wr w.heap.size cap 5 xs) ∧ Aside0 (Below w.heap.size w wr) ∧ Aside0 (xs = ((bytesOf a0).map foldB).take pos ++ (bytesOf a0).drop pos)) (fun v _ => match v with | .int _ i => a0.size - i.toNat | _ => 0)
    case atStart => exact ⟨0, bytesOf a0, rfl, Nat.zero_le _, bytesOf_length a0, HS, HB, ⟨by simp⟩⟩
    case round =>
      have HR0 := HR
      clear HR
      obtain ⟨pos, xs, rfl, hp, hl, H1, H2, H3⟩ := hrel
      by_cases hpl : pos < a0.size
      · have hbl : pos < (bytesOf a0).length := by rw [bytesOf_length]; exact hpl
        have hst := Aside0.mk (fold_step pos hbl H3.out)
        have hcell := H1.out.cell pos (by omega)
        have hhot := H1.out.hot pos (by omega)
        have hbx : xs[pos]'(by omega) = (bytesOf a0)[pos] := Option.some.inj (by rw [← List.getElem?_eq_getElem, ← List.getElem?_eq_getElem]; exact hst.out.1)
        rw [hbx] at hcell
        have hst2 := Aside0.mk hst.out.2
        clear hst hbx
        have hu : 0 ≤ (bytesOf a0)[pos] ∧ (bytesOf a0)[pos] < 256 := by
          simp only [bytesOf, List.getElem_map]
          have := (a0.data.toList[pos]'(by simpa [bytesOf] using hbl)).toNat_lt
          omega
        obtain ⟨x, hx⟩ : ∃ x, x = (bytesOf a0)[pos] := ⟨_, rfl⟩
        rw [← hx] at hcell hst2 hu
        have HX := Aside0.mk hx
        clear hx
        have hlt : (pos : Int) < a0.size := by omega
        by_cases h1 : 65 ≤ x
        · have h1b : decide (65 ≤ x) = true := decide_eq_true h1
          by_cases h2 : x ≤ 90
          · have h2b : decide (x ≤ 90) = true := decide_eq_true h2
            have HN := Aside0.mk (H1.out.set pos (by omega) (x + 32))
            have HN2 := Aside0.mk (H2.out.setCell (p := ⟨w.heap.size, pos, none⟩) (Nat.le_refl _) (.int .u8 (x + 32)))
            have HE := Aside0.mk (show foldB x = x + 32 by unfold foldB; rw [if_pos ⟨h1, h2⟩])
            go_wp2
            go_roundw
            case rel => exact ⟨pos + 1, xs.set pos (x + 32), by go_num, by omega, by simp; omega, HN, HN2, ⟨by rw [← HE.out]; exact hst2.out⟩⟩
            case measure => simp; omega
          · have h2b : decide (x ≤ 90) = false := decide_eq_false h2
            have HE := Aside0.mk (show foldB x = x by unfold foldB; rw [if_neg (fun h => h2 h.2)])
            go_wp2
            go_roundw
            case rel => exact ⟨pos + 1, xs, by go_num, by omega, by omega, H1, H2, ⟨by rw [← hst2.out, HE.out]; exact (BRow.same H3.out HX.out hbl).symm⟩⟩
            case measure => simp; omega
        · have h1b : decide (65 ≤ x) = false := decide_eq_false h1
          have HE := Aside0.mk (show foldB x = x by unfold foldB; rw [if_neg (fun h => h1 h.1)])
          go_wp2
          go_roundw
          case rel => exact ⟨pos + 1, xs, by go_num, by omega, by omega, H1, H2, ⟨by rw [← hst2.out, HE.out]; exact (BRow.same H3.out HX.out hbl).symm⟩⟩
          case measure => simp; omega
      · have hlt : ¬ (pos : Int) < a0.size := by omega
        have hcv := Kd.C_string (P := Try.prog) (c := cap) Try.underlying35 Try.underlying5 Try.underlying9 (H1.out.reads a0.size hl (by omega))
        have HE := Aside0.mk (fold_done pos (by rw [bytesOf_length]; exact hpl) H3.out)
        clear H3
        go_wp2
        go_ret
        exact ⟨by rw [HE.out, HR0.out]; rfl, H2.out⟩
  · cases h
end Go.Proofs.Ytbjkednhoanloaa.G
