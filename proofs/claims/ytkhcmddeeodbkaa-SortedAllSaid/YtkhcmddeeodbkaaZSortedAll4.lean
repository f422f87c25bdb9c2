import Derived.Laws.RangeAny
import Derived.WalkSpells
import Derived.Lib.OthersKept
import Derived.Laws.StructEq
import Derived.Laws.Cover1
import Derived.Defers
import Derived.Recover
import Derived.Laws.Pointers
import Derived.Test.YtkhcmddeeodbkaaZSortedAll1
import Derived.Test.YtkhcmddeeodbkaaZSortedAll3
-- Own texts and, of the words that the kit's print program wrote for this claim, those that are needed here: put together by wip/prune.py.
set_option linter.unusedSimpArgs false
set_option linter.unusedVariables false
namespace Go.Proofs.Ytkhcmddeeodbkaa.Q
open Go.RowKit Go.Proofs.YtkhcmddeeodbkaaW.PrintWords Go.Proofs.YtkhcmddeeodbkaaW.PrintMore
abbrev Rn := Int × Nat × Bool
def bad : Rn := (65533, 1, false)
def fin (x low : Int) (n : Nat) : Rn := if x < low ∨ x > 1114111 ∨ (55296 ≤ x ∧ x < 57344) then bad else (x, n, true)
def Cont (c : Int) : Prop := 128 ≤ c ∧ c ≤ 191
instance (c : Int) : Decidable (Cont c) := inferInstanceAs (Decidable (_ ∧ _))
def dec (l : List Int) : Rn :=
 if l.getD 0 0 < 128 then (l.getD 0 0, 1, true)
 else if 192 ≤ l.getD 0 0 ∧ l.getD 0 0 < 224 then (if 2 ≤ l.length ∧ Cont (l.getD 1 0) then fin ((l.getD 0 0 - 192) * 64 + (l.getD 1 0 - 128)) 128 2 else bad)
 else if 224 ≤ l.getD 0 0 ∧ l.getD 0 0 < 240 then (if 3 ≤ l.length ∧ Cont (l.getD 1 0) ∧ Cont (l.getD 2 0) then fin (((l.getD 0 0 - 224) * 64 + (l.getD 1 0 - 128)) * 64 + (l.getD 2 0 - 128)) 2048 3 else bad)
 else if 240 ≤ l.getD 0 0 ∧ l.getD 0 0 < 248 then (if 4 ≤ l.length ∧ Cont (l.getD 1 0) ∧ Cont (l.getD 2 0) ∧ Cont (l.getD 3 0) then fin ((((l.getD 0 0 - 240) * 64 + (l.getD 1 0 - 128)) * 64 + (l.getD 2 0 - 128)) * 64 + (l.getD 3 0 - 128)) 65536 4 else bad)
 else bad
theorem fin_cases (x low : Int) (n : Nat) : fin x low n = bad ∨ (fin x low n = (x, n, true) ∧ low ≤ x ∧ x ≤ 1114111 ∧ ¬ (55296 ≤ x ∧ x < 57344)) := by
 unfold fin
 split
 · exact .inl rfl
 · exact .inr ⟨rfl, by omega⟩
theorem dec_cases (l : List Int) : dec l = bad ∨ (dec l).2.2 = true ∧
    ((dec l).2.1 = 1 ∧ l.getD 0 0 < 128 ∧ (dec l).1 = l.getD 0 0 ∨
     (dec l).2.1 = 2 ∧ 2 ≤ l.length ∧ 192 ≤ l.getD 0 0 ∧ l.getD 0 0 < 224 ∧ Cont (l.getD 1 0) ∧ (dec l).1 = (l.getD 0 0 - 192) * 64 + (l.getD 1 0 - 128) ∧ 128 ≤ (dec l).1 ∨
     (dec l).2.1 = 3 ∧ 3 ≤ l.length ∧ 224 ≤ l.getD 0 0 ∧ l.getD 0 0 < 240 ∧ Cont (l.getD 1 0) ∧ Cont (l.getD 2 0) ∧ (dec l).1 = ((l.getD 0 0 - 224) * 64 + (l.getD 1 0 - 128)) * 64 + (l.getD 2 0 - 128) ∧ 2048 ≤ (dec l).1 ∧ ¬ (55296 ≤ (dec l).1 ∧ (dec l).1 < 57344) ∨
     (dec l).2.1 = 4 ∧ 4 ≤ l.length ∧ 240 ≤ l.getD 0 0 ∧ l.getD 0 0 < 248 ∧ Cont (l.getD 1 0) ∧ Cont (l.getD 2 0) ∧ Cont (l.getD 3 0) ∧ (dec l).1 = (((l.getD 0 0 - 240) * 64 + (l.getD 1 0 - 128)) * 64 + (l.getD 2 0 - 128)) * 64 + (l.getD 3 0 - 128) ∧ 65536 ≤ (dec l).1 ∧ (dec l).1 ≤ 1114111) := by
 by_cases h0 : l.getD 0 0 < 128
 · right
   have e : dec l = (l.getD 0 0, 1, true) := by unfold dec; rw [if_pos h0]
   rw [e]
   exact ⟨rfl, .inl ⟨rfl, h0, rfl⟩⟩
 · by_cases h2 : 192 ≤ l.getD 0 0 ∧ l.getD 0 0 < 224
   · by_cases hc : 2 ≤ l.length ∧ Cont (l.getD 1 0)
     · have e : dec l = fin ((l.getD 0 0 - 192) * 64 + (l.getD 1 0 - 128)) 128 2 := by unfold dec; rw [if_neg h0, if_pos h2, if_pos hc]
       rw [e]
       rcases fin_cases ((l.getD 0 0 - 192) * 64 + (l.getD 1 0 - 128)) 128 2 with h | ⟨h, h3⟩
       · exact .inl h
       · rw [h]; exact .inr ⟨rfl, .inr (.inl ⟨rfl, hc.1, h2.1, h2.2, hc.2, rfl, h3.1⟩)⟩
     · left; unfold dec; rw [if_neg h0, if_pos h2, if_neg hc]
   · by_cases h3 : 224 ≤ l.getD 0 0 ∧ l.getD 0 0 < 240
     · by_cases hc : 3 ≤ l.length ∧ Cont (l.getD 1 0) ∧ Cont (l.getD 2 0)
       · have e : dec l = fin (((l.getD 0 0 - 224) * 64 + (l.getD 1 0 - 128)) * 64 + (l.getD 2 0 - 128)) 2048 3 := by unfold dec; rw [if_neg h0, if_neg h2, if_pos h3, if_pos hc]
         rw [e]
         rcases fin_cases (((l.getD 0 0 - 224) * 64 + (l.getD 1 0 - 128)) * 64 + (l.getD 2 0 - 128)) 2048 3 with h | ⟨h, h4⟩
         · exact .inl h
         · rw [h]; exact .inr ⟨rfl, .inr (.inr (.inl ⟨rfl, hc.1, h3.1, h3.2, hc.2.1, hc.2.2, rfl, h4.1, h4.2.2⟩))⟩
       · left; unfold dec; rw [if_neg h0, if_neg h2, if_pos h3, if_neg hc]
     · by_cases h4 : 240 ≤ l.getD 0 0 ∧ l.getD 0 0 < 248
       · by_cases hc : 4 ≤ l.length ∧ Cont (l.getD 1 0) ∧ Cont (l.getD 2 0) ∧ Cont (l.getD 3 0)
         · have e : dec l = fin ((((l.getD 0 0 - 240) * 64 + (l.getD 1 0 - 128)) * 64 + (l.getD 2 0 - 128)) * 64 + (l.getD 3 0 - 128)) 65536 4 := by unfold dec; rw [if_neg h0, if_neg h2, if_neg h3, if_pos h4, if_pos hc]
           rw [e]
           rcases fin_cases ((((l.getD 0 0 - 240) * 64 + (l.getD 1 0 - 128)) * 64 + (l.getD 2 0 - 128)) * 64 + (l.getD 3 0 - 128)) 65536 4 with h | ⟨h, h5⟩
           · exact .inl h
           · rw [h]; exact .inr ⟨rfl, .inr (.inr (.inr ⟨rfl, hc.1, h4.1, h4.2, hc.2.1, hc.2.2.1, hc.2.2.2, rfl, h5.1, h5.2.1⟩))⟩
         · left; unfold dec; rw [if_neg h0, if_neg h2, if_neg h3, if_pos h4, if_neg hc]
       · left; unfold dec; rw [if_neg h0, if_neg h2, if_neg h3, if_neg h4]
theorem dec_width (l : List Int) : 1 ≤ (dec l).2.1 := by
 rcases dec_cases l with h | ⟨_, h | h | h | h⟩
 · rw [h]; exact Nat.le_refl _
 all_goals omega
theorem dec_fits {l : List Int} (hl : 0 < l.length) : (dec l).2.1 ≤ l.length := by
 rcases dec_cases l with h | ⟨_, h | h | h | h⟩
 · rw [h]; exact hl
 all_goals omega
theorem dec_bad {l : List Int} (h : (dec l).2.2 = false) : dec l = bad := by
 rcases dec_cases l with h1 | ⟨h1, _⟩
 · exact h1
 · rw [h1] at h; cases h
theorem dec_ok_iff (l : List Int) (hb : Byt l) : (dec l).2.2 = false ↔ ((dec l).1 = 65533 ∧ (dec l).2.1 = 1) := by
 constructor
 · intro h; rw [dec_bad h]; exact ⟨rfl, rfl⟩
 · rintro ⟨h1, h2⟩
   rcases dec_cases l with h | ⟨_, h | h | h | h⟩
   · rw [h]; rfl
   · omega
   all_goals omega
def ds (l : List Int) : List Rn := if h : l = [] then [] else dec l :: ds (l.drop (dec l).2.1)
termination_by l.length
decreasing_by
 have := dec_width l
 have := List.length_pos_iff.2 h
 simp only [List.length_drop]
 omega
theorem ds_nil : ds [] = [] := by rw [ds, dif_pos rfl]
theorem ds_cons {l : List Int} (h : l ≠ []) : ds l = dec l :: ds (l.drop (dec l).2.1) := by rw [ds, dif_neg h]
theorem ds_len_le : ∀ (n : Nat) (l : List Int), l.length ≤ n → (ds l).length ≤ l.length := by
 intro n
 induction n with
 | zero => intro l hl; have : l = [] := List.eq_nil_of_length_eq_zero (by omega); subst this; rw [ds_nil]; exact Nat.le_refl _
 | succ n ih =>
   intro l hl
   by_cases h : l = []
   · subst h; rw [ds_nil]; exact Nat.le_refl _
   · have h1 := dec_width l
     have h2 := dec_fits (List.length_pos_iff.2 h)
     rw [ds_cons h]
     have := ih (l.drop (dec l).2.1) (by simp only [List.length_drop]; omega)
     simp only [List.length_cons, List.length_drop] at this ⊢
     omega
theorem get_byte (s : ByteArray) (p k : Nat) (h : p + k < s.size) : ((bytesOf s).drop p).getD k 0 = ((s.get! (p + k)).toNat : Int) := by
 have e : s.get! (p + k) = s.data[p + k]'h := by simp [ByteArray.get!, getElem!_pos, h]
 have hd : p + k < s.data.toList.length := by rw [Array.length_toList]; exact h
 rw [e]
 simp only [List.getD_eq_getElem?_getD, List.getElem?_drop, bytesOf, List.getElem?_map]
 rw [List.getElem?_eq_getElem hd]
 simp
def mdec (sz p x0 x1 x2 x3 : Nat) : Nat × Nat :=
 if x0 < 128 then (x0, 1)
 else if x0 / 32 == 6 && (decide (p + 1 < sz) && x1 / 64 == 2) then
  (if 128 ≤ x0 % 32 * 64 + x1 % 64 then (x0 % 32 * 64 + x1 % 64, 2) else (65533, 1))
 else if x0 / 16 == 14 && (decide (p + 1 < sz) && x1 / 64 == 2) && (decide (p + 2 < sz) && x2 / 64 == 2) then
  (if decide (2048 ≤ x0 % 16 * 4096 + x1 % 64 * 64 + x2 % 64) && Utf8.valid ((x0 % 16 * 4096 + x1 % 64 * 64 + x2 % 64 : Nat) : Int) then (x0 % 16 * 4096 + x1 % 64 * 64 + x2 % 64, 3) else (65533, 1))
 else if x0 / 8 == 30 && (decide (p + 1 < sz) && x1 / 64 == 2) && (decide (p + 2 < sz) && x2 / 64 == 2) && (decide (p + 3 < sz) && x3 / 64 == 2) then
  (if decide (65536 ≤ x0 % 8 * 262144 + x1 % 64 * 4096 + x2 % 64 * 64 + x3 % 64) && Utf8.valid ((x0 % 8 * 262144 + x1 % 64 * 4096 + x2 % 64 * 64 + x3 % 64 : Nat) : Int) then (x0 % 8 * 262144 + x1 % 64 * 4096 + x2 % 64 * 64 + x3 % 64, 4) else (65533, 1))
 else (65533, 1)
theorem decode_mdec (s : ByteArray) (p : Nat) : Utf8.decode s p = mdec s.size p (s.get! (p + 0)).toNat (s.get! (p + 1)).toNat (s.get! (p + 2)).toNat (s.get! (p + 3)).toNat := rfl
def qdec (n : Nat) (y0 y1 y2 y3 : Int) : Rn :=
 if y0 < 128 then (y0, 1, true)
 else if 192 ≤ y0 ∧ y0 < 224 then (if 2 ≤ n ∧ Cont y1 then fin ((y0 - 192) * 64 + (y1 - 128)) 128 2 else bad)
 else if 224 ≤ y0 ∧ y0 < 240 then (if 3 ≤ n ∧ Cont y1 ∧ Cont y2 then fin (((y0 - 224) * 64 + (y1 - 128)) * 64 + (y2 - 128)) 2048 3 else bad)
 else if 240 ≤ y0 ∧ y0 < 248 then (if 4 ≤ n ∧ Cont y1 ∧ Cont y2 ∧ Cont y3 then fin ((((y0 - 240) * 64 + (y1 - 128)) * 64 + (y2 - 128)) * 64 + (y3 - 128)) 65536 4 else bad)
 else bad
theorem dec_qdec (l : List Int) : dec l = qdec l.length (l.getD 0 0) (l.getD 1 0) (l.getD 2 0) (l.getD 3 0) := rfl
theorem mdec_prop (sz p x0 x1 x2 x3 : Nat) : mdec sz p x0 x1 x2 x3 =
    if x0 < 128 then (x0, 1)
    else if x0 / 32 = 6 ∧ p + 1 < sz ∧ x1 / 64 = 2 then (if 128 ≤ x0 % 32 * 64 + x1 % 64 then (x0 % 32 * 64 + x1 % 64, 2) else (65533, 1))
    else if (x0 / 16 = 14 ∧ p + 1 < sz ∧ x1 / 64 = 2) ∧ p + 2 < sz ∧ x2 / 64 = 2 then
     (if 2048 ≤ x0 % 16 * 4096 + x1 % 64 * 64 + x2 % 64 ∧ (x0 % 16 * 4096 + x1 % 64 * 64 + x2 % 64 < 55296 ∨ (57344 ≤ x0 % 16 * 4096 + x1 % 64 * 64 + x2 % 64 ∧ x0 % 16 * 4096 + x1 % 64 * 64 + x2 % 64 ≤ 1114111)) then (x0 % 16 * 4096 + x1 % 64 * 64 + x2 % 64, 3) else (65533, 1))
    else if ((x0 / 8 = 30 ∧ p + 1 < sz ∧ x1 / 64 = 2) ∧ p + 2 < sz ∧ x2 / 64 = 2) ∧ p + 3 < sz ∧ x3 / 64 = 2 then
     (if 65536 ≤ x0 % 8 * 262144 + x1 % 64 * 4096 + x2 % 64 * 64 + x3 % 64 ∧ (x0 % 8 * 262144 + x1 % 64 * 4096 + x2 % 64 * 64 + x3 % 64 < 55296 ∨ (57344 ≤ x0 % 8 * 262144 + x1 % 64 * 4096 + x2 % 64 * 64 + x3 % 64 ∧ x0 % 8 * 262144 + x1 % 64 * 4096 + x2 % 64 * 64 + x3 % 64 ≤ 1114111)) then (x0 % 8 * 262144 + x1 % 64 * 4096 + x2 % 64 * 64 + x3 % 64, 4) else (65533, 1))
    else (65533, 1) := by
 have hval : ∀ x : Nat, Utf8.valid (x : Int) = true ↔ (x < 55296 ∨ (57344 ≤ x ∧ x ≤ 1114111)) := by
  intro x
  simp only [Utf8.valid, Bool.or_eq_true, Bool.and_eq_true, decide_eq_true_eq]
  omega
 unfold mdec
 simp only [Bool.and_eq_true, decide_eq_true_eq, beq_iff_eq, hval, and_assoc]
theorem mdec_qdec (sz p n x0 x1 x2 x3 : Nat) (y0 y1 y2 y3 : Int) (h : p < sz) (hlen : n = sz - p) (g0 : y0 = x0) (g1 : p + 1 < sz → y1 = x1) (g2 : p + 2 < sz → y2 = x2) (g3 : p + 3 < sz → y3 = x3)
    (b0 : x0 < 256) (b1 : x1 < 256) (b2 : x2 < 256) (b3 : x3 < 256) : (((mdec sz p x0 x1 x2 x3).1 : Int), (mdec sz p x0 x1 x2 x3).2) = ((qdec n y0 y1 y2 y3).1, (qdec n y0 y1 y2 y3).2.1) := by
 have fb : ∀ {x low : Int} {n : Nat}, (x < low ∨ x > 1114111 ∨ (55296 ≤ x ∧ x < 57344)) → fin x low n = bad := fun h => by unfold fin; rw [if_pos h]
 have fg : ∀ {x low : Int} {n : Nat}, ¬ (x < low ∨ x > 1114111 ∨ (55296 ≤ x ∧ x < 57344)) → fin x low n = (x, n, true) := fun h => by unfold fin; rw [if_neg h]
 by_cases h0 : x0 < 128
 · have hm : mdec sz p x0 x1 x2 x3 = (x0, 1) := by rw [mdec_prop, if_pos h0]
   have hq : qdec n y0 y1 y2 y3 = (y0, 1, true) := by unfold qdec; rw [if_pos (by omega)]
   rw [hm, hq, g0]
 have h0' : ¬ y0 < 128 := by omega
 by_cases h1 : x0 / 32 = 6
 · have h1' : 192 ≤ y0 ∧ y0 < 224 := by omega
   by_cases hc : p + 1 < sz ∧ x1 / 64 = 2
   · have e1 := g1 hc.1
     have hc' : 2 ≤ n ∧ Cont y1 := by unfold Cont; omega
     have hq0 : qdec n y0 y1 y2 y3 = fin ((y0 - 192) * 64 + (y1 - 128)) 128 2 := by unfold qdec; rw [if_neg h0', if_pos h1', if_pos hc']
     by_cases hv : 128 ≤ x0 % 32 * 64 + x1 % 64
     · have hm : mdec sz p x0 x1 x2 x3 = (x0 % 32 * 64 + x1 % 64, 2) := by rw [mdec_prop, if_neg h0, if_pos ⟨h1, hc⟩, if_pos hv]
       rw [hm, hq0, fg (by omega)]
       refine Prod.ext ?_ rfl
       show ((x0 % 32 * 64 + x1 % 64 : Nat) : Int) = (y0 - 192) * 64 + (y1 - 128)
       omega
     · have hm : mdec sz p x0 x1 x2 x3 = (65533, 1) := by rw [mdec_prop, if_neg h0, if_pos ⟨h1, hc⟩, if_neg hv]
       rw [hm, hq0, fb (by omega)]
       rfl
   · have e1 : ¬ (2 ≤ n ∧ Cont y1) := by
       unfold Cont
       intro hh
       have := g1 (by omega)
       omega
     have hm : mdec sz p x0 x1 x2 x3 = (65533, 1) := by rw [mdec_prop, if_neg h0, if_neg (fun hh => hc hh.2), if_neg (by omega), if_neg (by omega)]
     have hq : qdec n y0 y1 y2 y3 = bad := by unfold qdec; rw [if_neg h0', if_pos h1', if_neg e1]
     rw [hm, hq]
     rfl
 have h1' : ¬ (192 ≤ y0 ∧ y0 < 224) := by omega
 by_cases h2 : x0 / 16 = 14
 · have h2' : 224 ≤ y0 ∧ y0 < 240 := by omega
   by_cases hc : (p + 1 < sz ∧ x1 / 64 = 2) ∧ (p + 2 < sz ∧ x2 / 64 = 2)
   · have e1 := g1 hc.1.1
     have e2 := g2 hc.2.1
     have hc' : 3 ≤ n ∧ Cont y1 ∧ Cont y2 := by unfold Cont; omega
     have hq0 : qdec n y0 y1 y2 y3 = fin (((y0 - 224) * 64 + (y1 - 128)) * 64 + (y2 - 128)) 2048 3 := by unfold qdec; rw [if_neg h0', if_neg h1', if_pos h2', if_pos hc']
     by_cases hv : 2048 ≤ x0 % 16 * 4096 + x1 % 64 * 64 + x2 % 64 ∧ (x0 % 16 * 4096 + x1 % 64 * 64 + x2 % 64 < 55296 ∨ (57344 ≤ x0 % 16 * 4096 + x1 % 64 * 64 + x2 % 64 ∧ x0 % 16 * 4096 + x1 % 64 * 64 + x2 % 64 ≤ 1114111))
     · have hm : mdec sz p x0 x1 x2 x3 = (x0 % 16 * 4096 + x1 % 64 * 64 + x2 % 64, 3) := by rw [mdec_prop, if_neg h0, if_neg (fun hh => h1 hh.1), if_pos ⟨⟨h2, hc.1⟩, hc.2⟩, if_pos hv]
       rw [hm, hq0, fg (by omega)]
       refine Prod.ext ?_ rfl
       show ((x0 % 16 * 4096 + x1 % 64 * 64 + x2 % 64 : Nat) : Int) = ((y0 - 224) * 64 + (y1 - 128)) * 64 + (y2 - 128)
       omega
     · have hm : mdec sz p x0 x1 x2 x3 = (65533, 1) := by rw [mdec_prop, if_neg h0, if_neg (fun hh => h1 hh.1), if_pos ⟨⟨h2, hc.1⟩, hc.2⟩, if_neg hv]
       rw [hm, hq0, fb (by omega)]
       rfl
   · have e1 : ¬ (3 ≤ n ∧ Cont y1 ∧ Cont y2) := by
       unfold Cont
       intro hh
       have := g1 (by omega)
       have := g2 (by omega)
       omega
     have hm : mdec sz p x0 x1 x2 x3 = (65533, 1) := by rw [mdec_prop, if_neg h0, if_neg (fun hh => h1 hh.1), if_neg (fun hh => hc ⟨hh.1.2, hh.2⟩), if_neg (by omega)]
     have hq : qdec n y0 y1 y2 y3 = bad := by unfold qdec; rw [if_neg h0', if_neg h1', if_pos h2', if_neg e1]
     rw [hm, hq]
     rfl
 have h2' : ¬ (224 ≤ y0 ∧ y0 < 240) := by omega
 by_cases h3 : x0 / 8 = 30
 · have h3' : 240 ≤ y0 ∧ y0 < 248 := by omega
   by_cases hc : ((p + 1 < sz ∧ x1 / 64 = 2) ∧ (p + 2 < sz ∧ x2 / 64 = 2)) ∧ (p + 3 < sz ∧ x3 / 64 = 2)
   · have e1 := g1 hc.1.1.1
     have e2 := g2 hc.1.2.1
     have e3 := g3 hc.2.1
     have hc' : 4 ≤ n ∧ Cont y1 ∧ Cont y2 ∧ Cont y3 := by unfold Cont; omega
     have hq0 : qdec n y0 y1 y2 y3 = fin ((((y0 - 240) * 64 + (y1 - 128)) * 64 + (y2 - 128)) * 64 + (y3 - 128)) 65536 4 := by unfold qdec; rw [if_neg h0', if_neg h1', if_neg h2', if_pos h3', if_pos hc']
     by_cases hv : 65536 ≤ x0 % 8 * 262144 + x1 % 64 * 4096 + x2 % 64 * 64 + x3 % 64 ∧ (x0 % 8 * 262144 + x1 % 64 * 4096 + x2 % 64 * 64 + x3 % 64 < 55296 ∨ (57344 ≤ x0 % 8 * 262144 + x1 % 64 * 4096 + x2 % 64 * 64 + x3 % 64 ∧ x0 % 8 * 262144 + x1 % 64 * 4096 + x2 % 64 * 64 + x3 % 64 ≤ 1114111))
     · have hm : mdec sz p x0 x1 x2 x3 = (x0 % 8 * 262144 + x1 % 64 * 4096 + x2 % 64 * 64 + x3 % 64, 4) := by rw [mdec_prop, if_neg h0, if_neg (fun hh => h1 hh.1), if_neg (fun hh => h2 hh.1.1), if_pos ⟨⟨⟨h3, hc.1.1⟩, hc.1.2⟩, hc.2⟩, if_pos hv]
       rw [hm, hq0, fg (by omega)]
       refine Prod.ext ?_ rfl
       show ((x0 % 8 * 262144 + x1 % 64 * 4096 + x2 % 64 * 64 + x3 % 64 : Nat) : Int) = (((y0 - 240) * 64 + (y1 - 128)) * 64 + (y2 - 128)) * 64 + (y3 - 128)
       omega
     · have hm : mdec sz p x0 x1 x2 x3 = (65533, 1) := by rw [mdec_prop, if_neg h0, if_neg (fun hh => h1 hh.1), if_neg (fun hh => h2 hh.1.1), if_pos ⟨⟨⟨h3, hc.1.1⟩, hc.1.2⟩, hc.2⟩, if_neg hv]
       rw [hm, hq0, fb (by omega)]
       rfl
   · have e1 : ¬ (4 ≤ n ∧ Cont y1 ∧ Cont y2 ∧ Cont y3) := by
       unfold Cont
       intro hh
       have := g1 (by omega)
       have := g2 (by omega)
       have := g3 (by omega)
       omega
     have hm : mdec sz p x0 x1 x2 x3 = (65533, 1) := by rw [mdec_prop, if_neg h0, if_neg (fun hh => h1 hh.1), if_neg (fun hh => h2 hh.1.1), if_neg (fun hh => hc ⟨⟨hh.1.1.2, hh.1.2⟩, hh.2⟩)]
     have hq : qdec n y0 y1 y2 y3 = bad := by unfold qdec; rw [if_neg h0', if_neg h1', if_neg h2', if_pos h3', if_neg e1]
     rw [hm, hq]
     rfl
 have hm : mdec sz p x0 x1 x2 x3 = (65533, 1) := by rw [mdec_prop, if_neg h0, if_neg (fun hh => h1 hh.1), if_neg (fun hh => h2 hh.1.1), if_neg (fun hh => h3 hh.1.1.1)]
 have hq : qdec n y0 y1 y2 y3 = bad := by unfold qdec; rw [if_neg h0', if_neg h1', if_neg h2', if_neg (by omega)]
 rw [hm, hq]
 rfl
theorem decode_eq (s : ByteArray) (p : Nat) (h : p < s.size) : (((Utf8.decode s p).1 : Int), (Utf8.decode s p).2) = ((dec ((bytesOf s).drop p)).1, (dec ((bytesOf s).drop p)).2.1) := by
 rw [decode_mdec, dec_qdec]
 refine mdec_qdec _ _ _ _ _ _ _ _ _ _ _ h (by rw [List.length_drop, bytesOf_length]) (get_byte s p 0 (by omega)) (get_byte s p 1) (get_byte s p 2) (get_byte s p 3) ?_ ?_ ?_ ?_ <;> exact UInt8.toNat_lt _
end Go.Proofs.Ytkhcmddeeodbkaa.Q
namespace Go.Proofs.Ytkhcmddeeodbkaa.G
open Go.RowKit Go.Proofs.YtkhcmddeeodbkaaW.PrintWords Go.Proofs.YtkhcmddeeodbkaaW.PrintLast Go.Proofs.YtkhcmddeeodbkaaW.PrintMore
def runesAt (s : ByteArray) : Nat → Nat → List (Int × Nat)
 | 0, _ => []
 | f + 1, p => if p < s.size then (((Utf8.decode s p).1 : Int), p) :: runesAt s f (p + (Utf8.decode s p).2) else []
def validAt (s : ByteArray) : Nat → Nat → Int → Bool
 | 0, _, last => decide (last < 0) || decide ((s.size : Int) > last + 1)
 | f + 1, p, last =>
   if p < s.size then (if 0 ≤ last ∧ (p : Int) = last + 1 then false else validAt s f (p + (Utf8.decode s p).2) (if ((Utf8.decode s p).1 : Int) = 65533 then p else -1))
   else decide (last < 0) || decide ((s.size : Int) > last + 1)
theorem g_width (s : ByteArray) (p : Nat) (h : p < s.size) : 1 ≤ (Utf8.decode s p).2 := by
 by_cases ha : (s[p]'h).toNat < 128
 · rw [decode_ascii s p h ha]
   exact Nat.le_refl _
 · exact (decode_high s p h (by omega)).2
theorem runesAt_end (s : ByteArray) (f p : Nat) (h : ¬ p < s.size) : runesAt s f p = [] := by
 cases f with
 | zero => rfl
 | succ f => simp [runesAt, h]
theorem validAt_end (s : ByteArray) (f p : Nat) (l : Int) (h : ¬ p < s.size) : validAt s f p l = (decide (l < 0) || decide ((s.size : Int) > l + 1)) := by
 cases f with
 | zero => rfl
 | succ f => simp [validAt, h]
theorem g_iterPos {w : World} {k : Nat} {s : ByteArray} {p : Nat} (h : w.heap[k]? = some (.stringIter s p)) : w.iterPos k = p := by simp [World.iterPos, h]
theorem g_info : (Try.prog.info? 21).map (fun i => (i.zero, i.size, i.bytes)) = some (some (.int .i32 0), 1, 4) := by kernel_rfl
theorem g_below_iter (w : World) (s : ByteArray) (p : Nat) : Below w.heap.size w (w.iter s p) := (Below.refl _ _).alloc (Nat.le_refl _) _
theorem g_R_iterAt {w : World} {base : Nat} {xs : List Int} {v : Value} (h : (Kd.int .i32).R 21 w base (fun _ => True) v xs) {k : Nat} (hk : k < base) (s : ByteArray) (p : Nat) : (Kd.int .i32).R 21 (w.iterAt k s p) base (fun _ => True) v xs :=
 Kd.R_mono (Kd.R_step (Kd.R_mono (ok' := fun k' => base ≤ k') (Kd.R_bound h) (fun _ hk => hk.2.1)) (fun k' h1 _ => Lib.iterAt_other _ _ _ _ _ (by omega))) (fun _ _ => trivial)
def runes_Of.f (a0 : ByteArray) : Option (List Int) := if a0.size < 35184372088832 then some ((runesAt a0 a0.size 0).map (·.1)) else none
set_option maxRecDepth 1000000 in
set_option maxHeartbeats 2000000 in
theorem runes_Of.calls (a0 : ByteArray) (r : List Int) (w : World) (h : runes_Of.f a0 = some r) :
    Calls Try.prog 57 #[.string a0] w fun e w' => ∃ v0_ : Value, e = .returned (v0_) ∧ Kd.R (Kd.int .i32) 21 w' w.heap.size (fun _ => True) v0_ r ∧ Below w.heap.size w w' := by
 unfold runes_Of.f at h
 split at h
 · rename_i hsz
   have HR := Aside0.mk (Option.some.inj h)
   clear h
   go_enter Try.func57, Try.ntmps57
   go_wp2
   go_loopw [3] (fun v wr => ∃ (pos fuel : Nat) (acc : List Int), wr.heap[w.heap.size]? = some (.stringIter a0 pos) ∧ Aside0 ((Kd.int .i32).R 21 wr (w.heap.size + 1) (fun _ => True) v acc) ∧ Aside0 (Below w.heap.size w wr) ∧ Aside0 (acc ++ (runesAt a0 fuel pos).map (·.1) = r) ∧ a0.size ≤ pos + fuel ∧ acc.length ≤ pos) (fun _ wr => a0.size - wr.iterPos w.heap.size)
   case atStart => exact ⟨0, a0.size, [], World.iter_heap w a0 0, ⟨Kd.R_nil _ _ _ _ _⟩, ⟨g_below_iter _ _ _⟩, HR, by omega, by simp⟩
   case round =>
    clear HR
    obtain ⟨pos, fuel, acc, hit, HO, HB, HS, hb, hlen⟩ := hrel
    have hpos0 := g_iterPos hit
    by_cases hp : pos < a0.size
    · have hnx : ∀ ty, (Instr.next (.pointer (some ⟨w.heap.size, 0, none⟩)) true ty).run Try.prog wr = _ := fun ty => Lib.run_next_any_at wr w.heap.size a0 pos ty hit hp
      have hwd := g_width a0 pos hp
      obtain ⟨fuel, rfl⟩ : ∃ f', fuel = f' + 1 := ⟨fuel - 1, by omega⟩
      have hit2 := Lib.iterAt_heap wr w.heap.size a0 pos (pos + (Utf8.decode a0 pos).2) hit
      have HB2 := Aside0.mk (Lib.below_iterAt HB.out (k := w.heap.size) (Nat.le_refl _) a0 (pos + (Utf8.decode a0 pos).2))
      have HO2 := Aside0.mk (g_R_iterAt HO.out (k := w.heap.size) (by omega) a0 (pos + (Utf8.decode a0 pos).2))
      obtain ⟨W1, hW1⟩ : ∃ W1, W1 = wr.iterAt w.heap.size a0 (pos + (Utf8.decode a0 pos).2) := ⟨_, rfl⟩
      rw [← hW1] at hnx hit2 HB2 HO2
      have hBlt : w.heap.size < W1.heap.size := (Array.getElem?_eq_some_iff.1 hit2).1
      clear hW1 hit HO HB
      go_wp2_with (first
       | ((with_reducible refine gate_builtin (b := .append) (xs := #[.tmp 11, .tmp 13]) rfl ?_); at_builtin; refine Kd.R_append (Kd.int .i32) (w0 := W1) (w.heap.size + 1) rfl (.tmp 11) (.tmp 13) 97 21 (.int .i32 0) 4 rfl Try.underlying97 g_info rfl (by decide) (by omega) _ acc ((Utf8.decode a0 pos).1 : Int) [.int .i32 ((Utf8.decode a0 pos).1 : Int)] (fun _ => True) (fun _ => False) rfl rfl ?aP (fun _ hk => hk.elim) ?aF ?aO ?aB ?aS ?aL ?_
          (case aP => exact rfl)
          (case aF => exact (fun _ _ => trivial))
          (case aO => exact HO2.out)
          (case aB => exact Below.refl _ _)
          (case aS => omega)
          (case aL => omega)
          intro v' w3 ho hb3 hg hat
          have X : Aside0 (w3.heap[w.heap.size]? = some (.stringIter a0 (pos + (Utf8.decode a0 pos).2)) ∧ Below w.heap.size w w3) := ⟨(hg.block w.heap.size hBlt (fun h_ => by have := Kd.R_base HO2.out _ h_.symm; omega)).trans hit2, HB2.out.grown hg (by omega) (fun k_ h_ => by have := Kd.R_base HO2.out _ h_; omega)⟩
          have HO3 := Aside0.mk ho
          clear ho hb3 hg hat))
      go_roundw
      case rel => exact ⟨pos + (Utf8.decode a0 pos).2, fuel, acc ++ [((Utf8.decode a0 pos).1 : Int)], X.out.1, HO3, ⟨X.out.2⟩, ⟨by rw [← HS.out, runesAt, if_pos hp]; simp⟩, by omega, by simp; omega⟩
      case measure => rw [g_iterPos X.out.1, hpos0]; omega
    · have hnx : ∀ ty, (Instr.next (.pointer (some ⟨w.heap.size, 0, none⟩)) true ty).run Try.prog wr = _ := fun ty => Lib.run_next_end_at wr w.heap.size a0 pos ty hit hp
      have e := HS.out
      rw [runesAt_end _ _ _ hp, List.map_nil, List.append_nil] at e
      subst e
      go_wp2
      go_ret
      exact ⟨_, rfl, Kd.R_lower HO.out (by omega), HB.out⟩
 · cases h
def runes_Valid.f (a0 : ByteArray) : Option Bool := if a0.size ≤ 9223372036854775800 then some (validAt a0 a0.size 0 (-1)) else none
set_option maxRecDepth 1000000 in
set_option maxHeartbeats 4000000 in
theorem runes_Valid.calls (a0 : ByteArray) (r : Bool) (w : World) (h : runes_Valid.f a0 = some r) :
    Calls Try.prog 74 #[.string a0] w fun e w' => e = .returned (.bool r) ∧ Below w.heap.size w w' := by
 unfold runes_Valid.f at h
 split at h
 · rename_i hsz
   have HR := Aside0.mk (Option.some.inj h)
   clear h
   go_enter Try.func74, Try.ntmps74
   go_wp2
   go_loopw [3] (fun v wr => ∃ (pos fuel : Nat) (l : Int), wr = w.iter a0 pos ∧ v = .int .i64 l ∧ Aside0 (validAt a0 fuel pos l = r) ∧ a0.size ≤ pos + fuel ∧ -1 ≤ l ∧ l < a0.size) (fun _ wr => a0.size - wr.iterPos w.heap.size)
   case atStart => exact ⟨0, a0.size, -1, rfl, rfl, HR, by omega, by omega, by omega⟩
   case round =>
    clear HR
    obtain ⟨pos, fuel, l, rfl, rfl, HS, hb, hl0, hl1⟩ := hrel
    by_cases hp : pos < a0.size
    · have hnx : ∀ ty, (Instr.next (.pointer (some ⟨w.heap.size, 0, none⟩)) true ty).run Try.prog (w.iter a0 pos) = _ := fun ty => run_next_any w a0 pos ty hp
      have hwd := g_width a0 pos hp
      obtain ⟨fuel, rfl⟩ : ∃ f', fuel = f' + 1 := ⟨fuel - 1, by omega⟩
      have e := HS.out
      clear HS
      rw [validAt, if_pos hp] at e
      have step : ∀ c : Bool, decide (0 ≤ l) = c → ¬ (0 ≤ l ∧ (pos : Int) = l + 1) → validAt a0 fuel (pos + (Utf8.decode a0 pos).2) (if ((Utf8.decode a0 pos).1 : Int) = 65533 then (pos : Int) else -1) = r → True := fun _ _ _ _ => trivial
      clear step
      by_cases h1 : 0 ≤ l
      · have h1b : decide (0 ≤ l) = true := decide_eq_true h1
        by_cases h2 : (pos : Int) = l + 1
        · rw [if_pos ⟨h1, h2⟩] at e
          have HE := Aside0.mk e
          clear e
          have h2b : ((pos : Int) == l + 1) = true := beq_iff_eq.mpr h2
          clear h2
          go_wp2
          go_ret
          exact ⟨by rw [HE.out]; rfl, g_below_iter _ _ _⟩
        · rw [if_neg (fun hh => h2 hh.2)] at e
          have h2b : ((pos : Int) == l + 1) = false := beq_eq_false_iff_ne.mpr h2
          by_cases h3 : ((Utf8.decode a0 pos).1 : Int) = 65533
          · rw [if_pos h3] at e
            have HE := Aside0.mk e
            clear e h2
            have h3b : (((Utf8.decode a0 pos).1 : Int) == 65533) = true := beq_iff_eq.mpr h3
            clear h3
            go_wp2
            go_roundw
            case rel => exact ⟨pos + (Utf8.decode a0 pos).2, fuel, (pos : Int), rfl, rfl, HE, by omega, by omega, by omega⟩
            case measure => simp; omega
          · rw [if_neg h3] at e
            have HE := Aside0.mk e
            clear e h2
            have h3b : (((Utf8.decode a0 pos).1 : Int) == 65533) = false := beq_eq_false_iff_ne.mpr h3
            clear h3
            go_wp2
            go_roundw
            case rel => exact ⟨pos + (Utf8.decode a0 pos).2, fuel, (-1 : Int), rfl, rfl, HE, by omega, by omega, by omega⟩
            case measure => simp; omega
      · have h1b : decide (0 ≤ l) = false := decide_eq_false h1
        rw [if_neg (fun hh => h1 hh.1)] at e
        by_cases h3 : ((Utf8.decode a0 pos).1 : Int) = 65533
        · rw [if_pos h3] at e
          have HE := Aside0.mk e
          clear e
          have h3b : (((Utf8.decode a0 pos).1 : Int) == 65533) = true := beq_iff_eq.mpr h3
          clear h3
          go_wp2
          go_roundw
          case rel => exact ⟨pos + (Utf8.decode a0 pos).2, fuel, (pos : Int), rfl, rfl, HE, by omega, by omega, by omega⟩
          case measure => simp; omega
        · rw [if_neg h3] at e
          have HE := Aside0.mk e
          clear e
          have h3b : (((Utf8.decode a0 pos).1 : Int) == 65533) = false := beq_eq_false_iff_ne.mpr h3
          clear h3
          go_wp2
          go_roundw
          case rel => exact ⟨pos + (Utf8.decode a0 pos).2, fuel, (-1 : Int), rfl, rfl, HE, by omega, by omega, by omega⟩
          case measure => simp; omega
    · have hnx : ∀ ty, (Instr.next (.pointer (some ⟨w.heap.size, 0, none⟩)) true ty).run Try.prog (w.iter a0 pos) = _ := fun ty => run_next_end w a0 pos ty hp
      have e := HS.out
      clear HS
      rw [validAt_end _ _ _ _ hp] at e
      by_cases h1 : l < 0
      · have HE := Aside0.mk e
        clear e
        have h1b : decide (l < 0) = true := decide_eq_true h1
        clear h1
        go_wp2
        go_ret
        exact ⟨by rw [← HE.out, h1b]; rfl, g_below_iter _ _ _⟩
      · have HE := Aside0.mk e
        clear e
        have h1b : decide (l < 0) = false := decide_eq_false h1
        go_wp2
        go_ret
        exact ⟨by rw [← HE.out, h1b]; rfl, g_below_iter _ _ _⟩
 · cases h
end Go.Proofs.Ytkhcmddeeodbkaa.G
namespace Go.Proofs.Ytkhcmddeeodbkaa.Q
open Go.RowKit Go.Proofs.YtkhcmddeeodbkaaW.PrintWords Go.Proofs.YtkhcmddeeodbkaaW.PrintMore Go.Proofs.Ytkhcmddeeodbkaa.G
def withPos : List Rn → Nat → List (Int × Nat)
 | [], _ => []
 | d :: r, p => (d.1, p) :: withPos r (p + d.2.1)
theorem withPos_fst (d : List Rn) (p : Nat) : (withPos d p).map (·.1) = d.map (·.1) := by
 induction d generalizing p with
 | nil => rfl
 | cons a d ih => simp [withPos, ih]
theorem drop_ne {s : ByteArray} {p : Nat} (h : p < s.size) : (bytesOf s).drop p ≠ [] := by
 intro hh
 have := congrArg List.length hh
 rw [List.length_drop, bytesOf_length, List.length_nil] at this
 omega
theorem dec_fits_at {s : ByteArray} {p : Nat} (h : p < s.size) : p + (dec ((bytesOf s).drop p)).2.1 ≤ s.size := by
 have := dec_fits (List.length_pos_iff.2 (drop_ne h))
 rw [List.length_drop, bytesOf_length] at this
 omega
theorem runesAt_eq (s : ByteArray) : ∀ (f p : Nat), s.size ≤ p + f → runesAt s f p = withPos (ds ((bytesOf s).drop p)) p := by
 intro f
 induction f with
 | zero =>
   intro p hp
   rw [List.drop_of_length_le (by rw [bytesOf_length]; omega), ds_nil]
   rfl
 | succ f ih =>
   intro p hp
   unfold runesAt
   by_cases h : p < s.size
   · have e := decode_eq s p h
     simp only [Prod.mk.injEq] at e
     have hw := dec_width ((bytesOf s).drop p)
     rw [if_pos h, ds_cons (drop_ne h), e.1, e.2, ih _ (by omega), List.drop_drop]
     rfl
   · rw [if_neg h, List.drop_of_length_le (by rw [bytesOf_length]; omega), ds_nil]
     rfl
theorem validAt_eq (s : ByteArray) : ∀ (f p : Nat) (l : Int), s.size ≤ p + f → p ≤ s.size → (l = -1 ∨ (0 ≤ l ∧ l + 1 ≤ p)) →
    validAt s f p l = (!(decide (0 ≤ l ∧ (p : Int) = l + 1)) && (ds ((bytesOf s).drop p)).all (·.2.2)) := by
 intro f
 induction f with
 | zero =>
   intro p l hp hle hl
   rw [List.drop_of_length_le (by rw [bytesOf_length]; omega), ds_nil]
   unfold validAt
   simp only [List.all_nil, Bool.and_true]
   rw [Bool.eq_iff_iff]
   simp only [Bool.or_eq_true, decide_eq_true_eq, Bool.not_eq_true', decide_eq_false_iff_not]
   omega
 | succ f ih =>
   intro p l hp hle hl
   unfold validAt
   by_cases h : p < s.size
   · have e := decode_eq s p h
     simp only [Prod.mk.injEq] at e
     have hw := dec_width ((bytesOf s).drop p)
     have hf := dec_fits_at h
     have hok := dec_ok_iff ((bytesOf s).drop p) ((byt_bytesOf s).drop p)
     rw [if_pos h, ds_cons (drop_ne h), e.1, e.2]
     by_cases h1 : 0 ≤ l ∧ (p : Int) = l + 1
     · rw [if_pos h1, decide_eq_true h1]
       rfl
     · rw [if_neg h1, decide_eq_false h1]
       simp only [Bool.not_false, Bool.true_and, List.all_cons]
       by_cases h2 : (dec ((bytesOf s).drop p)).1 = 65533
       · rw [if_pos h2, ih _ _ (by omega) hf (by omega), List.drop_drop]
         congr 1
         by_cases h3 : (dec ((bytesOf s).drop p)).2.1 = 1
         · rw [hok.2 ⟨h2, h3⟩, decide_eq_true (by omega)]
           rfl
         · have : (dec ((bytesOf s).drop p)).2.2 = true := by
             cases hh : (dec ((bytesOf s).drop p)).2.2
             · exact absurd (hok.1 hh).2 h3
             · rfl
           rw [this, decide_eq_false (by omega)]
           rfl
       · rw [if_neg h2, ih _ _ (by omega) hf (by omega), List.drop_drop]
         have : (dec ((bytesOf s).drop p)).2.2 = true := by
          cases hh : (dec ((bytesOf s).drop p)).2.2
          · exact absurd (hok.1 hh).1 h2
          · rfl
         rw [this, decide_eq_false (by omega)]
         rfl
   · rw [if_neg h, List.drop_of_length_le (by rw [bytesOf_length]; omega), ds_nil]
     simp only [List.all_nil, Bool.and_true]
     rw [Bool.eq_iff_iff]
     simp only [Bool.or_eq_true, decide_eq_true_eq, Bool.not_eq_true', decide_eq_false_iff_not]
     omega
theorem bytes_empty : bytesOf (⟨#[]⟩ : ByteArray) = [] := rfl
def D (s : ByteArray) : List Rn := ds (bytesOf s)
theorem D_len (s : ByteArray) : (D s).length ≤ s.size := by rw [← bytesOf_length]; exact ds_len_le _ _ (Nat.le_refl _)
theorem rOf {s : ByteArray} (h : s.size < 35184372088832) : runes_Of.f s = some ((D s).map (·.1)) := by
 unfold runes_Of.f
 rw [if_pos h, runesAt_eq s s.size 0 (by omega), List.drop_zero, withPos_fst]
 rfl
def vld (s : ByteArray) : Bool := (D s).all (·.2.2)
theorem rValid {s : ByteArray} (h : s.size < 35184372088832) : runes_Valid.f s = some (vld s) := by
 unfold runes_Valid.f
 rw [if_pos (by omega), validAt_eq s s.size 0 (-1) (by omega) (by omega) (.inl rfl), List.drop_zero, decide_eq_false (by omega)]
 rfl
end Go.Proofs.Ytkhcmddeeodbkaa.Q
namespace Go.Proofs.YtkhcmddeeodbkaaW.PrintLast
open Go.Proofs.YtkhcmddeeodbkaaW.PrintWords (Aside0)
def needsOf (md : Region.Mode) (o : Oper) : List Nat := (o.after.toList.filter (fun e => Region.binds md e)).map (fun e => e.on)
def clashOf (md : Region.Mode) (ops : Array Oper) (i : Nat) (oi : Oper) : List Nat := (List.range ops.size).filter fun j => !(j == i) && match ops[j]? with
 | some oj => !(oj.after.any (fun e => Region.binds md e && e.on == i) || oi.apart ops oj)
 | none => false
def rtab (md : Region.Mode) (ops : Array Oper) : Bool × List (List Nat × List Nat) := (Region.noSelect ops, (List.range ops.size).map fun i => match ops[i]? with
 | some o => (needsOf md o, clashOf md ops i o)
 | none => ([], []))
def readyAt (T : List (List Nat × List Nat)) (l : List Bool) (i : Nat) : Bool := !l.getD i true && match T[i]? with
 | some r => r.1.all (fun j => l.getD j false)
 | none => false
def readyT (T : List (List Nat × List Nat)) (l : List Bool) : List Nat := (List.range T.length).filter (readyAt T l)
def freeT (T : List (List Nat × List Nat)) (l : List Bool) (i : Nat) : Bool := match T[i]? with
 | some r => r.2.all (fun j => l.getD j true)
 | none => false
def closedT (T : List (List Nat × List Nat)) (l : List Bool) : Bool := (List.range T.length).all fun j => !l.getD j false || match T[j]? with
 | some r => r.1.all (fun k => l.getD k false)
 | none => true
def reachT (T : List (List Nat × List Nat)) (i : Nat) : Nat → Nat → Bool
 | 0, _ => false
 | fuel + 1, d => match T[d]? with
   | some r => r.1.any fun j => j == i || reachT T i fuel j
   | none => false
def lastT (T : List (List Nat × List Nat)) (l : List Bool) (ds : List Nat) (i : Nat) : Bool := ds.all fun d => l.getD d true || reachT T i T.length d
section
variable {md : Region.Mode} {ops : Array Oper} {T : Bool × List (List Nat × List Nat)} {l l' li lj lk : Array Bool} {ds : List Nat} {i j k : Nat}
theorem gd (l : Array Bool) (j : Nat) (b : Bool) : l.getD j b = l.toList.getD j b := by simp [Array.getD_eq_getD_getElem?, List.getD_eq_getElem?_getD]
theorem needs_all (o : Oper) (p : Nat → Bool) : o.after.all (fun e => !Region.binds md e || p e.on) = (needsOf md o).all p := by
 unfold needsOf
 rw [← Array.all_toList]
 induction o.after.toList with
 | nil => rfl
 | cons e r ih =>
   rw [List.all_cons, ih, List.filter_cons]
   cases h : Region.binds md e <;> simp
theorem needs_any (o : Oper) (p : Nat → Bool) : o.after.any (fun e => Region.binds md e && p e.on) = (needsOf md o).any p := by
 unfold needsOf
 rw [← Array.any_toList]
 induction o.after.toList with
 | nil => rfl
 | cons e r ih =>
   rw [List.any_cons, ih, List.filter_cons]
   cases h : Region.binds md e <;> simp
theorem rtab_length : (rtab md ops).2.length = ops.size := by simp [rtab]
theorem rtab_some {o : Oper} (h : ops[i]? = some o) : (rtab md ops).2[i]? = some (needsOf md o, clashOf md ops i o) := by
 have hi := (Array.getElem?_eq_some_iff.1 h).1
 unfold rtab
 rw [List.getElem?_map, List.getElem?_range hi, Option.map_some, h]
theorem rtab_none (h : ops[i]? = none) : (rtab md ops).2[i]? = none := by
 have hi : ops.size ≤ i := Array.getElem?_eq_none_iff.1 h
 exact List.getElem?_eq_none (by rw [rtab_length]; exact hi)
theorem readyAt_eq : readyAt (rtab md ops).2 l.toList i = (!l.getD i true && ((ops[i]?).map (·.after.all fun e => !Region.binds md e || l.getD e.on false)).getD false) := by
 unfold readyAt
 rw [gd]
 cases h : ops[i]? with
 | none => rw [rtab_none h]; rfl
 | some o =>
   rw [rtab_some h]
   simp only [Option.map_some, Option.getD_some]
   rw [← needs_all]
   simp only [gd]
theorem ready_eq : Region.ready md ops l = readyT (rtab md ops).2 l.toList := by
 unfold Region.ready readyT
 rw [rtab_length]
 refine List.filter_congr (fun i _ => ?_)
 rw [readyAt_eq]
theorem free_eq : Region.free md ops l i = freeT (rtab md ops).2 l.toList i := by
 unfold Region.free freeT
 cases h : ops[i]? with
 | none => rw [rtab_none h]
 | some oi =>
   rw [rtab_some h]
   simp only [clashOf]
   rw [List.all_filter]
   congr 1
   funext j
   rw [gd]
   cases hj : ops[j]? with
   | none => cases (j == i) <;> cases (l.toList.getD j true) <;> simp
   | some oj =>
     cases (j == i) <;> cases (l.toList.getD j true) <;> cases (oj.after.any (fun e => Region.binds md e && e.on == i) || oi.apart ops oj) <;> simp_all
theorem closed_eq : Region.closedB md ops l = closedT (rtab md ops).2 l.toList := by
 unfold Region.closedB closedT
 rw [rtab_length]
 congr 1
 funext j
 rw [gd]
 cases h : ops[j]? with
 | none => rw [rtab_none h]
 | some o =>
   rw [rtab_some h]
   simp only
   rw [← needs_all]
   simp only [gd]
theorem reach_eq : ∀ (fuel d : Nat), Region.reachB md ops i fuel d = reachT (rtab md ops).2 i fuel d
 | 0, _ => rfl
 | fuel + 1, d => by
   unfold Region.reachB reachT
   cases h : ops[d]? with
   | none => rw [rtab_none h]
   | some o =>
     rw [rtab_some h]
     simp only
     rw [← needs_any]
     congr 1
     funext e
     rw [reach_eq fuel]
theorem last_eq : Region.lastB md ops l ds i = lastT (rtab md ops).2 l.toList ds i := by
 unfold Region.lastB lastT
 rw [rtab_length]
 congr 1
 funext d
 rw [gd, reach_eq]
theorem readyAt_mem (h : readyAt T.2 l.toList i = true) (hT : rtab md ops = T) : (Region.ready md ops l).contains i = true := by
 subst hT
 rw [ready_eq]
 unfold readyT
 rw [List.contains_iff_mem, List.mem_filter, List.mem_range]
 refine ⟨?_, h⟩
 unfold readyAt at h
 rw [Bool.and_eq_true] at h
 cases hq : (rtab md ops).2[i]? with
 | none => rw [hq] at h; simp at h
 | some r => exact (List.getElem?_eq_some_iff.1 hq).1
theorem set_of (h : (l.toList.set i true == l'.toList) = true) : (l.setIfInBounds i true == l') = true := by
 rw [beq_iff_eq] at h ⊢
 apply Array.ext'
 rw [Array.toList_setIfInBounds]
 exact h
def anyT (T : Bool × List (List Nat × List Nat)) (l l' : List Bool) (i : Nat) : Bool := T.1 && freeT T.2 l i && readyAt T.2 l i && (l.set i true == l')
theorem any_of (hT : rtab md ops = T) (h : anyT T l.toList l'.toList i = true) : anyB md ops l l' i = true := by
 simp only [anyT, Bool.and_eq_true] at h
 obtain ⟨⟨⟨h1, h2⟩, h3⟩, h4⟩ := h
 have h5 := readyAt_mem h3 hT
 have h6 := set_of h4
 subst hT
 simp only [anyB, Bool.and_eq_true]
 exact ⟨⟨⟨h1, by rw [free_eq]; exact h2⟩, h5⟩, h6⟩
def takeT (T : Bool × List (List Nat × List Nat)) (ds : List Nat) (l l' : List Bool) (i : Nat) : Bool := T.1 && freeT T.2 l i && readyAt T.2 l i && closedT T.2 l && lastT T.2 l ds i && (l.set i true == l')
theorem take_of (hT : rtab md ops = T) (h : takeT T ds l.toList l'.toList i = true) : takeB md ops ds l l' i = true := by
 simp only [takeT, Bool.and_eq_true] at h
 obtain ⟨⟨⟨⟨⟨h1, h2⟩, h3⟩, h4⟩, h5⟩, h6⟩ := h
 have h7 := readyAt_mem h3 hT
 have h8 := set_of h6
 subst hT
 simp only [takeB, Bool.and_eq_true]
 exact ⟨⟨⟨⟨⟨h1, by rw [free_eq]; exact h2⟩, h7⟩, by rw [closed_eq]; exact h4⟩, by rw [last_eq]; exact h5⟩, h8⟩
theorem one_of (hT : rtab md ops = T) (h : (readyT T.2 l.toList == [i] && l.toList.set i true == l'.toList) = true) : readyB md ops l l' i = true := by
 simp only [Bool.and_eq_true] at h
 obtain ⟨h1, h2⟩ := h
 subst hT
 simp only [readyB, Bool.and_eq_true]
 exact ⟨by rw [ready_eq]; exact h1, set_of h2⟩
theorem done_of (hT : rtab md ops = T) (h : (readyT T.2 l.toList == []) = true) : (Region.ready md ops l == []) = true := by
 subst hT
 rw [ready_eq]
 exact h
def upM (B : List Nat) (d : Nat) : List Nat → Nat
 | [] => 0
 | n :: r => (2 ^ n ||| (if n < d then B.getD n 0 else 0)) ||| upM B d r
def waitsOk (T : List (List Nat × List Nat)) (B : List Nat) : Bool := (List.range T.length).all fun d => match T[d]? with
 | some r => (B.getD d 0 ||| upM B d r.1) == upM B d r.1
 | none => false
theorem upM_bit {B : List Nat} {d i : Nat} : ∀ {ns : List Nat}, (upM B d ns).testBit i = true → ∃ n ∈ ns, n = i ∨ (n < d ∧ (B.getD n 0).testBit i = true)
 | [], h => by simp [upM] at h
 | n :: r, h => by
   unfold upM at h
   rw [Nat.testBit_or, Nat.testBit_or, Bool.or_eq_true, Bool.or_eq_true] at h
   rcases h with (h | h) | h
   · rw [Nat.testBit_two_pow] at h
     exact ⟨n, List.mem_cons_self, .inl (by simpa using h)⟩
   · by_cases hn : n < d
     · rw [if_pos hn] at h
       exact ⟨n, List.mem_cons_self, .inr ⟨hn, h⟩⟩
     · rw [if_neg hn] at h
       simp at h
   · obtain ⟨m, hm, h2⟩ := upM_bit h
     exact ⟨m, List.mem_cons_of_mem _ hm, h2⟩
theorem reach_bit {T : List (List Nat × List Nat)} {B : List Nat} (hB : waitsOk T B = true) : ∀ (fuel d : Nat), d < fuel → d < T.length → (B.getD d 0).testBit i = true → reachT T i fuel d = true
 | 0, d, h, _, _ => by omega
 | fuel + 1, d, h, hd, hb => by
   have h1 := List.all_eq_true.1 hB d (List.mem_range.2 hd)
   cases hr : T[d]? with
   | none => rw [hr] at h1; simp at h1
   | some r =>
     rw [hr] at h1
     simp only [beq_iff_eq] at h1
     have h2 : (upM B d r.1).testBit i = true := by rw [← h1, Nat.testBit_or, hb, Bool.true_or]
     obtain ⟨n, hn, h3⟩ := upM_bit h2
     unfold reachT
     rw [hr]
     simp only
     rw [List.any_eq_true]
     refine ⟨n, hn, ?_⟩
     rcases h3 with rfl | ⟨h4, h5⟩
     · simp
     · rw [reach_bit hB fuel n (by omega) (by omega) h5, Bool.or_true]
def lastW (T : List (List Nat × List Nat)) (B : List Nat) (l : List Bool) (ds : List Nat) (i : Nat) : Bool := ds.all fun d => l.getD d true || (decide (d < T.length) && (B.getD d 0).testBit i)
def takeW (T : Bool × List (List Nat × List Nat)) (B : List Nat) (ds : List Nat) (l l' : List Bool) (i : Nat) : Bool := T.1 && freeT T.2 l i && readyAt T.2 l i && closedT T.2 l && lastW T.2 B l ds i && (l.set i true == l')
theorem take_ofW {B : List Nat} (hT : rtab md ops = T) (hB : waitsOk T.2 B = true) (h : takeW T B ds l.toList l'.toList i = true) : takeB md ops ds l l' i = true := by
 refine take_of hT ?_
 simp only [takeW, takeT, Bool.and_eq_true] at h ⊢
 obtain ⟨⟨⟨⟨⟨h1, h2⟩, h3⟩, h4⟩, h5⟩, h6⟩ := h
 refine ⟨⟨⟨⟨⟨h1, h2⟩, h3⟩, h4⟩, ?_⟩, h6⟩
 unfold lastW at h5
 unfold lastT
 rw [List.all_eq_true] at h5 ⊢
 intro d hd
 have h7 := h5 d hd
 rw [Bool.or_eq_true, Bool.and_eq_true, decide_eq_true_eq] at h7
 rcases h7 with h7 | ⟨h8, h9⟩
 · rw [h7, Bool.true_or]
 · rw [reach_bit hB _ d h8 h8 h9, Bool.or_true]
theorem with_tabW {P : Program} {Q : Exit → Act → World → Prop} {S : World → Prop} {n : Nat} {a : Act} {w : World} {B : List Nat} (hT : rtab md ops = T) (hB : waitsOk T.2 B = true) (h : Aside0 (rtab md ops = T) → Aside0 (waitsOk T.2 B = true) → wpAnyLast P md ops Q S ds n l a w) : wpAnyLast P md ops Q S ds n l a w := h ⟨hT⟩ ⟨hB⟩
end
def opsIn : Code → Nat → Option (Array Oper)
 | .region id ops _, k => if id == k then some ops else none
 | .seq a b, k => match opsIn a k with
   | some o => some o
   | none => opsIn b k
 | .cond _ a b, k => match opsIn a k with
   | some o => some o
   | none => opsIn b k
 | .block _ c, k => opsIn c k
 | .loop c, k => opsIn c k
 | .scope c, k => opsIn c k
 | .rangeFunc _ _ a b, k => match opsIn a k with
   | some o => some o
   | none => opsIn b k
 | _, _ => none
def opsOf (f : Func) (k : Nat) : Array Oper := ((f.body.bind fun c => opsIn c k)).getD #[]
end Go.Proofs.YtkhcmddeeodbkaaW.PrintLast
namespace Go.Proofs.YtkhcmddeeodbkaaW.PrintWords
open Go.RowKit
section
variable {P : Program} {d : Nat} {xs ys : Array Value} {f : Field} {fs : List Field} {a b : Value} {r s : Bool} {w : World}
theorem eqf_last (hn : (f.name == "_") = false) (ha : (part f.type xs f.offset).run P w = .ok a w) (hb : (part f.type ys f.offset).run P w = .ok b w) (he : (Op.equalIn d f.type a b).run P w = .ok r w) : (Op.eqFields d xs ys [f]).run P w = .ok r w := by
 have hn' : f.name ≠ "_" := by simpa using hn
 simp only [Op.eqFields, if_pos hn', Sem.run_bind, ha, hb, he, Result.andThen_ok]
 cases r <;> simp
theorem eqf_cons (hn : (f.name == "_") = false) (ha : (part f.type xs f.offset).run P w = .ok a w) (hb : (part f.type ys f.offset).run P w = .ok b w) (he : (Op.equalIn d f.type a b).run P w = .ok r w) (hr : (Op.eqFields d xs ys fs).run P w = .ok s w) : (Op.eqFields d xs ys (f :: fs)).run P w = .ok (r && s) w := by
 have hn' : f.name ≠ "_" := by simpa using hn
 rw [Op.eqFields]
 simp only [if_pos hn', Sem.run_bind, ha, hb, he, Result.andThen_ok]
 cases r
 · simp
 · simpa using hr
theorem eqA_of {t : TypeId} {fs : Array Field} (hu : P.underlying t = some (.struct fs)) (hp : P.stoodInHeld t = false) (h : (Op.eqFields d xs ys fs.toList).run P w = .ok r w) : (Op.equalIn (d + 1) t (.agg xs) (.agg ys)).run P w = .ok r w := by
 have hf : P.fieldsOf t = fs := by simp [Program.fieldsOf, hu]
 rw [run_equalIn_struct (P := P) w d t xs ys (by rw [hf]; exact hu) hp, hf]
 exact h
end
end Go.Proofs.YtkhcmddeeodbkaaW.PrintWords
namespace Go.Proofs.YtkhcmddeeodbkaaW.PrintWords
theorem Reps.one {α : Type} {R : α → List Value → Prop} {ps : List α} {cs : List Value} {p : α} {v : Value} (hp : R p [v]) (h : Reps R 1 ps cs) : Reps R 1 (p :: ps) (v :: cs) := by
 refine ⟨by simp [h.1], fun j q hq => ?_⟩
 cases j with
 | zero =>
   simp only [List.getElem?_cons_zero, Option.some.injEq] at hq
   subst hq
   simpa using hp
 | succ j =>
   simp only [List.getElem?_cons_succ] at hq
   have h1 := h.2 j q hq
   simpa [Nat.mul_one] using h1
theorem Reps.front {α : Type} {R : α → List Value → Prop} {size : Nat} {ps : List α} {cs c all : List Value} {p : α} (hp : R p c) (hc : c.length = size) (h : Reps R size ps cs) (ha : c ++ cs = all) : Reps R size (p :: ps) all := by
 subst ha
 refine ⟨by rw [List.length_append, hc, h.1, List.length_cons, Nat.succ_mul, Nat.add_comm], fun j q hq => ?_⟩
 cases j with
 | zero =>
   simp only [List.getElem?_cons_zero, Option.some.injEq] at hq
   subst hq
   rw [Nat.zero_mul, List.drop_zero, List.take_append_of_le_length (by omega), List.take_of_length_le (by omega)]
   exact hp
 | succ j =>
   simp only [List.getElem?_cons_succ] at hq
   have h1 := h.2 j q hq
   rw [Nat.succ_mul, List.drop_append, List.drop_of_length_le (by rw [hc]; exact Nat.le_add_left _ _), List.nil_append, hc, Nat.add_sub_cancel]
   exact h1
theorem Reps.c2 {α : Type} {R : α → List Value → Prop} {ps : List α} {cs : List Value} {p : α} {va vb : Value} (hp : R p [va, vb]) (h : Reps R 2 ps cs) : Reps R 2 (p :: ps) (va :: vb :: cs) := Reps.front hp rfl h rfl
theorem Reps.c3 {α : Type} {R : α → List Value → Prop} {ps : List α} {cs : List Value} {p : α} {va vb vc : Value} (hp : R p [va, vb, vc]) (h : Reps R 3 ps cs) : Reps R 3 (p :: ps) (va :: vb :: vc :: cs) := Reps.front hp rfl h rfl
theorem Reps.c4 {α : Type} {R : α → List Value → Prop} {ps : List α} {cs : List Value} {p : α} {va vb vc vd : Value} (hp : R p [va, vb, vc, vd]) (h : Reps R 4 ps cs) : Reps R 4 (p :: ps) (va :: vb :: vc :: vd :: cs) := Reps.front hp rfl h rfl
theorem Reps.c5 {α : Type} {R : α → List Value → Prop} {ps : List α} {cs : List Value} {p : α} {va vb vc vd ve : Value} (hp : R p [va, vb, vc, vd, ve]) (h : Reps R 5 ps cs) : Reps R 5 (p :: ps) (va :: vb :: vc :: vd :: ve :: cs) := Reps.front hp rfl h rfl
theorem Reps.c6 {α : Type} {R : α → List Value → Prop} {ps : List α} {cs : List Value} {p : α} {va vb vc vd ve vf : Value} (hp : R p [va, vb, vc, vd, ve, vf]) (h : Reps R 6 ps cs) : Reps R 6 (p :: ps) (va :: vb :: vc :: vd :: ve :: vf :: cs) := Reps.front hp rfl h rfl
theorem Reps.c7 {α : Type} {R : α → List Value → Prop} {ps : List α} {cs : List Value} {p : α} {va vb vc vd ve vf vg : Value} (hp : R p [va, vb, vc, vd, ve, vf, vg]) (h : Reps R 7 ps cs) : Reps R 7 (p :: ps) (va :: vb :: vc :: vd :: ve :: vf :: vg :: cs) := Reps.front hp rfl h rfl
theorem Reps.c8 {α : Type} {R : α → List Value → Prop} {ps : List α} {cs : List Value} {p : α} {va vb vc vd ve vf vg vh : Value} (hp : R p [va, vb, vc, vd, ve, vf, vg, vh]) (h : Reps R 8 ps cs) : Reps R 8 (p :: ps) (va :: vb :: vc :: vd :: ve :: vf :: vg :: vh :: cs) := Reps.front hp rfl h rfl
theorem Reps.c9 {α : Type} {R : α → List Value → Prop} {ps : List α} {cs : List Value} {p : α} {va vb vc vd ve vf vg vh vi : Value} (hp : R p [va, vb, vc, vd, ve, vf, vg, vh, vi]) (h : Reps R 9 ps cs) : Reps R 9 (p :: ps) (va :: vb :: vc :: vd :: ve :: vf :: vg :: vh :: vi :: cs) := Reps.front hp rfl h rfl
theorem Reps.c10 {α : Type} {R : α → List Value → Prop} {ps : List α} {cs : List Value} {p : α} {va vb vc vd ve vf vg vh vi vj : Value} (hp : R p [va, vb, vc, vd, ve, vf, vg, vh, vi, vj]) (h : Reps R 10 ps cs) : Reps R 10 (p :: ps) (va :: vb :: vc :: vd :: ve :: vf :: vg :: vh :: vi :: vj :: cs) := Reps.front hp rfl h rfl
end Go.Proofs.YtkhcmddeeodbkaaW.PrintWords
namespace Go.Proofs.YtkhcmddeeodbkaaW.PrintWords
open Go.RowKit
section
variable {P : Program} {ops : Array Oper} {rest : List Oper} {o : Oper} {a : Act} {Q : Exit → Act → World → Prop} {W : World}
theorem gate_guard (hw : Region.wanted o (yielded ops a.tmps) = true) (h : wpList P ops Q ({ o with guard := none } :: rest) a W) : wpList P ops Q (o :: rest) a W := by
 have h1 : Region.wanted { o with guard := none } (yielded ops a.tmps) = true := rfl
 unfold wpList at h ⊢
 rw [if_pos h1] at h
 rw [if_pos hw]
 exact h
end
end Go.Proofs.YtkhcmddeeodbkaaW.PrintWords
namespace Go.Proofs.YtkhcmddeeodbkaaW.PrintWords
open Go.RowKit
@[go_sem] theorem y_leq : ∀ (x y : List UInt8), (Op.bytesLess x y || x == y) = !(Op.bytesLess y x)
 | [], [] => rfl
 | [], _ :: _ => rfl
 | _ :: _, [] => rfl
 | a :: x, b :: y => by
   have ih := y_leq x y
   rcases (show a < b ∨ a = b ∨ b < a by
    rcases Nat.lt_trichotomy a.toNat b.toNat with h | h | h
    · exact .inl (UInt8.lt_iff_toNat_lt.2 h)
    · exact .inr (.inl (UInt8.toNat_inj.1 h))
    · exact .inr (.inr (UInt8.lt_iff_toNat_lt.2 h))) with h | h | h
   · have h1 : ¬ b < a := fun h2 => by have := UInt8.lt_iff_toNat_lt.1 h; have := UInt8.lt_iff_toNat_lt.1 h2; omega
     have h2 : b ≠ a := fun h2 => by subst h2; exact h1 h
     simp [Op.bytesLess, h, h1, h2]
   · subst h
     have h1 : ¬ a < a := fun h2 => by have := UInt8.lt_iff_toNat_lt.1 h2; omega
     simpa [Op.bytesLess, h1] using ih
   · have h1 : ¬ a < b := fun h2 => by have := UInt8.lt_iff_toNat_lt.1 h; have := UInt8.lt_iff_toNat_lt.1 h2; omega
     have h2 : a ≠ b := fun h2 => by subst h2; exact h1 h
     simp [Op.bytesLess, h, h1, h2]
section
variable {P : Program} {ops : Array Oper} {rest : List Oper} {o : Oper} {a : Act} {Q : Exit → Act → World → Prop}
theorem y_run_append_str (W : World) (base : Nat) (t u ty e : TypeId) (i : TypeInfo) (ht : P.underlying t = some (.slice e)) (hu : P.underlying u = some .string) (hi : P.info? e = some i) (hz : i.zero = some (.int .u8 0))
    (hsize : i.size = 1) (hby : i.bytes = 1) (v : Value) (n : Nat) (xs : List Value) (hown : W.ownsRow base e 1 v n xs) (s : ByteArray)
    (h63 : n + s.size ≤ maxLen) (hbytes : n + s.size ≤ 140737488355328) (hbase : base ≤ W.heap.size) :
    ∃ v' w', (Builtin.append_ #[t, u] ty #[v, .string s]).run P W = .ok v' w' ∧ w'.ownsRow base e 1 v' (n + s.size) (xs ++ Lib.strCells s) ∧ W.grownBy w' v.ownBlock ∧
     (v'.ownBlock = v.ownBlock ∨ ∃ b, v'.ownBlock = some b ∧ W.heap.size ≤ b) := by
 obtain ⟨v', w', hr, h2, h3, h4⟩ := Lib.run_append_own_string (P := P) W base t u ty e i ht hu hi hz hsize hby v n xs hown s h63 hbytes hbase
 refine ⟨v', w', hr, h2, h3, ?_⟩
 have hxl : xs.length = n := by simpa using hown.1
 rcases hown.2 with ⟨rfl, rfl⟩ | ⟨g, cap, cur, rfl, hbg, hg, hnc, hcm, hcs, htake⟩
 · by_cases hm : s.size = 0
   · exact .inl (by rw [h4.2 ⟨rfl, hm⟩])
   · have hr2 := run_append_nil_string (P := P) W t u ty e i (.int .u8 0) ht hu hi hz s (by omega) (by simp only [maxLen] at h63; omega) (by rw [hby]; omega)
     rw [hr] at hr2
     injection hr2 with hv _
     exact .inr ⟨W.heap.size, by rw [hv]; rfl, Nat.le_refl _⟩
 · by_cases hroom : n + s.size ≤ cap
   · have hr2 := Lib.run_append_room_string (P := P) W t u ty e i ht hu hi hsize g n cap cur hg s hroom (by simp only [Nat.mul_one] at hcs; omega)
     rw [hr] at hr2
     injection hr2 with hv _
     exact .inl (by rw [hv]; rfl)
   · have holds : ∀ j u, xs[j]? = some u → W.cell? ((⟨g, 0, none⟩ : Addr).add j) = some u := hown.cells (g := g) rfl
     have hr2 := Lib.run_append_grow_string (P := P) W t u ty e i (.int .u8 0) ht hu hi hz ⟨g, 0, none⟩ n cap xs (by rw [hsize]; simpa using hxl) holds s (by omega) (by simp only [maxLen] at h63; omega) (by rw [hby]; exact growslice_fits (by omega) (by omega))
     rw [hr] at hr2
     injection hr2 with hv _
     exact .inr ⟨W.heap.size, by rw [hv]; rfl, Nat.le_refl _⟩
theorem Kd.y_append_str {w0 W : World} (base : Nat) (hgd : o.guard = none) (s x : Operand) (t u e : TypeId)
    (ho : o.op = .call { callee := .builtin .append, args := #[s, x], argTypes := #[t, u] })
    (ht : P.underlying t = some (.slice e)) (hu : P.underlying u = some .string) (hinfo : (P.info? e).map (fun i => (i.zero, i.size, i.bytes)) = some (some (.int .u8 0), 1, 1))
    (v : Value) (xs : List Int) (y : ByteArray) (ok : Nat → Prop) (hs : a.eval s = v) (hx : a.eval x = .string y) (hfresh : ∀ k, W.heap.size ≤ k → ok k)
    (HO : (Kd.int .u8).R e W base ok v xs) (HB : Below base w0 W) (hbase : base ≤ W.heap.size) (hl : xs.length + y.size ≤ 140737488355328)
    (h : ∀ v1 w1, (Kd.int .u8).R e w1 base ok v1 (xs ++ bytesOf y) → Below base w0 w1 → W.grownBy w1 v.ownBlock → (v1.ownBlock = v.ownBlock ∨ ∃ b, v1.ownBlock = some b ∧ W.heap.size ≤ b) → wpList P ops Q rest (a.put o.dst v1) w1) :
    wpList P ops Q (o :: rest) a W := by
 obtain ⟨i0, hi, hzz⟩ := Option.map_eq_some_iff.1 hinfo
 simp only [Prod.mk.injEq] at hzz
 obtain ⟨hz0, hz1, hz2⟩ := hzz
 have HO2 : W.ownsRow base e 1 v xs.length (encs (Value.int .u8) xs) := Kd.own_of_R HO
 refine wpList_plain hgd fun K hK => ?_
 obtain ⟨v', w', hr, h2, h3, h4⟩ := y_run_append_str (P := P) W base t u o.type e i0 ht hu hi hz0 hz1 hz2 v xs.length _ HO2 y (by simp only [maxLen]; omega) hl hbase
 have hl2 : (xs ++ bytesOf y).length = xs.length + y.size := by rw [List.length_append, bytesOf_length]
 have hc : encs (Value.int .u8) (xs ++ bytesOf y) = encs (Value.int .u8) xs ++ Lib.strCells y := by
  rw [encs_append]
  congr 1
  simp [encs, bytesOf, Lib.strCells]
 unfold Oper.wp execOp
 simp only [ho, resolve, invoke, builtin, Sem.run_bind, Sem.run_pure, Result.andThen_ok, List.map_toArray, List.map_cons, List.map_nil, hs, hx, hr]
 refine hK _ _ (h v' w' ?_ (HB.grown h3 hbase (own_base HO2)) h3 h4)
 refine Kd.R_of_own (by rw [hl2, hc]; exact h2) (fun k hk => ?_)
 rcases h4 with h4 | ⟨b, hb, hle⟩
 · exact HO.1 k (h4 ▸ hk)
 · rw [hb] at hk
   injection hk with hk
   exact hfresh k (by omega)
end
end Go.Proofs.YtkhcmddeeodbkaaW.PrintWords
namespace Go.Proofs.Ytkhcmddeeodbkaa.G
open Go.RowKit Go.Proofs.YtkhcmddeeodbkaaW.PrintWords Go.Proofs.YtkhcmddeeodbkaaW.PrintLast Go.Proofs.YtkhcmddeeodbkaaW.PrintMore
inductive VX where
 | none
 | num (n : Int)
 | txt (s : ByteArray)
def VX.val : VX → Value
 | .none => .nilIface
 | .num n => .iface 2 (.int .i64 n)
 | .txt s => .iface 123 (.string s)
theorem VX.one (x : VX) : x.val.oneCell' = true := by cases x <;> rfl
@[go_sem] theorem run_store_vx {P : Program} {w : World} {a : Addr} {m : Mode} (x : VX) : (store a x.val m).run P w = stored P w a x.val m := run_store P w a _ m (VX.one x)
@[go_sem ↓ high] theorem VX.cells (x : VX) : x.val.cells = #[x.val] := by cases x <;> rfl
@[go_sem] theorem VX.not_agg (x : VX) (cs : Array Value) : (x.val = Value.agg cs) = False := by cases x <;> simp [VX.val]
@[go_sem] theorem VX.fold0 : Value.nilIface = VX.val .none := rfl
@[go_sem] theorem VX.foldN (n : Int) : Value.iface 2 (.int .i64 n) = VX.val (.num n) := rfl
@[go_sem] theorem VX.foldT (s : ByteArray) : Value.iface 123 (.string s) = VX.val (.txt s) := rfl
def VX.n : VX → Int
 | .num n => n
 | _ => 0
def VX.s : VX → ByteArray
 | .txt s => s
 | _ => ⟨#[]⟩
def VX.k : VX → Int
 | .none => 0
 | .num _ => 1
 | .txt _ => 2
end Go.Proofs.Ytkhcmddeeodbkaa.G
namespace Go.Proofs.Ytkhcmddeeodbkaa.G
open Go.RowKit Go.Proofs.YtkhcmddeeodbkaaW.PrintWords
def bits_Len64.f (a0 : Int) : Option Int := if 0 ≤ a0 ∧ a0 ≤ 18446744073709551615 then some (Lib.bitLen a0.toNat) else none
theorem bits_Len64.calls (a0 : Int) (r : Int) (w : World) (h : bits_Len64.f a0 = some r) :
    Calls Try.prog 83 #[.int .u64 a0] w fun e w' => e = .returned (.int .i64 r) ∧ Drawn0 w w' := by
 unfold bits_Len64.f at h
 split at h
 · rename_i hc
   obtain rfl := Option.some.inj h
   refine (len64 a0 w hc.1 hc.2).mono ?_
   rintro e w' ⟨rfl, rfl⟩
   exact ⟨rfl, ⟨0, rfl⟩⟩
 · cases h
end Go.Proofs.Ytkhcmddeeodbkaa.G
