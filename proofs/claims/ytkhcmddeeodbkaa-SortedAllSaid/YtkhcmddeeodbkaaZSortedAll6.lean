import Derived.Test.YtkhcmddeeodbkaaZSortedAll5
-- Own texts and, of the words that the kit's print program wrote for this claim, those that are needed here: put together by wip/prune.py.
set_option linter.unusedSimpArgs false
set_option linter.unusedVariables false
namespace Go.Proofs.Ytkhcmddeeodbkaa.Q
open Go.RowKit Go.Proofs.YtkhcmddeeodbkaaW.PrintWords Go.Proofs.YtkhcmddeeodbkaaW.PrintMore Go.Proofs.Ytkhcmddeeodbkaa.XSor
theorem bt_bytes (s : ByteArray) (i : Nat) : bt s (i : Int) = (bytesOf s).getD i 0 := by
 rw [← rd_bytesOf]
 simp [rd]
theorem w32 {x : Int} (h0 : -2147483648 ≤ x) (h1 : x < 2147483648) : wrap32 x = x := by unfold wrap32; omega
def rl (n : Nat) (low : Int) : Nat → Int → List Int → Rn
 | 0, r, _ => fin r low n
 | _ + 1, _, [] => bad
 | d + 1, r, c :: t => if Cont c then rl n low d (r * 64 + (c - 128)) t else bad
def tri (x : Rn) : Int × Int × Bool := (x.1, (x.2.1 : Int), x.2.2)
theorem getD_drop0 {l : List Int} {i : Nat} (h : i < l.length) : l.drop i = l.getD i 0 :: l.drop (i + 1) := by
 rw [List.drop_eq_getElem_cons h]
 congr 1
 rw [List.getD_eq_getElem?_getD, List.getElem?_eq_getElem h]
 rfl
theorem refDecode_l (s : ByteArray) (n : Nat) (low : Int) (hn : n ≤ s.size) (hs : s.size < 4611686018427387904) : ∀ (d i : Nat) (r : Int), i + d = n → 1 ≤ i → 0 ≤ r → (r + 1) * 64 ^ d ≤ 2097152 →
    Ev (fun k => loessref1_Decode.l0 k s (n : Int) low r (i : Int)) (tri (rl n low d r ((bytesOf s).drop i))) := by
 intro d
 induction d with
 | zero =>
   intro i r hi h1 h0 hr
   rw [Int.pow_zero, Int.mul_one] at hr
   refine Ev.step (f := fun _ => some (tri (fin r low n))) (fun k => ?_) (Ev.now _)
   simp only [loessref1_Decode.l0]
   rw [if_neg (by omega)]
   unfold fin
   by_cases h2 : r < low
   · rw [if_pos h2, if_pos (.inl h2)]; rfl
   · rw [if_neg h2]
     by_cases h3 : r > 1114111
     · rw [if_pos h3, if_pos (.inr (.inl h3))]; rfl
     · rw [if_neg h3]
       by_cases h4 : r ≥ 55296
       · rw [if_pos h4]
         by_cases h5 : r < 57344
         · rw [if_pos h5, if_pos (.inr (.inr ⟨h4, h5⟩))]; rfl
         · rw [if_neg h5, if_neg (by omega)]; rfl
       · rw [if_neg h4, if_neg (by omega)]; rfl
 | succ d ih =>
   intro i r hi h1 h0 hr
   have hlt : i < (bytesOf s).length := by rw [bytesOf_length]; omega
   have hb := (byt_bytesOf s) ((bytesOf s).getD i 0) (by
    rw [List.getD_eq_getElem?_getD, List.getElem?_eq_getElem hlt]
    exact List.getElem_mem hlt)
   rw [getD_drop0 hlt]
   have hp : (0 : Int) < 64 ^ d := by
    have := Nat.pow_pos (n := d) (show 0 < 64 by decide)
    exact_mod_cast this
   have hr2 : (r + 1) * 64 * 64 ^ d ≤ 2097152 := by rw [Int.mul_assoc, Int.mul_comm 64 (64 ^ d), ← Int.pow_succ]; exact hr
   have hr3 : (r + 1) * 64 ≤ 2097152 := by
    have := Int.mul_le_mul_of_nonneg_left (show (1 : Int) ≤ 64 ^ d by omega) (show 0 ≤ (r + 1) * 64 by omega)
    omega
   by_cases hc : Cont ((bytesOf s).getD i 0)
   · have hc' := hc
     unfold Cont at hc'
     refine Ev.step (f := fun k => loessref1_Decode.l0 k s (n : Int) low (r * 64 + ((bytesOf s).getD i 0 - 128)) ((i + 1 : Nat) : Int)) (fun k => ?_) (evEq (ih (i + 1) (r * 64 + ((bytesOf s).getD i 0 - 128)) (by omega) (by omega) (by omega) ?_) ?_)
     · simp only [loessref1_Decode.l0]
       rw [if_pos (by omega), if_pos (by omega), if_pos (by omega), bt_bytes, if_neg (by omega), if_neg (by omega)]
       rw [w32 (x := r * 64) (by omega) (by omega), w32 (x := (bytesOf s).getD i 0) (by omega) (by omega), w32 (x := r * 64 + (bytesOf s).getD i 0) (by omega) (by omega), w32 (by omega) (by omega), w64 (by omega) (by omega)]
       rw [show r * 64 + (bytesOf s).getD i 0 - 128 = r * 64 + ((bytesOf s).getD i 0 - 128) by omega]
       rfl
     · refine Int.le_trans (Int.mul_le_mul_of_nonneg_right ?_ (Int.le_of_lt hp)) hr2
       omega
     · show _ = tri (if Cont ((bytesOf s).getD i 0) then rl n low d (r * 64 + ((bytesOf s).getD i 0 - 128)) ((bytesOf s).drop (i + 1)) else bad)
       rw [if_pos hc]
   · have hc' := hc
     unfold Cont at hc'
     refine Ev.step (f := fun _ => some (tri bad)) (fun k => ?_) (evEq (Ev.now _) ?_)
     · simp only [loessref1_Decode.l0]
       rw [if_pos (by omega), if_pos (by omega), if_pos (by omega), bt_bytes]
       by_cases h2 : (bytesOf s).getD i 0 < 128
       · rw [if_pos h2]; rfl
       · rw [if_neg h2, if_pos (by omega)]; rfl
     · unfold rl
       rw [if_neg hc]
theorem dec_rl {l : List Int} (h : l ≠ []) : dec l =
    if l.getD 0 0 < 128 then (l.getD 0 0, 1, true)
    else if 192 ≤ l.getD 0 0 ∧ l.getD 0 0 < 224 then (if l.length < 2 then bad else rl 2 128 1 (l.getD 0 0 - 192) (l.drop 1))
    else if 224 ≤ l.getD 0 0 ∧ l.getD 0 0 < 240 then (if l.length < 3 then bad else rl 3 2048 2 (l.getD 0 0 - 224) (l.drop 1))
    else if 240 ≤ l.getD 0 0 ∧ l.getD 0 0 < 248 then (if l.length < 4 then bad else rl 4 65536 3 (l.getD 0 0 - 240) (l.drop 1))
    else bad := by
 unfold dec
 by_cases h0 : l.getD 0 0 < 128
 · rw [if_pos h0, if_pos h0]
 rw [if_neg h0, if_neg h0]
 by_cases h1 : 192 ≤ l.getD 0 0 ∧ l.getD 0 0 < 224
 · rw [if_pos h1, if_pos h1]
   by_cases hl : l.length < 2
   · rw [if_neg (by omega), if_pos hl]
   · rw [if_neg hl]
     rw [getD_drop0 (i := 1) (by omega)]
     unfold rl
     by_cases hc : Cont (l.getD 1 0)
     · rw [if_pos ⟨by omega, hc⟩, if_pos hc]; rfl
     · rw [if_neg (fun hh => hc hh.2), if_neg hc]
 rw [if_neg h1, if_neg h1]
 by_cases h2 : 224 ≤ l.getD 0 0 ∧ l.getD 0 0 < 240
 · rw [if_pos h2, if_pos h2]
   by_cases hl : l.length < 3
   · rw [if_neg (by omega), if_pos hl]
   · rw [if_neg hl]
     rw [getD_drop0 (i := 1) (by omega), getD_drop0 (i := 2) (by omega)]
     unfold rl
     by_cases hc : Cont (l.getD 1 0)
     · rw [if_pos hc]
       unfold rl
       by_cases hc2 : Cont (l.getD 2 0)
       · rw [if_pos ⟨by omega, hc, hc2⟩, if_pos hc2]; rfl
       · rw [if_neg (fun hh => hc2 hh.2.2), if_neg hc2]
     · rw [if_neg (fun hh => hc hh.2.1), if_neg hc]
 rw [if_neg h2, if_neg h2]
 by_cases h3 : 240 ≤ l.getD 0 0 ∧ l.getD 0 0 < 248
 · rw [if_pos h3, if_pos h3]
   by_cases hl : l.length < 4
   · rw [if_neg (by omega), if_pos hl]
   · rw [if_neg hl]
     rw [getD_drop0 (i := 1) (by omega), getD_drop0 (i := 2) (by omega), getD_drop0 (i := 3) (by omega)]
     unfold rl
     by_cases hc : Cont (l.getD 1 0)
     · rw [if_pos hc]
       unfold rl
       by_cases hc2 : Cont (l.getD 2 0)
       · rw [if_pos hc2]
         unfold rl
         by_cases hc3 : Cont (l.getD 3 0)
         · rw [if_pos ⟨by omega, hc, hc2, hc3⟩, if_pos hc3]; rfl
         · rw [if_neg (fun hh => hc3 hh.2.2.2), if_neg hc3]
       · rw [if_neg (fun hh => hc2 hh.2.2.1), if_neg hc2]
     · rw [if_neg (fun hh => hc hh.2.1), if_neg hc]
 rw [if_neg h3, if_neg h3]
theorem refDecode_ev {s : ByteArray} (h0 : 0 < s.size) (hs : s.size < 4611686018427387904) : Ev (fun k => loessref1_Decode.f k s) (tri (dec (bytesOf s))) := by
 have hlen := bytesOf_length s
 have hne : bytesOf s ≠ [] := by intro hh; rw [hh] at hlen; simp at hlen; omega
 have hlt : 0 < (bytesOf s).length := by omega
 have hb := (byt_bytesOf s) ((bytesOf s).getD 0 0) (by
  rw [List.getD_eq_getElem?_getD, List.getElem?_eq_getElem hlt]
  exact List.getElem_mem hlt)
 have hbt : bt s 0 = (bytesOf s).getD 0 0 := bt_bytes s 0
 have hj2 : ∀ (n : Nat) (low r : Int), 2 ≤ n → n ≤ 4 → 0 ≤ r → (r + 1) * 64 ^ (n - 1) ≤ 2097152 →
     Ev (fun k => loessref1_Decode.j2 k s (n : Int) low r) (tri (if (bytesOf s).length < n then bad else rl n low (n - 1) r ((bytesOf s).drop 1))) := by
  intro n low r hn2 hn4 hr0 hr
  by_cases hl : (bytesOf s).length < n
  · rw [if_pos hl]
    refine Ev.step (f := fun _ => some (tri bad)) (fun k => ?_) (Ev.now _)
    simp only [loessref1_Decode.j2]
    rw [if_pos (by omega)]
    rfl
  · rw [if_neg hl]
    refine Ev.step (fun k => ?_) (refDecode_l s n low (by omega) hs (n - 1) 1 r (by omega) (by omega) hr0 hr)
    simp only [loessref1_Decode.j2]
    rw [if_neg (by omega)]
    rfl
 rw [dec_rl hne]
 generalize hc : (bytesOf s).getD 0 0 = c at *
 unfold loessref1_Decode.f
 refine Ev.congr (fun k => if_pos (by omega)) ?_
 rw [hbt]
 by_cases c0 : c < 128
 · refine Ev.congr (fun k => if_pos c0) ?_
   rw [if_pos c0, w32 (by omega) (by omega)]
   exact Ev.now _
 rw [if_neg c0]
 refine Ev.congr (fun k => if_neg c0) ?_
 have hj0 : ∀ k, (if c ≥ 192 then loessref1_Decode.j0 k s c (decide (c < 224)) else loessref1_Decode.j0 k s c false) = loessref1_Decode.j0 k s c (decide (192 ≤ c ∧ c < 224)) := by
  intro k
  by_cases h : c ≥ 192
  · rw [if_pos h]; congr 1; simp [h]
  · rw [if_neg h]; congr 1; simp; omega
 refine Ev.congr hj0 ?_
 by_cases c1 : 192 ≤ c ∧ c < 224
 · rw [if_pos c1]
   refine Ev.step (fun k => ?_) (hj2 2 128 (c - 192) (by omega) (by omega) (by omega) (by simp; omega))
   simp only [loessref1_Decode.j0]
   rw [if_pos (by simp [c1]), w32 (x := c) (by omega) (by omega), w32 (by omega) (by omega)]
   rfl
 rw [if_neg c1]
 have hj1 : ∀ k, loessref1_Decode.j0 (k + 1) s c (decide (192 ≤ c ∧ c < 224)) = loessref1_Decode.j1 k s c (decide (224 ≤ c ∧ c < 240)) := by
  intro k
  simp only [loessref1_Decode.j0]
  rw [if_neg (by simpa using fun h => by omega)]
  by_cases h : c ≥ 224
  · rw [if_pos h]; congr 1; simp [h]
  · rw [if_neg h]; congr 1; simp; omega
 refine Ev.step hj1 ?_
 by_cases c2 : 224 ≤ c ∧ c < 240
 · rw [if_pos c2]
   refine Ev.step (fun k => ?_) (hj2 3 2048 (c - 224) (by omega) (by omega) (by omega) (by simp; omega))
   simp only [loessref1_Decode.j1]
   rw [if_pos (by simp [c2]), w32 (x := c) (by omega) (by omega), w32 (by omega) (by omega)]
   rfl
 rw [if_neg c2]
 by_cases c3 : 240 ≤ c ∧ c < 248
 · rw [if_pos c3]
   refine Ev.step (fun k => ?_) (hj2 4 65536 (c - 240) (by omega) (by omega) (by omega) (by simp; omega))
   simp only [loessref1_Decode.j1]
   rw [if_neg (by simpa using fun h => by omega), if_pos (by omega), if_pos (by omega), w32 (x := c) (by omega) (by omega), w32 (by omega) (by omega)]
   rfl
 · rw [if_neg c3]
   refine Ev.step (f := fun _ => some (tri bad)) (fun k => ?_) (Ev.now _)
   simp only [loessref1_Decode.j1]
   rw [if_neg (by simpa using fun h => by omega)]
   by_cases h : c ≥ 240
   · rw [if_pos h, if_neg (by omega)]; rfl
   · rw [if_neg h]; rfl
def begins : List Rn → Nat → List Int
 | [], _ => []
 | d :: r, p => (p : Int) :: begins r (p + d.2.1)
theorem extract_bytes (s : ByteArray) (p : Nat) : bytesOf (s.extract p s.size) = (bytesOf s).drop p := by
 rw [bytesOf_extract, List.take_of_length_le (by rw [bytesOf_length]; omega)]
theorem refRunes_l (s : ByteArray) (hs : s.size < 17592186044416) : ∀ (n p : Nat) (a b : List Int), s.size ≤ p + n → p ≤ s.size → a.length ≤ p → b.length ≤ p →
    Ev (fun k => loessref1_Runes.l0 k s a b (p : Int)) (a ++ (ds ((bytesOf s).drop p)).map (·.1), b ++ begins (ds ((bytesOf s).drop p)) p) := by
 intro n
 induction n with
 | zero =>
   intro p a b h hp ha hb
   rw [List.drop_of_length_le (by rw [bytesOf_length]; omega), ds_nil]
   refine Ev.step (f := fun _ => some (a, b)) (fun k => ?_) (evEq (Ev.now _) (by simp [begins]))
   simp only [loessref1_Runes.l0]
   rw [if_neg (by omega)]
 | succ n ih =>
   intro p a b h hp ha hb
   by_cases hlt : p < s.size
   · have hne : (bytesOf s).drop p ≠ [] := by
       intro hh
       have := congrArg List.length hh
       rw [List.length_drop, bytesOf_length, List.length_nil] at this
       omega
     have hw := dec_width ((bytesOf s).drop p)
     have hf := dec_fits (List.length_pos_iff.2 hne)
     rw [List.length_drop, bytesOf_length] at hf
     have hd := refDecode_ev (s := s.extract p s.size) (by rw [ByteArray.size_extract]; omega) (by rw [ByteArray.size_extract]; omega)
     rw [extract_bytes] at hd
     have hrec := ih (p + (dec ((bytesOf s).drop p)).2.1) (a ++ [(dec ((bytesOf s).drop p)).1]) (b ++ [(p : Int)]) (by omega) (by omega) (by simp; omega) (by simp; omega)
     rw [ds_cons hne]
     refine Ev.step (f := fun k => (loessref1_Decode.f k (s.extract p s.size)).bind fun x => loessref1_Runes.l0 k s (a ++ [x.1]) (b ++ [(p : Int)]) (wrap64 ((p : Int) + x.2.1))) (fun k => ?_) (Ev.bind hd ?_)
     · simp only [loessref1_Runes.l0]
       rw [if_pos (by omega), if_pos (by omega), if_pos (by omega), Int.toNat_natCast]
       congr 1
       funext x
       rw [if_pos (by omega), if_pos (by omega)]
     · refine Ev.congr (fun k => ?_) (evEq hrec ?_)
       · simp only [tri]
         rw [w64 (by omega) (by omega)]
         rfl
       · simp only [List.map_cons, begins, List.append_assoc, List.cons_append, List.nil_append, List.drop_drop]
   · rw [List.drop_of_length_le (by rw [bytesOf_length]; omega), ds_nil]
     refine Ev.step (f := fun _ => some (a, b)) (fun k => ?_) (evEq (Ev.now _) (by simp [begins]))
     simp only [loessref1_Runes.l0]
     rw [if_neg (by omega)]
theorem refRunes_ev {s : ByteArray} (hs : s.size < 17592186044416) : Ev (fun k => loessref1_Runes.f k s) ((ds (bytesOf s)).map (·.1), begins (ds (bytesOf s)) 0) := by
 have h := refRunes_l s hs s.size 0 [] [] (by omega) (by omega) (by simp) (by simp)
 rw [List.drop_zero, List.nil_append, List.nil_append] at h
 exact h
theorem refValid_l (s : ByteArray) (hs : s.size < 17592186044416) : ∀ (n p : Nat), s.size ≤ p + n → p ≤ s.size →
    Ev (fun k => loessref1_Valid.l0 k s (p : Int)) ((ds ((bytesOf s).drop p)).all (·.2.2)) := by
 intro n
 induction n with
 | zero =>
   intro p h hp
   rw [List.drop_of_length_le (by rw [bytesOf_length]; omega), ds_nil]
   refine Ev.step (f := fun _ => some true) (fun k => ?_) (Ev.now _)
   simp only [loessref1_Valid.l0]
   rw [if_neg (by omega)]
 | succ n ih =>
   intro p h hp
   by_cases hlt : p < s.size
   · have hne : (bytesOf s).drop p ≠ [] := by
       intro hh
       have := congrArg List.length hh
       rw [List.length_drop, bytesOf_length, List.length_nil] at this
       omega
     have hw := dec_width ((bytesOf s).drop p)
     have hf := dec_fits (List.length_pos_iff.2 hne)
     rw [List.length_drop, bytesOf_length] at hf
     have hd := refDecode_ev (s := s.extract p s.size) (by rw [ByteArray.size_extract]; omega) (by rw [ByteArray.size_extract]; omega)
     rw [extract_bytes] at hd
     have hrec := ih (p + (dec ((bytesOf s).drop p)).2.1) (by omega) (by omega)
     rw [ds_cons hne]
     refine Ev.step (f := fun k => (loessref1_Decode.f k (s.extract p s.size)).bind fun x => if x.2.2 = true then loessref1_Valid.l0 k s (wrap64 ((p : Int) + x.2.1)) else some false) (fun k => ?_) (Ev.bind hd ?_)
     · simp only [loessref1_Valid.l0]
       rw [if_pos (by omega), if_pos (by omega), if_pos (by omega), Int.toNat_natCast]
     · simp only [tri, List.all_cons]
       by_cases hok : (dec ((bytesOf s).drop p)).2.2 = true
       · refine Ev.congr (fun k => if_pos hok) (Ev.congr (fun k => ?_) (evEq hrec (by rw [hok, Bool.true_and, List.drop_drop])))
         rw [w64 (by omega) (by omega)]
         rfl
       · have h2 : (dec ((bytesOf s).drop p)).2.2 = false := by simpa using hok
         exact Ev.congr (fun k => if_neg hok) (evEq (Ev.now false) (by rw [h2, Bool.false_and]))
   · rw [List.drop_of_length_le (by rw [bytesOf_length]; omega), ds_nil]
     refine Ev.step (f := fun _ => some true) (fun k => ?_) (Ev.now _)
     simp only [loessref1_Valid.l0]
     rw [if_neg (by omega)]
theorem refValid_ev {s : ByteArray} (hs : s.size < 17592186044416) : Ev (fun k => loessref1_Valid.f k s) ((ds (bytesOf s)).all (·.2.2)) := by
 have h := refValid_l s hs s.size 0 (by omega) (by omega)
 rw [List.drop_zero] at h
 exact h
end Go.Proofs.Ytkhcmddeeodbkaa.Q
namespace Go.Proofs.Ytkhcmddeeodbkaa.Q
open Go.RowKit Go.Proofs.YtkhcmddeeodbkaaW.PrintWords Go.Proofs.YtkhcmddeeodbkaaW.PrintMore
def putU (u : Nat) : List Int := if u < 128 then [(u : Int)] else ((u % 128 + 128 : Nat) : Int) :: putU (u / 128)
termination_by u
decreasing_by omega
theorem putU_lt {u : Nat} (h : u < 128) : putU u = [(u : Int)] := by rw [putU, if_pos h]
theorem putU_ge {u : Nat} (h : ¬ u < 128) : putU u = ((u % 128 + 128 : Nat) : Int) :: putU (u / 128) := by rw [putU, if_neg h]
def zig (n : Int) : Nat := if n < 0 then (-2 * n - 1).toNat else (2 * n).toNat
def unzig (x : Int) : Int := if x % 2 = 1 then -(x / 2) - 1 else x / 2
theorem unzig_zig (n : Int) : unzig (zig n) = n := by unfold unzig zig; split <;> split <;> omega
def I64 (n : Int) : Prop := -9223372036854775808 ≤ n ∧ n < 9223372036854775808
theorem zig_lt {n : Int} (h : I64 n) : zig n < 18446744073709551616 := by unfold zig; unfold I64 at h; split <;> omega
def putN (n : Int) : List Int := putU (zig n)
def putT (s : ByteArray) : List Int := putN s.size ++ bytesOf s
theorem putU_byt (u : Nat) : Byt (putU u) := by
 induction u using Nat.strongRecOn with
 | _ u ih =>
   by_cases h : u < 128
   · rw [putU_lt h]; exact Byt.cons (by omega) (by omega) Byt.nil
   · rw [putU_ge h]; exact Byt.cons (by omega) (by omega) (ih _ (by omega))
theorem putN_byt (n : Int) : Byt (putN n) := putU_byt _
theorem putT_byt (s : ByteArray) : Byt (putT s) := (putN_byt _).append (byt_bytesOf s)
theorem putU_len (d : Nat) : ∀ u : Nat, u < 128 ^ (d + 1) → (putU u).length ≤ d + 1 := by
 induction d with
 | zero => intro u h; rw [putU_lt (by simpa using h)]; simp
 | succ d ih =>
   intro u h
   by_cases h1 : u < 128
   · rw [putU_lt h1]; simp
   · rw [putU_ge h1]
     have : u / 128 < 128 ^ (d + 1) := by
      rw [Nat.div_lt_iff_lt_mul (by decide)]
      rw [Nat.pow_succ] at h
      exact h
     have := ih _ this
     simp only [List.length_cons]
     omega
theorem putN_len {n : Int} (h : I64 n) : (putN n).length ≤ 10 := putU_len 9 _ (Nat.lt_of_lt_of_le (zig_lt h) (by decide))
def ug : List Int → Nat → Int → Int × Int × Int
 | [], _, _ => (0, 0, 2)
 | c :: r, i, u =>
   if i = 9 ∧ c > 1 then (0, 0, 1)
   else if c > 127 then ug r (i + 1) (u + (c - 128) * 128 ^ i)
   else if i > 0 ∧ c = 0 then (0, 0, 1)
   else (unzig (u + c * 128 ^ i), i + 1, 0)
def getN (l : List Int) : Int × Int × Int := ug l 0 0
def getT (l : List Int) : ByteArray × Int × Int :=
 if (getN l).2.2 ≠ 0 then (⟨#[]⟩, 0, (getN l).2.2)
 else if (getN l).1 < 0 ∨ (getN l).1 > 65536 then (⟨#[]⟩, 0, 1)
 else if (getN l).1 > (l.length : Int) - (getN l).2.1 then (⟨#[]⟩, 0, 2)
 else (strOfNums ((l.take ((getN l).2.1 + (getN l).1).toNat).drop (getN l).2.1.toNat), (getN l).2.1 + (getN l).1, 0)
theorem p128 (i : Nat) : (0 : Int) < 128 ^ i := by
 have := Nat.pow_pos (n := i) (show 0 < 128 by decide)
 exact_mod_cast this
theorem pow128_mono {i j : Nat} (h : i ≤ j) : (128 : Int) ^ i ≤ 128 ^ j := by
 have := Nat.pow_le_pow_right (n := 128) (by decide) h
 exact_mod_cast this
theorem ug_put (u : Nat) : ∀ (rest : List Int) (i : Nat) (acc : Int), (u : Int) * 128 ^ i + acc < 18446744073709551616 → (i > 0 → 0 < u) → 0 ≤ acc →
    ug (putU u ++ rest) i acc = (unzig (acc + u * 128 ^ i), (i : Int) + ((putU u).length : Int), 0) := by
 induction u using Nat.strongRecOn with
 | _ u ih =>
   intro rest i acc hb hp ha
   have h9 : ∀ v : Nat, i = 9 → v ≤ u → (v : Int) ≤ 1 := by
    intro v hi hv
    subst hi
    have : ((u : Int)) * 128 ^ 9 < 18446744073709551616 := by omega
    omega
   by_cases h : u < 128
   · rw [putU_lt h]
     simp only [List.cons_append, List.nil_append, ug, List.length_cons, List.length_nil]
     rw [if_neg (fun hh => by have := h9 u hh.1 (Nat.le_refl _); omega), if_neg (by omega), if_neg (fun hh => by have := hp hh.1; omega)]
     simp
   · rw [putU_ge h]
     have hi9 : i ≠ 9 := fun hi => by have := h9 u hi (Nat.le_refl _); omega
     simp only [List.cons_append, ug, List.length_cons]
     rw [if_neg (fun hh => hi9 hh.1), if_pos (by omega)]
     have hm : ((u % 128 + 128 : Nat) : Int) - 128 = (u : Int) % 128 := by omega
     have he : acc + (u : Int) % 128 * 128 ^ i + ((u / 128 : Nat) : Int) * 128 ^ (i + 1) = acc + u * 128 ^ i := by
      have h2 : (u : Int) = u % 128 + ((u / 128 : Nat) : Int) * 128 := by omega
      have h3 : (u : Int) * 128 ^ i = (u : Int) % 128 * 128 ^ i + ((u / 128 : Nat) : Int) * (128 * 128 ^ i) := by
       conv => lhs; rw [h2]
       rw [Int.add_mul, Int.mul_assoc]
      rw [Int.pow_succ, h3, Int.mul_comm (128 ^ i) 128]
      omega
     rw [hm, ih (u / 128) (by omega) rest (i + 1) _ (by rw [Int.add_comm, he]; omega) (fun _ => by omega) (Int.add_nonneg ha (Int.mul_nonneg (by omega) (Int.le_of_lt (p128 i))))]
     rw [he]
     simp only [Prod.mk.injEq, true_and, and_true]
     omega
theorem getN_put {n : Int} (h : I64 n) (rest : List Int) : getN (putN n ++ rest) = (n, ((putN n).length : Int), 0) := by
 have := zig_lt h
 unfold getN putN
 rw [ug_put (zig n) rest 0 0 (by simp; omega) (fun h => absurd h (by decide)) (by decide)]
 simp [unzig_zig]
theorem ug_bound : ∀ (l : List Int) (i : Nat) (u : Int), 0 ≤ (ug l i u).2.1 ∧ (ug l i u).2.1 ≤ i + l.length ∧ ((ug l i u).2.2 = 0 → (i : Int) < (ug l i u).2.1) ∧ ((ug l i u).2.2 = 0 ∨ (ug l i u).2.2 = 1 ∨ (ug l i u).2.2 = 2) ∧ ((ug l i u).2.2 ≠ 0 → (ug l i u).1 = 0 ∧ (ug l i u).2.1 = 0) := by
 intro l
 induction l with
 | nil => intro i u; simp [ug]
 | cons c r ih =>
   intro i u
   unfold ug
   split
   · simp; omega
   · split
     · have := ih (i + 1) (u + (c - 128) * 128 ^ i)
       simp only [List.length_cons]
       omega
     · split
       · simp; omega
       · simp; omega
theorem getN_bound (l : List Int) : 0 ≤ (getN l).2.1 ∧ (getN l).2.1 ≤ l.length ∧ ((getN l).2.2 = 0 → 0 < (getN l).2.1) ∧ ((getN l).2.2 = 0 ∨ (getN l).2.2 = 1 ∨ (getN l).2.2 = 2) ∧ ((getN l).2.2 ≠ 0 → (getN l).1 = 0 ∧ (getN l).2.1 = 0) := by
 have := ug_bound l 0 0
 simpa [getN] using this
theorem ug_i64 : ∀ (l : List Int) (i : Nat) (u : Int), Byt l → i ≤ 9 → 0 ≤ u → u < 128 ^ i → I64 (ug l i u).1 := by
 intro l
 induction l with
 | nil => intro i u _ _ _ _; simp [ug, I64]
 | cons c r ih =>
   intro i u hb hi h0 h1
   have hc := hb.head
   unfold ug
   split
   · simp [I64]
   · rename_i h9
     split
     · rename_i hc1
       have hi9 : i ≠ 9 := fun h => h9 ⟨h, by omega⟩
       refine ih (i + 1) _ hb.tail (by omega) (Int.add_nonneg h0 (Int.mul_nonneg (by omega) (Int.le_of_lt (p128 i)))) ?_
       have : (c - 128) * 128 ^ i ≤ 127 * 128 ^ i := Int.mul_le_mul_of_nonneg_right (by omega) (Int.le_of_lt (p128 i))
       rw [Int.pow_succ]
       omega
     · split
       · simp [I64]
       · have : 0 ≤ u + c * 128 ^ i ∧ u + c * 128 ^ i < 18446744073709551616 := by
           refine ⟨Int.add_nonneg h0 (Int.mul_nonneg hc.1 (Int.le_of_lt (p128 i))), ?_⟩
           by_cases hi9 : i = 9
           · subst hi9
             omega
           · have h8 := pow128_mono (i := i) (j := 8) (by omega)
             have h2 : c * 128 ^ i ≤ 127 * 128 ^ i := Int.mul_le_mul_of_nonneg_right (by omega) (Int.le_of_lt (p128 i))
             have e8 : (128 : Int) ^ 8 = 72057594037927936 := rfl
             omega
         simp only
         unfold unzig I64
         split <;> omega
theorem getN_i64 {l : List Int} (h : Byt l) : I64 (getN l).1 := ug_i64 l 0 0 h (by decide) (by decide) (by simp)
theorem ug_canon : ∀ (l : List Int) (i : Nat) (u : Int), Byt l → i ≤ 9 → (ug l i u).2.2 = 0 → ∃ v : Nat, (ug l i u).1 = unzig (u + v * 128 ^ i) ∧ (ug l i u).2.1 = i + (putU v).length ∧ l.take (putU v).length = putU v ∧ (i > 0 → 0 < v) ∧ (v : Int) * 128 ^ i < 18446744073709551616 := by
 intro l
 induction l with
 | nil => intro i u _ _ h; simp [ug] at h
 | cons c r ih =>
   intro i u hb hi h
   have hc := hb.head
   unfold ug at h ⊢
   by_cases h1 : i = 9 ∧ c > 1
   · rw [if_pos h1] at h; simp at h
   · rw [if_neg h1] at h ⊢
     by_cases h2 : c > 127
     · rw [if_pos h2] at h ⊢
       have hi9 : i ≠ 9 := fun h => h1 ⟨h, by omega⟩
       obtain ⟨v, e1, e2, e3, e4, e5⟩ := ih (i + 1) _ hb.tail (by omega) h
       have hv := e4 (by omega)
       have e : ((v * 128 + (c - 128).toNat : Nat) : Int) = v * 128 + (c - 128) := by omega
       have hw : ¬ v * 128 + (c - 128).toNat < 128 := by omega
       have hd : (v * 128 + (c - 128).toNat) / 128 = v := by omega
       have hm : (((v * 128 + (c - 128).toNat) % 128 + 128 : Nat) : Int) = c := by omega
       have hp : u + ((v * 128 + (c - 128).toNat : Nat) : Int) * 128 ^ i = u + (c - 128) * 128 ^ i + v * 128 ^ (i + 1) := by
        rw [e, Int.pow_succ, Int.add_mul, Int.mul_assoc, Int.mul_comm 128 (128 ^ i)]
        omega
       refine ⟨v * 128 + (c - 128).toNat, ?_, ?_, ?_, fun _ => by omega, ?_⟩
       · rw [e1, hp]
       · rw [e2, putU_ge hw, hd]; simp only [List.length_cons]; omega
       · rw [putU_ge hw, hd, hm]; simp only [List.length_cons, List.take_succ_cons]; rw [e3]
       · rw [e, Int.add_mul]
         by_cases hi8 : i + 1 = 9
         · obtain rfl : i = 8 := by omega
           have e9 : (128 : Int) ^ (8 + 1) = 9223372036854775808 := rfl
           have e8 : (128 : Int) ^ 8 = 72057594037927936 := rfl
           rw [e9] at e5
           rw [e8]
           have : (v : Int) ≤ 1 := by omega
           omega
         · have h7 := pow128_mono (i := i) (j := 7) (by omega)
           have h0 := p128 i
           rw [Int.pow_succ] at e5
           have : (c - 128) * 128 ^ i ≤ 127 * 128 ^ i := Int.mul_le_mul_of_nonneg_right (by omega) (Int.le_of_lt (p128 i))
           have h3 : (v : Int) * 128 * 128 ^ i = v * (128 ^ i * 128) := by rw [Int.mul_assoc, Int.mul_comm 128 (128 ^ i)]
           have e7 : (128 : Int) ^ 7 = 562949953421312 := rfl
           rw [h3]
           have hmul : (v : Int) * (128 ^ i * 128) ≤ 18446744073709551616 - 128 ^ i * 128 := by
            have hdvd : (128 : Int) ^ i * 128 ∣ 18446744073709551616 := by
             have hk : (18446744073709551616 : Int) = 128 ^ (i + 1) * (128 ^ (8 - i) * 2) := by
              rw [← Int.mul_assoc, ← Int.pow_add, show i + 1 + (8 - i) = 9 by omega]
              rfl
             rw [← Int.pow_succ]
             exact ⟨_, hk⟩
            obtain ⟨q, hq⟩ := hdvd
            rw [hq] at e5 ⊢
            have hq2 : (v : Int) < q := by
             rcases Int.lt_or_le (v : Int) q with h | h
             · exact h
             · have := Int.mul_le_mul_of_nonneg_left h (show (0 : Int) ≤ 128 ^ i * 128 by omega)
               rw [Int.mul_comm (v : Int)] at e5
               omega
            have := Int.mul_le_mul_of_nonneg_left (show (v : Int) ≤ q - 1 by omega) (show (0 : Int) ≤ 128 ^ i * 128 by omega)
            rw [Int.mul_comm (v : Int), Int.mul_sub] at *
            omega
           omega
     · rw [if_neg h2] at h ⊢
       by_cases h3 : i > 0 ∧ c = 0
       · rw [if_pos h3] at h; simp at h
       · rw [if_neg h3]
         have hl : c.toNat < 128 := by omega
         refine ⟨c.toNat, ?_, ?_, ?_, fun hh => ?_, ?_⟩
         · simp only [show ((c.toNat : Nat) : Int) = c by omega]
         · rw [putU_lt hl]; simp
         · rw [putU_lt hl]; simp; omega
         · rcases Nat.eq_zero_or_pos c.toNat with h | h
           · exact absurd ⟨hh, by omega⟩ h3
           · exact h
         · rw [show ((c.toNat : Nat) : Int) = c by omega]
           by_cases hi9 : i = 9
           · subst hi9
             omega
           · have h8 := pow128_mono (i := i) (j := 8) (by omega)
             have h2 : c * 128 ^ i ≤ 127 * 128 ^ i := Int.mul_le_mul_of_nonneg_right (by omega) (Int.le_of_lt (p128 i))
             have e8 : (128 : Int) ^ 8 = 72057594037927936 := rfl
             omega
theorem zig_unzig (v : Nat) : zig (unzig v) = v := by unfold zig unzig; split <;> split <;> omega
theorem getN_canon {l : List Int} (hb : Byt l) (h : (getN l).2.2 = 0) : l.take (getN l).2.1.toNat = putN (getN l).1 ∧ (getN l).2.1 = (putN (getN l).1).length := by
 obtain ⟨v, e1, e2, e3, _, _⟩ := ug_canon l 0 0 hb (by decide) h
 have e4 : putN (getN l).1 = putU v := by
  unfold putN getN
  rw [e1]
  simp only [Int.pow_zero, Int.mul_one, Int.zero_add, zig_unzig]
 rw [e4]
 unfold getN
 rw [e2]
 simp only [Int.natCast_zero, Int.zero_add, Int.toNat_natCast, and_true]
 exact e3
theorem getT_put {s : ByteArray} (h : s.size ≤ 65536) (rest : List Int) : getT (putT s ++ rest) = (s, ((putT s).length : Int), 0) := by
 have hi : I64 (s.size : Int) := by unfold I64; omega
 have hg : getN (putT s ++ rest) = ((s.size : Int), ((putN s.size).length : Int), 0) := by unfold putT; rw [List.append_assoc]; exact getN_put hi _
 have hl := bytesOf_length s
 unfold getT
 rw [hg]
 simp only [ne_eq, not_true_eq_false, if_false]
 rw [if_neg (by omega), if_neg (by unfold putT; simp only [List.length_append]; omega)]
 have e1 : (((putN s.size).length : Int) + (s.size : Int)).toNat = (putT s).length := by unfold putT; simp only [List.length_append]; omega
 rw [e1, List.take_left']
 · have e2 : (putT s).drop (putN (s.size : Int)).length = bytesOf s := by unfold putT; exact List.drop_left
   rw [Int.toNat_natCast, e2, str_bytesOf]
   unfold putT
   simp only [List.length_append]
   congr 2
   omega
 · rfl
theorem getT_bound (l : List Int) : 0 ≤ (getT l).2.1 ∧ (getT l).2.1 ≤ l.length ∧ ((getT l).2.2 = 0 → 0 < (getT l).2.1) ∧ ((getT l).2.2 ≠ 0 → (getT l).1 = ⟨#[]⟩ ∧ (getT l).2.1 = 0) := by
 have hb := getN_bound l
 unfold getT
 split
 · simp_all
 · split
   · simp
   · split
     · simp
     · simp only [ne_eq, not_true_eq_false, false_implies, and_true]
       have := hb.2.2.1 (by simp_all)
       omega
theorem getT_canon {l : List Int} (hb : Byt l) (h : (getT l).2.2 = 0) : l.take (getT l).2.1.toNat = putT (getT l).1 ∧ (getT l).2.1 = (putT (getT l).1).length ∧ (getT l).1.size ≤ 65536 := by
 have hbd := getN_bound l
 unfold getT at h ⊢
 by_cases h0 : (getN l).2.2 ≠ 0
 · rw [if_pos h0] at h; exact absurd h h0
 · rw [if_neg h0] at h ⊢
   by_cases h1 : (getN l).1 < 0 ∨ (getN l).1 > 65536
   · rw [if_pos h1] at h; simp at h
   · rw [if_neg h1] at h ⊢
     by_cases h2 : (getN l).1 > (l.length : Int) - (getN l).2.1
     · rw [if_pos h2] at h; simp at h
     · rw [if_neg h2] at h ⊢
       have h0' : (getN l).2.2 = 0 := by simpa using h0
       obtain ⟨c1, c2⟩ := getN_canon hb h0'
       simp only
       have hz : (strOfNums ((l.take ((getN l).2.1 + (getN l).1).toNat).drop (getN l).2.1.toNat)).size = ((getN l).1).toNat := by
        rw [strOfNums_size]; simp only [List.length_drop, List.length_take]; omega
       have hbt : bytesOf (strOfNums ((l.take ((getN l).2.1 + (getN l).1).toNat).drop (getN l).2.1.toNat)) = (l.take ((getN l).2.1 + (getN l).1).toNat).drop (getN l).2.1.toNat := bytesOf_str ((hb.take _).drop _)
       have e : putT (strOfNums ((l.take ((getN l).2.1 + (getN l).1).toNat).drop (getN l).2.1.toNat)) = l.take ((getN l).2.1 + (getN l).1).toNat := by
        unfold putT
        rw [hz, hbt, show (((getN l).1.toNat : Nat) : Int) = (getN l).1 by omega, ← c1]
        have : l.take (getN l).2.1.toNat = (l.take ((getN l).2.1 + (getN l).1).toNat).take (getN l).2.1.toNat := by rw [List.take_take, Nat.min_eq_left (by omega)]
        rw [this, List.take_append_drop]
       rw [e, hz]
       refine ⟨rfl, ?_, by omega⟩
       rw [List.length_take]
       omega
end Go.Proofs.Ytkhcmddeeodbkaa.Q
namespace Go.Proofs.Ytkhcmddeeodbkaa.XSor
open Go.RowKit Go.Proofs.Ytkhcmddeeodbkaa.G Go.Proofs.YtkhcmddeeodbkaaW.PrintWords Go.Proofs.YtkhcmddeeodbkaaW.PrintLast Go.Proofs.YtkhcmddeeodbkaaW.PrintMore
attribute [local go_sem] max2_int min2_int max_two min_two max_three min_three max_four min_four
mutual
def num_Put.j0 : Nat → List Int → Int → Option (List Int)
 | 0, _, _ => none
 | k + 1, x0, x5 => num_Put.l0 k x0 x5
def num_Put.l0 : Nat → List Int → Int → Option (List Int)
 | 0, _, _ => none
 | k + 1, x0, x5 => if x5 > 127 then (if x0.length < 140737488355328 then (num_Put.l0 k (x0 ++ [Go.bits .or .u8 ((x5) % 256) 128]) (x5 / 128)) else (none)) else (if x0.length < 140737488355328 then (some (x0 ++ [(x5) % 256])) else (none))
end
def num_Put.f (k : Nat) (l0 : List Int) (a1 : Int) : Option (List Int) := if a1 < 0 then (num_Put.j0 k l0 (Go.bits .xor .u64 18446744073709551615 (IntKind.u64.wrap ((IntKind.u64.wrap (a1)) * 2)))) else (num_Put.j0 k l0 (IntKind.u64.wrap ((IntKind.u64.wrap (a1)) * 2)))
theorem num_Put.mono_l : ∀ k, (∀ y0 y1, LeO (num_Put.j0 k y0 y1) (num_Put.j0 (k + 1) y0 y1)) ∧ (∀ y0 y1, LeO (num_Put.l0 k y0 y1) (num_Put.l0 (k + 1) y0 y1))
 | 0 => ⟨fun _ _ r h => by simp [num_Put.j0] at h, fun _ _ r h => by simp [num_Put.l0] at h⟩
 | k + 1 => by
   obtain ⟨ih0, ih1⟩ := num_Put.mono_l k
   refine ⟨?_, ?_⟩
   · intro y0 y1
     unfold num_Put.j0
     repeat' first
     | (with_reducible exact ih0 _ _)
     | (with_reducible exact ih1 _ _)
     | (with_reducible exact LeO.refl _)
     | (with_reducible exact LeO.none _)
     | (with_reducible refine LeO.ite ?_ ?_)
     | (with_reducible refine LeO.bind ?_ (fun _ => ?_))
     | exact ih0 _ _
     | exact ih1 _ _
     | exact LeO.none _
     | refine LeO.ite ?_ ?_
     | refine LeO.bind ?_ (fun _ => ?_)
   · intro y0 y1
     unfold num_Put.l0
     repeat' first
     | (with_reducible exact ih0 _ _)
     | (with_reducible exact ih1 _ _)
     | (with_reducible exact LeO.refl _)
     | (with_reducible exact LeO.none _)
     | (with_reducible refine LeO.ite ?_ ?_)
     | (with_reducible refine LeO.bind ?_ (fun _ => ?_))
     | exact ih0 _ _
     | exact ih1 _ _
     | exact LeO.none _
     | refine LeO.ite ?_ ?_
     | refine LeO.bind ?_ (fun _ => ?_)
theorem num_Put.mono : ∀ a0 a1 k, LeO (num_Put.f k a0 a1) (num_Put.f (k + 1) a0 a1) := by
 intro a0 a1 k
 obtain ⟨ih0, ih1⟩ := num_Put.mono_l k
 unfold num_Put.f
 repeat' first
     | (with_reducible exact ih0 _ _)
     | (with_reducible exact ih1 _ _)
     | (with_reducible exact LeO.refl _)
     | (with_reducible exact LeO.none _)
     | (with_reducible refine LeO.ite ?_ ?_)
     | (with_reducible refine LeO.bind ?_ (fun _ => ?_))
     | exact ih0 _ _
     | exact ih1 _ _
     | exact LeO.none _
     | refine LeO.ite ?_ ?_
     | refine LeO.bind ?_ (fun _ => ?_)
set_option maxHeartbeats 8000000 in
set_option maxRecDepth 100000 in
theorem num_Put.calls (k : Nat) (P0_ : Nat → Prop) (u9000_ : Value) (l0 : List Int) (a1 : Int) (r : List Int) (w0 w : World) (hB : Below w0.heap.size w0 w) (ho0 : Kd.R (Kd.int .u8) 5 w w0.heap.size P0_ u9000_ l0) (h : num_Put.f k l0 a1 = some r) :
    Calls Try.prog 51 #[u9000_, .int .i64 a1] w fun e w' => ∃ v0_ : Value, e = .returned (v0_) ∧ Kd.R (Kd.int .u8) 5 w' w0.heap.size (fun k_ => (P0_ k_ ∨ w.heap.size ≤ k_)) v0_ r ∧ Below w0.heap.size w0 w' ∧ Kept w w' (fun k_ => P0_ k_) := by
 have HO0 := Aside0.mk (show Kd.R (Kd.int .u8) 5 w w0.heap.size (fun k_ => (P0_ k_ ∨ w.heap.size ≤ k_)) u9000_ l0 from Kd.R_mono ho0 (fun k_ hk => (.inl hk)))
 have HK := Aside0.mk (Kept.refl w (fun k_ => P0_ k_))
 have HW0 := Aside0.mk hB.size
 have HB := Aside0.mk hB
 clear hB
 have H : (if a1 < 0 then (num_Put.j0 k l0 (Go.bits .xor .u64 18446744073709551615 (IntKind.u64.wrap ((IntKind.u64.wrap (a1)) * 2)))) else (num_Put.j0 k l0 (IntKind.u64.wrap ((IntKind.u64.wrap (a1)) * 2)))) = some r := h
 clear h
 have HC3 := Aside0.mk H
 clear H
 go_enter Try.func51, Try.ntmps51
 go_upto_if 10 with (fail)
 go_cut [5] (fun v5 wc => ∃ (kq : Nat) (x5_2 : Int), v5 = .int .u64 x5_2 ∧ Aside0 (num_Put.j0 kq l0 x5_2 = some r) ∧ Aside0 (kq ≤ k) ∧ Aside0 (Kd.R (Kd.int .u8) 5 wc w0.heap.size (fun k_ => (P0_ k_ ∨ w.heap.size ≤ k_)) u9000_ l0) ∧ Aside0 (Kept w wc (fun k_ => P0_ k_)) ∧ Aside0 (Below w0.heap.size w0 wc))
 case first =>
  have H := HC3.out
  clear HC3
  by_cases c4 : a1 < 0
  · rw [if_pos c4] at H
    have c4b0 : decide (a1 < 0) = true := decide_eq_true c4
    clear c4
    (first | rw [c4b0] | (simp only [i64_w, i32_w]; rw [c4b0]) | skip)
    have H' := Aside0.mk H
    clear H
    go_wp2
    go_meet
    case rel => exact ⟨_, (Go.bits .xor .u64 18446744073709551615 (IntKind.u64.wrap ((IntKind.u64.wrap (a1)) * 2))), (by first | rfl | (simp; done) | (simp [*]; done)), H', ⟨by first | omega | exact Nat.le_refl _⟩, ⟨by (with_reducible repeat (first | apply Kd.R_alloc | apply Kd.R_drewN | apply Kd.R_drew)); exact HO0.out⟩, ⟨by repeat (first | (with_reducible first | exact HK.out | apply Kept.alloc | apply Kept.drewN | apply Kept.drew) | exact HK.out)⟩, ⟨by repeat (first | (with_reducible first | exact HB.out | apply below_alloc | apply pw_below_drewN | apply below_drew1) | exact HB.out)⟩⟩
  · rw [if_neg c4] at H
    have c4b0 : decide (a1 < 0) = false := decide_eq_false c4
    clear c4
    (first | rw [c4b0] | (simp only [i64_w, i32_w]; rw [c4b0]) | skip)
    have H' := Aside0.mk H
    clear H
    go_wp2
    go_meet
    case rel => exact ⟨_, (IntKind.u64.wrap ((IntKind.u64.wrap (a1)) * 2)), (by first | rfl | (simp; done) | (simp [*]; done)), H', ⟨by first | omega | exact Nat.le_refl _⟩, ⟨by (with_reducible repeat (first | apply Kd.R_alloc | apply Kd.R_drewN | apply Kd.R_drew)); exact HO0.out⟩, ⟨by repeat (first | (with_reducible first | exact HK.out | apply Kept.alloc | apply Kept.drewN | apply Kept.drew) | exact HK.out)⟩, ⟨by repeat (first | (with_reducible first | exact HB.out | apply below_alloc | apply pw_below_drewN | apply below_drew1) | exact HB.out)⟩⟩
 case rest =>
  clear HC3
  try clear p2
  try clear c4
  try clear c4b0
  obtain ⟨kq, x5_2, rfl, HA, HJ2, HO_0, HK, HB⟩ := hcut
  cases kq with
  | zero => exact absurd HA.out (by simp [num_Put.j0])
  | succ kj2 =>
    have H := HA.out
    clear HA
    simp only [num_Put.j0] at H
    have H' := Aside0.mk H
    clear H
    go_wp2
    go_loopg [0, 5] kj2 (fun kq v0 v5 w' => ∃ (x0_2 : List Int) (x5_2 : Int), v5 = .int .u64 x5_2 ∧ Aside0 (num_Put.l0 kq x0_2 x5_2 = some r) ∧ Aside0 (kq ≤ kj2) ∧ Aside0 (Kd.R (Kd.int .u8) 5 w' w0.heap.size (fun k_ => (P0_ k_ ∨ w.heap.size ≤ k_)) v0 x0_2) ∧ Aside0 (Kept w w' (fun k_ => P0_ k_)) ∧ Aside0 (Below w0.heap.size w0 w'))
    case atStart => exact ⟨(l0), (x5_2), (by first | rfl | (simp; done) | (simp [*]; done)), H', ⟨Nat.le_refl _⟩, ⟨by (with_reducible repeat (first | apply Kd.R_alloc | apply Kd.R_drewN | apply Kd.R_drew)); exact HO_0.out⟩, ⟨by repeat (first | (with_reducible first | exact HK.out | apply Kept.alloc | apply Kept.drewN | apply Kept.drew) | exact HK.out)⟩, ⟨by repeat (first | (with_reducible first | exact HB.out | apply below_alloc | apply pw_below_drewN | apply below_drew1) | exact HB.out)⟩⟩
    case round =>
     clear H'
     try clear p2
     try clear c4
     try clear c4b0
     try clear p2
     obtain ⟨x0_2, x5_2, rfl, HA, HK2, HO_0, HK, HB⟩ := hrel
     cases gk with
     | zero => exact absurd HA.out (by simp [num_Put.l0])
     | succ k2 =>
       have H := HA.out
       clear HA
       simp only [num_Put.l0] at H
       by_cases c5 : x5_2 > 127
       · rw [if_pos c5] at H
         have c5b0 : decide (127 < x5_2) = true := decide_eq_true c5
         clear c5
         by_cases c6 : x0_2.length < 140737488355328
         · rw [if_pos c6] at H
           have LMc6 := Aside0.mk c6
           clear c6
           obtain ⟨y215, hy215⟩ : ∃ y_ : List Int, y_ = (x0_2 ++ [Go.bits .or .u8 ((x5_2) % 256) 128]) := ⟨_, rfl⟩
           replace H : (num_Put.l0 k2 y215 (x5_2 / 128)) = some r := by first | (rw [hy215]; with_reducible exact H) | (have H2_ := (Option.bind_some _ _).symm.trans H; rw [hy215]; with_reducible exact H2_) | (have H2_ := (Option.bind_some _ _).symm.trans H; with_reducible exact H2_) | with_reducible exact H | (rw [hy215]; exact H) | exact H
           have Ny215 := Aside0.mk hy215
           clear hy215
           have H' := Aside0.mk H
           clear H
           go_wp2_with (first | ((with_reducible refine gate_builtin (b := .append) (xs := #[.tmp 15, .tmp 19]) rfl ?_); at_builtin; refine Kd.R_append (Kd.int .u8) (w0 := w0) w0.heap.size rfl (.tmp 15) (.tmp 19) 40 5 (.int .u8 0) 1 rfl Try.underlying40 info5 rfl (by decide) (by omega) u0 x0_2 (Go.bits .or .u8 ((x5_2) % 256) 128) [.int .u8 (Go.bits .or .u8 ((x5_2) % 256) 128)] (fun k_ => (P0_ k_ ∨ w.heap.size ≤ k_)) (fun _ => False) rfl rfl ?aP (fun _ hk => hk.elim) ?aF ?aO ?aB ?aS ?aL ?_; (case aP => exact rfl); (case aB => exact (by repeat (first | (with_reducible first | exact HB.out | apply below_alloc | apply pw_below_drewN | apply below_drew1) | exact HB.out))); (case aF => exact (fun k_ hk => (.inr (Nat.le_trans (by first | exact HK.out.1 | exact (show Kept w _ (fun k_ => P0_ k_) from by repeat (first | (with_reducible first | exact HK.out | apply Kept.alloc | apply Kept.drewN | apply Kept.drew) | exact HK.out)).1) hk)))); (case aO => exact (by (with_reducible repeat (first | apply Kd.R_alloc | apply Kd.R_drewN | apply Kd.R_drew)); exact HO_0.out)); (case aS => exact (below_size (by repeat (first | (with_reducible first | exact HB.out | apply below_alloc | apply pw_below_drewN | apply below_drew1) | exact HB.out)))); (case aL => have := LMc6.out; omega); intro v216 w7 ho hb hg hat; rw [← Ny215.out] at ho; have n0_ := Aside0.mk (hb); have n1_ := Aside0.mk (Kept.of_grown (S := (fun k_ => P0_ k_)) hg (by repeat (first | (with_reducible first | exact HK.out | apply Kept.alloc | apply Kept.drewN | apply Kept.drew) | exact HK.out)) (fun k_ e_ => (HO_0.out.1 k_ e_))); have n2_ := Aside0.mk (ho); clear HB; clear HK; clear HO_0; have HB := n0_; have HK := n1_; have HO217 := n2_; clear n0_ n1_ n2_; clear ho hb hg hat))
           go_roundg k2
           case measure => have := HJ2.out; have := HK2.out; omega
           case rel => exact ⟨(y215), (x5_2 / 128), (by first | rfl | (simp; done) | (simp [*]; done)), H', ⟨by have := HJ2.out; have := HK2.out; omega⟩, ⟨by (with_reducible repeat (first | apply Kd.R_alloc | apply Kd.R_drewN | apply Kd.R_drew)); exact HO217.out⟩, ⟨by repeat (first | (with_reducible first | exact HK.out | apply Kept.alloc | apply Kept.drewN | apply Kept.drew) | exact HK.out)⟩, ⟨by repeat (first | (with_reducible first | exact HB.out | apply below_alloc | apply pw_below_drewN | apply below_drew1) | exact HB.out)⟩⟩
         · rw [if_neg c6] at H
           exact absurd H (by simp)
       · rw [if_neg c5] at H
         have c5b0 : decide (127 < x5_2) = false := decide_eq_false c5
         clear c5
         by_cases c8 : x0_2.length < 140737488355328
         · rw [if_pos c8] at H
           have LMc8 := Aside0.mk c8
           clear c8
           obtain ⟨y218, hy218⟩ : ∃ y_ : List Int, y_ = (x0_2 ++ [(x5_2) % 256]) := ⟨_, rfl⟩
           replace H : (some y218) = some r := by first | (rw [hy218]; with_reducible exact H) | (have H2_ := (Option.bind_some _ _).symm.trans H; rw [hy218]; with_reducible exact H2_) | (have H2_ := (Option.bind_some _ _).symm.trans H; with_reducible exact H2_) | with_reducible exact H | (rw [hy218]; exact H) | exact H
           have Ny218 := Aside0.mk hy218
           clear hy218
           obtain rfl := Option.some.inj H
           go_wp2_with (first | ((with_reducible refine gate_builtin (b := .append) (xs := #[.tmp 23, .tmp 26]) rfl ?_); at_builtin; refine Kd.R_append (Kd.int .u8) (w0 := w0) w0.heap.size rfl (.tmp 23) (.tmp 26) 40 5 (.int .u8 0) 1 rfl Try.underlying40 info5 rfl (by decide) (by omega) u0 x0_2 ((x5_2) % 256) [.int .u8 ((x5_2) % 256)] (fun k_ => (P0_ k_ ∨ w.heap.size ≤ k_)) (fun _ => False) rfl rfl ?aP (fun _ hk => hk.elim) ?aF ?aO ?aB ?aS ?aL ?_; (case aP => exact rfl); (case aB => exact (by repeat (first | (with_reducible first | exact HB.out | apply below_alloc | apply pw_below_drewN | apply below_drew1) | exact HB.out))); (case aF => exact (fun k_ hk => (.inr (Nat.le_trans (by first | exact HK.out.1 | exact (show Kept w _ (fun k_ => P0_ k_) from by repeat (first | (with_reducible first | exact HK.out | apply Kept.alloc | apply Kept.drewN | apply Kept.drew) | exact HK.out)).1) hk)))); (case aO => exact (by (with_reducible repeat (first | apply Kd.R_alloc | apply Kd.R_drewN | apply Kd.R_drew)); exact HO_0.out)); (case aS => exact (below_size (by repeat (first | (with_reducible first | exact HB.out | apply below_alloc | apply pw_below_drewN | apply below_drew1) | exact HB.out)))); (case aL => have := LMc8.out; omega); intro v219 w9 ho hb hg hat; rw [← Ny218.out] at ho; have n0_ := Aside0.mk (hb); have n1_ := Aside0.mk (Kept.of_grown (S := (fun k_ => P0_ k_)) hg (by repeat (first | (with_reducible first | exact HK.out | apply Kept.alloc | apply Kept.drewN | apply Kept.drew) | exact HK.out)) (fun k_ e_ => (HO_0.out.1 k_ e_))); have n2_ := Aside0.mk (ho); clear HB; clear HK; clear HO_0; have HB := n0_; have HK := n1_; have HO220 := n2_; clear n0_ n1_ n2_; clear ho hb hg hat))
           go_ret
           exact ⟨_, by first | rfl | (simp [errW_none, errW_some] <;> rfl) | (simp [*, errW_none, errW_some] <;> rfl), by (with_reducible repeat (first | apply Kd.R_alloc | apply Kd.R_drewN | apply Kd.R_drew)); exact HO220.out, by repeat (first | (with_reducible first | exact HB.out | apply below_alloc | apply pw_below_drewN | apply below_drew1) | exact HB.out), by repeat (first | (with_reducible first | exact HK.out | apply Kept.alloc | apply Kept.drewN | apply Kept.drew) | exact HK.out)⟩
         · rw [if_neg c8] at H
           exact absurd H (by simp)
end Go.Proofs.Ytkhcmddeeodbkaa.XSor
namespace Go.Proofs.Ytkhcmddeeodbkaa.XSor
open Go.RowKit Go.Proofs.Ytkhcmddeeodbkaa.G Go.Proofs.YtkhcmddeeodbkaaW.PrintWords Go.Proofs.YtkhcmddeeodbkaaW.PrintLast Go.Proofs.YtkhcmddeeodbkaaW.PrintMore
attribute [local go_sem] max2_int min2_int max_two min_two max_three min_three max_four min_four
def num_PutText.f (k : Nat) (l0 : List Int) (a1 : ByteArray) : Option (List Int) := (num_Put.f k l0 (a1.size : Int)).bind fun t221 => (if t221.length + a1.size < 140737488355328 then (some (t221 ++ bytesOf a1)) else (none))
theorem num_PutText.mono : ∀ a0 a1 k, LeO (num_PutText.f k a0 a1) (num_PutText.f (k + 1) a0 a1) := by
 intro a0 a1 k
 unfold num_PutText.f
 repeat' first
     | (with_reducible exact num_Put.mono _ _ _)
     | (with_reducible exact LeO.refl _)
     | (with_reducible exact LeO.none _)
     | (with_reducible refine LeO.ite ?_ ?_)
     | (with_reducible refine LeO.bind ?_ (fun _ => ?_))
     | exact num_Put.mono _ _ _
     | exact LeO.none _
     | refine LeO.ite ?_ ?_
     | refine LeO.bind ?_ (fun _ => ?_)
set_option maxHeartbeats 8000000 in
set_option maxRecDepth 100000 in
theorem num_PutText.calls (k : Nat) (P0_ : Nat → Prop) (u9000_ : Value) (l0 : List Int) (a1 : ByteArray) (r : List Int) (w0 w : World) (hB : Below w0.heap.size w0 w) (ho0 : Kd.R (Kd.int .u8) 5 w w0.heap.size P0_ u9000_ l0) (h : num_PutText.f k l0 a1 = some r) :
    Calls Try.prog 70 #[u9000_, .string a1] w fun e w' => ∃ v0_ : Value, e = .returned (v0_) ∧ Kd.R (Kd.int .u8) 5 w' w0.heap.size (fun k_ => (P0_ k_ ∨ w.heap.size ≤ k_)) v0_ r ∧ Below w0.heap.size w0 w' ∧ Kept w w' (fun k_ => P0_ k_) := by
 have HO0 := Aside0.mk (show Kd.R (Kd.int .u8) 5 w w0.heap.size (fun k_ => (P0_ k_ ∨ w.heap.size ≤ k_)) u9000_ l0 from Kd.R_mono ho0 (fun k_ hk => (.inl hk)))
 have HK := Aside0.mk (Kept.refl w (fun k_ => P0_ k_))
 have HW0 := Aside0.mk hB.size
 have HB := Aside0.mk hB
 clear hB
 have H : ((num_Put.f k l0 (a1.size : Int)).bind fun t221 => (if t221.length + a1.size < 140737488355328 then (some (t221 ++ bytesOf a1)) else (none))) = some r := h
 clear h
 replace H := Option.bind_eq_some_iff.mp H
 obtain ⟨t221, A30, H⟩ := H
 replace H : (if t221.length + a1.size < 140737488355328 then (some (t221 ++ bytesOf a1)) else (none)) = some r := H
 have A3 := Aside0.mk A30
 clear A30
 by_cases c4 : t221.length + a1.size < 140737488355328
 · rw [if_pos c4] at H
   have LMc4 := Aside0.mk c4
   clear c4
   obtain ⟨y224, hy224⟩ : ∃ y_ : List Int, y_ = (t221 ++ bytesOf a1) := ⟨_, rfl⟩
   replace H : (some y224) = some r := by first | (rw [hy224]; with_reducible exact H) | (have H2_ := (Option.bind_some _ _).symm.trans H; rw [hy224]; with_reducible exact H2_) | (have H2_ := (Option.bind_some _ _).symm.trans H; with_reducible exact H2_) | with_reducible exact H | (rw [hy224]; exact H) | exact H
   have Ny224 := Aside0.mk hy224
   clear hy224
   obtain rfl := Option.some.inj H
   obtain ⟨Ao5, co5, eo5⟩ := Kd.R_slice HO0.out
   subst eo5
   go_enter Try.func70, Try.ntmps70
   go_wp2_with (first | ((with_reducible refine gate_callee (f := 51) rfl ?_); refine goesL_ (some 8) rfl rfl Try.func51 (by kernel_rfl) rfl #[.slice Ao5 l0.length co5, .int .i64 (a1.size : Int)] rfl (by (try simp only [List.map_toArray, List.map_cons, List.map_nil]); first | done | rfl | (simp only [List.length_drop, List.length_take]; rfl)) ?_; (with_reducible refine (num_Put.calls k (fun k_ => some k_ = (.slice Ao5 l0.length co5 : Value).ownBlock) (.slice Ao5 l0.length co5) l0 (a1.size : Int) t221 w0 _ ?side1 ?side2 A3.out).mono ?_); (case side1 => repeat (first | (with_reducible first | exact HB.out | apply below_alloc | apply pw_below_drewN | apply below_drew1) | exact HB.out)); (case side2 => exact Kd.R_tight rfl HO0.out); rintro e w6 ⟨v222, rfl, ho0, hb, hkp⟩; refine ⟨_, rfl, ?_⟩; have n0_ := Aside0.mk (Kd.R_mono (ok' := fun k_ => (P0_ k_ ∨ w.heap.size ≤ k_)) ho0 (fun k_ hk_ => Or.elim hk_ (fun hs_ => (HO0.out.1 k_ (hs_).symm)) (fun hn_ => (.inr (Nat.le_trans (by first | exact HK.out.1 | exact (show Kept w _ (fun k_ => P0_ k_) from by repeat (first | (with_reducible first | exact HK.out | apply Kept.alloc | apply Kept.drewN | apply Kept.drew) | exact HK.out)).1) hn_))))); have n1_ := Aside0.mk (Kept.then_ (S := (fun k_ => P0_ k_)) (by repeat (first | (with_reducible first | exact HK.out | apply Kept.alloc | apply Kept.drewN | apply Kept.drew) | exact HK.out)) hkp (fun k_ hs_ => (fun e_ => (HO0.out.1 k_ e_.symm)) hs_)); have n2_ := Aside0.mk (hb); clear HK; clear HB; clear HO0; have HO223 := n0_; have HK := n1_; have HB := n2_; clear n0_ n1_ n2_; (try clear hb); (try clear hkp); (try clear ho0)) | (at_builtin; refine Kd.y_append_str (w0 := w0) w0.heap.size rfl (.tmp 8) _ 40 9 5 rfl Try.underlying40 Try.underlying9 info5 v222 t221 a1 (fun k_ => (P0_ k_ ∨ w.heap.size ≤ k_)) rfl rfl ?aF ?aO ?aB ?aS ?aL ?_; (case aB => exact (by repeat (first | (with_reducible first | exact HB.out | apply below_alloc | apply pw_below_drewN | apply below_drew1) | exact HB.out))); (case aF => exact (fun k_ hk => (.inr (Nat.le_trans (by first | exact HK.out.1 | exact (show Kept w _ (fun k_ => P0_ k_) from by repeat (first | (with_reducible first | exact HK.out | apply Kept.alloc | apply Kept.drewN | apply Kept.drew) | exact HK.out)).1) hk)))); (case aO => exact (by (with_reducible repeat (first | apply Kd.R_alloc | apply Kd.R_drewN | apply Kd.R_drew)); exact HO223.out)); (case aS => exact (below_size (by repeat (first | (with_reducible first | exact HB.out | apply below_alloc | apply pw_below_drewN | apply below_drew1) | exact HB.out)))); (case aL => have := LMc4.out; omega); intro v225 w7 ho hb hg hat; rw [← Ny224.out] at ho; have n0_ := Aside0.mk (hb); have n1_ := Aside0.mk (Kept.of_grown (S := (fun k_ => P0_ k_)) hg (by repeat (first | (with_reducible first | exact HK.out | apply Kept.alloc | apply Kept.drewN | apply Kept.drew) | exact HK.out)) (fun k_ e_ => (HO223.out.1 k_ e_))); have n2_ := Aside0.mk (ho); clear HB; clear HK; clear HO223; have HB := n0_; have HK := n1_; have HO226 := n2_; clear n0_ n1_ n2_; clear ho hb hg hat))
   go_ret
   exact ⟨_, by first | rfl | (simp [errW_none, errW_some] <;> rfl) | (simp [*, errW_none, errW_some] <;> rfl), by (with_reducible repeat (first | apply Kd.R_alloc | apply Kd.R_drewN | apply Kd.R_drew)); exact HO226.out, by repeat (first | (with_reducible first | exact HB.out | apply below_alloc | apply pw_below_drewN | apply below_drew1) | exact HB.out), by repeat (first | (with_reducible first | exact HK.out | apply Kept.alloc | apply Kept.drewN | apply Kept.drew) | exact HK.out)⟩
 · rw [if_neg c4] at H
   exact absurd H (by simp)
end Go.Proofs.Ytkhcmddeeodbkaa.XSor
