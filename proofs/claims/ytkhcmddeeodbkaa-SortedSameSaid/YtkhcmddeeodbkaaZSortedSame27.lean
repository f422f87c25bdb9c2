import Derived.Test.YtkhcmddeeodbkaaZSortedSame26
-- Own texts and, of the words that the kit's print program wrote for this claim, those that are needed here: put together by wip/prune.py.
set_option linter.unusedSimpArgs false
set_option linter.unusedVariables false
namespace Go.Proofs.Ytkhcmddeeodbkaa.Q
open Go.RowKit Go.Proofs.YtkhcmddeeodbkaaW.PrintWords Go.Proofs.YtkhcmddeeodbkaaW.PrintMore Go.Proofs.Ytkhcmddeeodbkaa.G Go.Proofs.Ytkhcmddeeodbkaa.XSor Go.Proofs.Ytkhcmddeeodbkaa.GL
def Odd (a : Int) : Prop := a = 192 ∨ (248 ≤ a ∧ a < 256)
theorem odd_dec {l : List Int} (hl : 0 < l.length) {a b : Int} (ha : Odd a) : dec (l ++ [a, b]) = dec l := by
  cases h : (dec l).2.2 with
  | true => exact dec_append h hl _
  | false =>
    rw [dec_bad h]
    rcases dec_cases (l ++ [a, b]) with h1 | ⟨hok, h1⟩
    · exact h1
    · exfalso
      have hna : ¬ Cont a := by unfold Cont; rcases ha with rfl | ⟨h2, h3⟩ <;> omega
      have hw : (dec (l ++ [a, b])).2.1 ≤ l.length := by
        rcases Nat.lt_or_ge l.length (dec (l ++ [a, b])).2.1 with hlt | hge
        · exfalso
          have hg : (l ++ [a, b]).getD l.length 0 = a := by rw [List.getD_eq_getElem?_getD, List.getElem?_append_right (Nat.le_refl _), Nat.sub_self]; rfl
          have h4 : l.length = 1 ∨ l.length = 2 ∨ l.length = 3 := by
            rcases h1 with h1 | h1 | h1 | h1 <;> omega
          rcases h1 with h1 | h1 | h1 | h1
          · omega
          · rw [show l.length = 1 by omega] at hg; rw [hg] at h1; exact hna h1.2.2.2.2.1
          · rcases h4 with h4 | h4 | h4
            · rw [h4] at hg; rw [hg] at h1; exact hna h1.2.2.2.2.1
            · rw [h4] at hg; rw [hg] at h1; exact hna h1.2.2.2.2.2.1
            · omega
          · rcases h4 with h4 | h4 | h4
            · rw [h4] at hg; rw [hg] at h1; exact hna h1.2.2.2.2.1
            · rw [h4] at hg; rw [hg] at h1; exact hna h1.2.2.2.2.2.1
            · rw [h4] at hg; rw [hg] at h1; exact hna h1.2.2.2.2.2.2.1
        · exact hge
      have h2 := dec_take hok (by rw [List.length_append]; omega) (l.drop (dec (l ++ [a, b])).2.1)
      rw [List.take_append_of_le_length hw, List.take_append_drop] at h2
      rw [h2] at h
      rw [h] at hok
      cases hok
theorem odd_two {a b : Int} (ha : Odd a) (hb : Odd b) : dec [a, b] = bad := by
  rcases dec_cases [a, b] with h | ⟨_, h | h | h | h⟩
  · exact h
  · have h2 : a < 128 := h.2.1
    rcases ha with rfl | ha <;> omega
  · have h2 : Cont b := h.2.2.2.2.1
    unfold Cont at h2
    rcases hb with rfl | hb <;> omega
  · have h2 : 3 ≤ 2 := h.2.1
    omega
  · have h2 : 4 ≤ 2 := h.2.1
    omega
theorem odd_one {b : Int} (hb : Odd b) : dec [b] = bad := by
  rcases dec_cases [b] with h | ⟨_, h | h | h | h⟩
  · exact h
  · have h2 : b < 128 := h.2.1
    rcases hb with rfl | hb <;> omega
  · have h2 : 2 ≤ 1 := h.2.1
    omega
  · have h2 : 3 ≤ 1 := h.2.1
    omega
  · have h2 : 4 ≤ 1 := h.2.1
    omega
theorem odd_ds {a b : Int} (ha : Odd a) (hb : Odd b) : ∀ (n : Nat) (l : List Int), l.length ≤ n → ds (l ++ [a, b]) = ds l ++ [bad, bad] := by
  intro n
  induction n with
  | zero =>
    intro l hl
    obtain rfl := List.eq_nil_of_length_eq_zero (Nat.le_zero.1 hl)
    rw [List.nil_append, ds_nil, List.nil_append, ds_cons (by simp), odd_two ha hb]
    show bad :: ds [b] = _
    rw [ds_cons (by simp), odd_one hb]
    show bad :: bad :: ds [] = _
    rw [ds_nil]
  | succ n ih =>
    intro l hl
    by_cases h0 : l = []
    · subst h0
      exact ih [] (Nat.zero_le _)
    · have hpos : 0 < l.length := List.length_pos_iff.2 h0
      have hw := dec_width l
      have hf := dec_fits hpos
      rw [ds_cons (by simp), odd_dec hpos ha, ds_cons h0, List.drop_append_of_le_length hf, ih _ (by rw [List.length_drop]; omega), List.cons_append]
def keyO (s : ByteArray) (a b : Int) : ByteArray := s ++ strOfNums [a, b]
theorem odd_byt {a b : Int} (ha : Odd a) (hb : Odd b) : Byt [a, b] := by
  intro x hx
  rcases List.mem_cons.1 hx with rfl | hx
  · rcases ha with rfl | ha <;> omega
  · rw [List.mem_singleton] at hx
    subst hx
    rcases hb with rfl | hb <;> omega
theorem keyO_bytes (s : ByteArray) {a b : Int} (ha : Odd a) (hb : Odd b) : bytesOf (keyO s a b) = bytesOf s ++ [a, b] := by
  unfold keyO
  rw [bytesOf_append, bytesOf_str (odd_byt ha hb)]
theorem keyO_size (s : ByteArray) {a b : Int} (ha : Odd a) (hb : Odd b) : (keyO s a b).size = s.size + 2 := by
  rw [size_of_bytes, keyO_bytes s ha hb, List.length_append, ← size_of_bytes]
  rfl
theorem keyO_H (s : ByteArray) {a b : Int} (ha : Odd a) (hb : Odd b) : H (keyO s a b) = hashR ((D s ++ [bad, bad]).map (·.1)) := by
  unfold H D
  rw [keyO_bytes s ha hb, odd_ds ha hb _ _ (Nat.le_refl _)]
theorem keyO_inj (s : ByteArray) {a b a' b' : Int} (ha : Odd a) (hb : Odd b) (ha' : Odd a') (hb' : Odd b') (h : keyO s a b = keyO s a' b') : a = a' ∧ b = b' := by
  have h2 := congrArg bytesOf h
  rw [keyO_bytes s ha hb, keyO_bytes s ha' hb'] at h2
  have h3 := List.append_cancel_left h2
  injection h3 with h4 h5
  injection h5 with h6 _
  exact ⟨h4, h6⟩
def oA (i : Nat) : Int := 248 + ((i % 8 : Nat) : Int)
def oB (i : Nat) : Int := 248 + ((i / 8 : Nat) : Int)
theorem oA_odd (i : Nat) : Odd (oA i) := .inr ⟨by unfold oA; omega, by unfold oA; omega⟩
theorem oB_odd {i : Nat} (h : i < 64) : Odd (oB i) := .inr ⟨by unfold oB; omega, by unfold oB; omega⟩
def kS (s : ByteArray) (i : Nat) : ByteArray := keyO s (oA i) (oB i)
def rS (s : ByteArray) (i : Nat) : Rc := ⟨kS s i, false, ⟨1, (i : Int), ⟨#[]⟩⟩⟩
def rowS (s : ByteArray) (n : Nat) : List Rc := (List.range n).map (rS s)
theorem rowS_succ (s : ByteArray) (n : Nat) : rowS s (n + 1) = rowS s n ++ [rS s n] := by unfold rowS; rw [List.range_succ, List.map_append]; rfl
theorem rowS_len (s : ByteArray) (n : Nat) : (rowS s n).length = n := by unfold rowS; simp
theorem kS_inj (s : ByteArray) {i j : Nat} (hi : i < 64) (hj : j < 64) (h : kS s i = kS s j) : i = j := by
  have h1 := keyO_inj s (oA_odd i) (oB_odd hi) (oA_odd j) (oB_odd hj) h
  unfold oA oB at h1
  omega
theorem rS_good (s : ByteArray) (hs : s.size ≤ 12) {i : Nat} (hi : i < 64) : cutR (rS s i) = rS s i ∧ goodR (rS s i) = true := by
  have hz := keyO_size s (oA_odd i) (oB_odd hi)
  refine ⟨?_, ?_⟩
  · unfold cutR
    rw [show cutS 20 (rS s i).f0 = (rS s i).f0 by unfold cutS; rw [if_neg (by show ¬ ((kS s i).size : Int) > _; unfold kS; omega)], show cutS 30 (rS s i).f2.f2 = (rS s i).f2.f2 from rfl]
  · unfold goodR
    rw [Bool.and_eq_true, Bool.and_eq_true]
    refine ⟨rfl, ?_, ?_⟩
    · exact decide_eq_true (by show 1 ≤ (kS s i).size ∧ (kS s i).size ≤ 16; unfold kS; omega)
    · show mayV 1 (i : Int) ⟨#[]⟩ = true
      exact decide_eq_true (.inl ⟨rfl, rfl⟩)
theorem inL_rowS (s : ByteArray) (hs : s.size ≤ 12) {n : Nat} (hn : n ≤ 20) : inL (rowS s n) = rowS s n := by
  unfold inL recsL
  rw [List.take_of_length_le (by rw [rowS_len]; omega)]
  have h1 : (rowS s n).map cutR = rowS s n := by
    conv => rhs; rw [← List.map_id (rowS s n)]
    refine List.map_congr_left (fun x hx => ?_)
    unfold rowS at hx
    obtain ⟨i, hi, rfl⟩ := List.mem_map.1 hx
    exact (rS_good s hs (by have := List.mem_range.1 hi; omega)).1
  rw [h1]
  refine List.filter_eq_self.2 (fun x hx => ?_)
  unfold rowS at hx
  obtain ⟨i, hi, rfl⟩ := List.mem_map.1 hx
  exact (rS_good s hs (by have := List.mem_range.1 hi; omega)).2
theorem rowS_one (s : ByteArray) {n : Nat} (hn : n ≤ 20) : (rowS s n).Pairwise (fun a b => a.f0 ≠ b.f0) := by
  unfold rowS
  rw [List.pairwise_map]
  refine List.Pairwise.imp_of_mem (fun {a b} ha hb h => ?_) List.pairwise_lt_range
  have h1 := List.mem_range.1 ha
  have h2 := List.mem_range.1 hb
  intro e
  have := kS_inj s (by omega) (by omega) e
  omega
theorem ded_id : ∀ L : List Rc, L.Pairwise (fun a b => a.f0 ≠ b.f0) → dedK L = L := by
  refine rev_ind (fun _ => rfl) (fun L x ih h => ?_)
  have h2 := List.pairwise_append.1 h
  rw [dedK_snoc, ih h2.1]
  unfold addK
  rw [if_neg]
  intro hh
  obtain ⟨r, hr, e⟩ := (hasK_iff _ _).1 hh
  exact h2.2.2 r hr x (List.mem_singleton.2 rfl) e
def hS (s : ByteArray) : Int := hashR ((D s ++ [bad, bad]).map (·.1))
theorem pS_H (s : ByteArray) (hs : s.size ≤ 12) {n : Nat} (hn : n ≤ 20) : ∀ p ∈ pairsL (rowS s n), H p.f0 = hS s := by
  intro p hp
  unfold pairsL at hp
  obtain ⟨x, hx, rfl⟩ := List.mem_map.1 hp
  have h1 := dedK_mem _ x ((ordK_mem _ x).1 hx)
  rw [inL_rowS s hs hn] at h1
  unfold rowS at h1
  obtain ⟨i, hi, rfl⟩ := List.mem_map.1 h1
  exact keyO_H s (oA_odd i) (oB_odd (by have := List.mem_range.1 hi; omega))
theorem pS_len (s : ByteArray) (hs : s.size ≤ 12) {n : Nat} (hn : n ≤ 20) : (pairsL (rowS s n)).length = n := by
  unfold pairsL
  rw [List.length_map, ordK_len, inL_rowS s hs hn, ded_id _ (rowS_one s hn), rowS_len]
theorem pS_like (s : ByteArray) (hs : s.size ≤ 12) {n : Nat} (hn : n ≤ 20) (h2 : 2 ≤ n) {k : ByteArray} (hk : H k = hS s) : (likeL (pairsL (rowS s n)) k).length = n := by
  have hall := pS_H s hs hn
  have hlen := pS_len s hs hn
  obtain ⟨p, hp⟩ : ∃ p, p ∈ pairsL (rowS s n) := ⟨_, List.getElem_mem (show 0 < _ by omega)⟩
  rw [like_of (pairsL_may _).sortH (pairsL_may _).1 (by rw [hk, ← hall p hp]; exact (hsL_inv _ (pairsL_may _).sortH).2.1 p hp)]
  unfold ofH
  rw [List.filter_eq_self.2 (fun q hq => decide_eq_true (by rw [hall q hq, hk])), hlen]
theorem pS_val (s : ByteArray) (hs : s.size ≤ 12) {n : Nat} (hn : n ≤ 20) {i : Nat} (hi : i < n) : valP (pairsL (rowS s n)) (kS s i) = (⟨1, (i : Int), ⟨#[]⟩⟩, true) := by
  rw [val_pairs, inL_rowS s hs hn, find_uniq (k := kS s i) (y := rS s i) (rowS_one s hn) (List.mem_map.2 ⟨i, List.mem_range.2 hi, rfl⟩) rfl]
  rfl
theorem pS_no (s : ByteArray) (hs : s.size ≤ 12) {n : Nat} (hn : n ≤ 20) : valP (pairsL (rowS s n)) (keyO s 192 192) = (⟨0, 0, ⟨#[]⟩⟩, false) := by
  rw [val_pairs, inL_rowS s hs hn, find_none (fun y hy e => by
    unfold rowS at hy
    obtain ⟨i, hi, rfl⟩ := List.mem_map.1 hy
    have h1 := keyO_inj s (oA_odd i) (oB_odd (by have := List.mem_range.1 hi; omega)) (.inl rfl) (.inl rfl) e
    unfold oA at h1
    omega)]
end Go.Proofs.Ytkhcmddeeodbkaa.Q
namespace Go.Proofs.Ytkhcmddeeodbkaa.GL
open Go.RowKit Go.Proofs.YtkhcmddeeodbkaaW.PrintWords Go.Proofs.YtkhcmddeeodbkaaW.PrintLast Go.Proofs.YtkhcmddeeodbkaaW.PrintMore Go.Proofs.Ytkhcmddeeodbkaa.Q Go.Proofs.Ytkhcmddeeodbkaa.XSor Go.Proofs.Ytkhcmddeeodbkaa.G
theorem appRc {ops : Array Oper} {rest : List Oper} {o : Oper} {a : Act} {Q : Exit → Act → World → Prop} {w0 W : World} (hgd : o.guard = none) (s x : Operand)
    (ho : o.op = .call { callee := .builtin .append, args := #[s, x], argTypes := #[39, 39] }) (v : Value) (xs ys : List Rc) (A : Option Addr) (m c : Nat) (hs : a.eval s = v) (hx : a.eval x = .slice A m c)
    (HO : Kd.R k27 27 W w0.heap.size (fun _ => True) v xs) (HR : Kd.C k27 W A m ys) (HB : Below w0.heap.size w0 W) (hl : xs.length + m ≤ 1000000)
    (h : ∀ v1 w1, Kd.R k27 27 w1 w0.heap.size (fun _ => True) v1 (xs ++ ys) → Below w0.heap.size w0 w1 → wpList Try.prog ops Q rest (a.put o.dst v1) w1) : wpList Try.prog ops Q (o :: rest) a W :=
  Kd.R_append_rows k27 (w0 := w0) w0.heap.size hgd s x 39 27 (.agg #[(.string ⟨#[]⟩), .bool false, (.int .i64 0), (.int .i64 0), (.string ⟨#[]⟩)]) 56 ho Try.underlying39 info27 (by rfl) (by decide) (by omega) v xs ys A m c (fun _ => True) (fun _ => False) hs hx HO HR (fun _ _ h => h) (fun _ h => h.elim) (fun _ _ => trivial) HB HB.size (by omega) (fun v1 w1 h1 h2 _ _ => h v1 w1 h1 h2)
theorem lit1R (W : World) (base : Nat) (x : Rc) : Reps (Kd.M k27 W base (fun _ => True)) k27.sz [x] [.string x.f0, .bool x.f1, .int .i64 x.f2.f0, .int .i64 x.f2.f1, .string x.f2.f2] := by
  refine ⟨rfl, fun j p hj => ?_⟩
  rcases j with _ | j
  · obtain rfl : x = p := by simpa using hj
    exact k27_mkM W base _ x
  · simp at hj
theorem new_p {w : World} {A : Option Addr} {n c : Nat} {l : List Rc} (hn : n = (pairsL l).length) (hC : Kd.C k30 w A n (pairsL l)) (hc : n ≤ c) :
    Calls Try.prog 13 #[.slice A n c] w fun e w' => ∃ g, e = .returned (.tuple #[.pointer (some ⟨g, 0, none⟩), .int .i64 0]) ∧ SO w' g (pairsL l) ∧ Below w.heap.size w w' := by
  refine (st_New hn hC hc (fun p hp => by have := pairsL_sm (l := l) p hp; omega)).mono ?_
  rintro e w' ⟨hb, ⟨_, g, h, hs⟩ | ⟨h, _⟩⟩
  · exact ⟨g, h, hs, hb⟩
  · exact absurd (pairsL_may l) h
theorem get_v {W : World} {g : Nat} {L : List Pr} {k : ByteArray} {u : Rw} {b : Bool} (h : SO W g L) (hk : k.size < 17592186044416) (hv : valP L k = (u, b)) : Calls Try.prog 19 #[.pointer (some ⟨g, 0, none⟩), .string k] W fun e w' => e = .returned (.tuple #[.agg #[.int .i64 u.f0, .int .i64 u.f1, .string u.f2], .bool b]) ∧ Below W.heap.size W w' := by
  have h1 := st_Get (k := k) h hk
  rw [hv] at h1
  exact h1
end Go.Proofs.Ytkhcmddeeodbkaa.GL
namespace Go.Proofs.Ytkhcmddeeodbkaa.GL
open Go.RowKit Go.Proofs.YtkhcmddeeodbkaaW.PrintWords Go.Proofs.YtkhcmddeeodbkaaW.PrintLast Go.Proofs.YtkhcmddeeodbkaaW.PrintMore Go.Proofs.Ytkhcmddeeodbkaa.Q Go.Proofs.Ytkhcmddeeodbkaa.XSor Go.Proofs.Ytkhcmddeeodbkaa.G
theorem cut_p {s : ByteArray} (m : Nat) (w : World) : Calls Try.prog 12 #[.string s, .int .i64 (m : Int)] w fun e w' => e = .returned (.string (cutS m s)) ∧ Below w.heap.size w w' :=
  (loesslaw3_Cut.calls s (m : Int) _ w (cutS_eq m s)).mono (fun e w' ⟨h1, ⟨n, h2⟩⟩ => ⟨h1, by rw [h2]; exact pw_below_drewN (Below.refl _ _) n⟩)
theorem lit2B (W : World) (base : Nat) (a b : Int) : Reps ((Kd.int .u8).M W base (fun _ => True)) (Kd.int .u8).sz [a, b] [.int .u8 a, .int .u8 b] := by
  refine ⟨rfl, fun j p hj => ?_⟩
  rcases j with _ | _ | j
  · obtain rfl : a = p := by simpa using hj
    rfl
  · obtain rfl : b = p := by simpa using hj
    rfl
  · simp at hj
theorem kS_eq (s : ByteArray) (i : Nat) : s ++ strOfNums [248 + (i : Int) % 8, 248 + (i : Int) / 8] = kS s i := by
  unfold kS keyO oA oB
  rw [Int.natCast_emod, Int.natCast_ediv]
  rfl
theorem two_size {a b : Int} (ha : Odd a) (hb : Odd b) : (strOfNums [a, b]).size = 2 := by
  rw [size_of_bytes, bytesOf_str (odd_byt ha hb)]
  rfl
theorem reads_v {W : World} {g : Nat} {L : List Pr} {k : ByteArray} {m : Nat} (h : SO W g L) (hk : k.size < 17592186044416) (hv : (likeL L k).length = m) : Calls Try.prog 20 #[.pointer (some ⟨g, 0, none⟩), .string k] W fun e w' => e = .returned (.int .i64 m) ∧ Below W.heap.size W w' := by
  have h1 := st_Reads (k := k) h hk
  rw [hv] at h1
  exact h1
theorem len_v {W : World} {g : Nat} {L : List Pr} {m : Nat} (h : SO W g L) (hv : L.length = m) : Calls Try.prog 18 #[.pointer (some ⟨g, 0, none⟩)] W fun e w' => e = .returned (.int .i64 m) ∧ W = w' := by
  have h1 := st_Len h
  rw [hv] at h1
  exact h1
set_option maxRecDepth 1000000 in
set_option maxHeartbeats 8000000 in
theorem SortedSame.core (s0 : ByteArray) (n0 : Int) (w : World) :
    Calls Try.prog 4 #[.string s0, .int .i64 n0] w fun e w' => e = .returned (.bool true) ∧ Below w.heap.size w w' := by
  have HB := Aside0.mk (Below.refl w.heap.size w)
  obtain ⟨s, hs⟩ : ∃ s, s = cutS 12 s0 := ⟨_, rfl⟩
  have HCUT := Aside0.mk (cut_p (s := s0) 12)
  have HS12 := Aside0.mk (cutS_size 12 s0)
  rw [← hs] at HCUT HS12
  clear hs
  go_enter Try.func4, Try.ntmps4
  go_upto_region 5 with (first
    | (go_at_call 10; (with_reducible refine (st_begun _).mono ?_); rintro e w1 ⟨rfl, hb⟩; have n1_ := Aside0.mk (below_step HB.out hb); clear HB; have HB := n1_; clear n1_; clear hb)
    | (go_at_call 12; refine (HCUT.out _).mono ?_; rintro e w2 ⟨rfl, hb⟩; have n1_ := Aside0.mk (below_step HB.out hb); clear HB; have HB := n1_; clear n1_; clear hb))
  by_cases hn2 : n0 < 2
  · go_wp2
    go_ret
    exact ⟨rfl, HB.out⟩
  by_cases hn20 : 20 < n0
  · have h1 : ¬ n0 < 2 := hn2
    go_wp2
    all_goals (go_ret; exact ⟨rfl, HB.out⟩)
  obtain ⟨n, rfl⟩ := Int.eq_ofNat_of_zero_le (show 0 ≤ n0 by omega)
  have HN2 := Aside0.mk (show 2 ≤ n by omega)
  have HN20 := Aside0.mk (show n ≤ 20 by omega)
  have hd1 : decide ((n : Int) < 2) = false := decide_eq_false hn2
  have hd2 : decide (20 < (n : Int)) = false := decide_eq_false hn20
  have hle1 : (2 : Int) ≤ (n : Int) := by omega
  have hle2 : (n : Int) ≤ 20 := by omega
  have hsz : (s.size : Int) ≤ 12 := by have := HS12.out; omega
  clear hn2 hn20
  go_wp2
  go_loopw [6, 7] (fun v6 v7 wr => ∃ (i : Nat), v7 = .int .i64 i ∧ i ≤ n ∧ Aside0 (Kd.R k27 27 wr w2.heap.size (fun _ => True) v6 (rowS s i)) ∧ Aside0 (Below w2.heap.size w2 wr)) (fun _ v _ => n - (intOf v).toNat)
  case atStart => exact ⟨0, by first | rfl | go_num, Nat.zero_le _, ⟨Kd.R_nil _ _ _ _ _⟩, ⟨Below.refl _ _⟩⟩
  case round =>
    obtain ⟨i, rfl, hi, HO, HW⟩ := hrel
    by_cases hlt : i < n
    · have hltz2 : (i : Int) < (n : Int) := by omega
      have hl1 : decide ((i : Int) < (n : Int)) = true := decide_eq_true (by omega)
      have hl2 := decide_eq_true hlt
      have HLT := Aside0.mk hlt
      have hi0 : (0 : Int) ≤ (i : Int) := by omega
      clear hlt hi
      have HKI := Aside0.mk (kS_eq s i)
      have HT2 := Aside0.mk (show (strOfNums [248 + (i : Int) % 8, 248 + (i : Int) / 8]).size = 2 by
        refine two_size (.inr ?_) (.inr ?_) <;> (have := HLT.out; have := HN20.out; omega))
      obtain ⟨xs, hxs⟩ : ∃ l, l = [248 + (i : Int) % 8, 248 + (i : Int) / 8] := ⟨_, rfl⟩
      obtain ⟨t, ht⟩ : ∃ t, t = strOfNums [248 + (i : Int) % 8, 248 + (i : Int) / 8] := ⟨_, rfl⟩
      have HTE := Aside0.mk ht
      rw [← ht] at HKI HT2
      have hadd : (s.size : Int) + (t.size : Int) ≤ 9223372036854775807 := by have := HT2.out; omega
      clear ht hxs
      go_wp2_with (first
        | ((with_reducible refine gate_dst (N := 42) rfl ?_); refine Kd.R_lit (Kd.int .u8) (w0 := w2) w2.heap.size 5 ?hg (N := 42) ?hd (xs := [248 + (i : Int) % 8, 248 + (i : Int) / 8]) (inner := [.int .u8 (248 + (i : Int) % 8), .int .u8 (248 + (i : Int) / 8)]) (ok := fun _ => True) (okp := fun _ => True) ?hr (lit2B _ _ _ _) (fun _ hk => hk) trivial HW.out HW.out.size (by simp) ?_; (case hd => rfl); (case hg => rfl); (case hr => first | (go_simp; done) | (go_simp; rfl)); intro v42 w42 ho hb hg hat; obtain ⟨A42, c42, rfl, hn42, hC42⟩ := Kd.R_reads ho; have hcv : (convert 40 9 (.slice A42 2 c42)).run Try.prog w42 = .ok (.string t) w42 := (by rw [HTE.out]; exact Kd.C_string (P := Try.prog) (c := c42) Try.underlying40 Try.underlying5 Try.underlying9 hC42); have n1_ := Aside0.mk (Kd.R_grown HO.out hg (fun _ _ => by simp)); have n2_ := Aside0.mk hb; clear HO HW ho hb hg hat hn42 hC42; have HO := n1_; have HW := n2_; clear n1_ n2_)
        | ((with_reducible refine gate_dst (N := 48) rfl ?_); refine Kd.R_lit k27 (w0 := w2) w2.heap.size 27 ?hg (N := 48) ?hd (xs := [rS s i]) (inner := [.string (s ++ t), .bool false, .int .i64 1, .int .i64 i, .string ⟨#[]⟩]) (ok := fun _ => True) (okp := fun _ => True) ?hr (by rw [HKI.out]; exact lit1R _ _ (rS s i)) (fun _ hk => hk) trivial HW.out HW.out.size (by simp) ?_; (case hd => rfl); (case hg => rfl); (case hr => first | (go_simp; done) | (go_simp; rfl)); intro v48 w48 ho hb hg hat; obtain ⟨A48, c48, rfl, hn48, hC48⟩ := Kd.R_reads ho; have HL48 := Aside0.mk hC48; have n1_ := Aside0.mk (Kd.R_grown HO.out hg (fun _ _ => by simp)); have n2_ := Aside0.mk hb; clear HO HW ho hb hg hat hn48 hC48 hcv; have HO := n1_; have HW := n2_; clear n1_ n2_)
        | ((with_reducible refine gate_builtin (b := .append) (xs := #[.tmp 32, .tmp 48]) rfl ?_); at_builtin; refine appRc (w0 := w2) rfl (.tmp 32) (.tmp 48) rfl u6 (rowS s i) [rS s i] A48 1 c48 rfl rfl HO.out HL48.out HW.out (by rw [rowS_len]; have := HLT.out; have := HN20.out; omega) ?_; intro v49 w49 ho hb; rw [← rowS_succ] at ho; have n1_ := Aside0.mk ho; have n2_ := Aside0.mk hb; clear HO HW ho hb HL48; have HO := n1_; have HW := n2_; clear n1_ n2_))
      refine ⟨⟨i + 1, by first | rfl | go_num, by have := HLT.out; omega, HO, HW⟩, ?_⟩
      have := HLT.out
      simp [intOf]
      omega
    · obtain rfl : i = n := by omega
      have hl1 : decide ((i : Int) < (i : Int)) = false := decide_eq_false (by omega)
      have hl2 : decide (i < i) = false := decide_eq_false (by omega)
      obtain ⟨L, hL⟩ : ∃ L, L = rowS s i := ⟨_, rfl⟩
      have HLL := Aside0.mk hL
      have HLN := Aside0.mk (show i = L.length by rw [hL, rowS_len])
      rw [← hL] at HO
      obtain ⟨A6, c6, rfl, hn6, hC6⟩ := Kd.R_reads HO.out
      rw [← HLN.out] at hn6 hC6 ⊢
      have HC := Aside0.mk hC6
      have HN6 := Aside0.mk hn6
      obtain ⟨p, hp⟩ : ∃ p, p = pairsL L := ⟨_, rfl⟩
      have HP := Aside0.mk hp
      have HPL := Aside0.mk (show p.length = i by rw [hp, hL]; exact pS_len s HS12.out HN20.out)
      have HPV := Aside0.mk (show ∀ j, j < i → valP p (kS s j) = (⟨1, (j : Int), ⟨#[]⟩⟩, true) by rw [hp, hL]; exact fun j hj => pS_val s HS12.out HN20.out hj)
      have HPK := Aside0.mk (show ∀ k, H k = hS s → (likeL p k).length = i by rw [hp, hL]; exact fun k hk => pS_like s HS12.out HN20.out HN2.out hk)
      have HPN := Aside0.mk (show valP p (keyO s 192 192) = (⟨0, 0, ⟨#[]⟩⟩, false) by rw [hp, hL]; exact pS_no s HS12.out HN20.out)
      clear hlt hi hL hp hn6 hC6 HO
      go_wp2_with (first
        | (go_at_call 17; refine (st_Pairs HLN.out HC.out HN6.out).mono ?_; rintro e w4 ⟨v4, rfl, hR, hb⟩; rw [← HP.out] at hR; obtain ⟨A4, c4, rfl, hn4, hC4⟩ := Kd.R_reads hR; rw [HPL.out] at hn4 hC4 ⊢; have HCP := Aside0.mk hC4; have HNP := Aside0.mk hn4; have n1_ := Aside0.mk (below_step HW.out hb); have n2_ := Aside0.mk (Kd.C_below HC.out hb); clear HW HC; have HW := n1_; have HC := n2_; clear n1_ n2_; clear hb hR hn4 hC4)
        | (go_at_call 13; refine (new_p (l := L) (by rw [← HP.out, HPL.out]) (by rw [← HP.out]; exact HCP.out) HNP.out).mono ?_; rintro e w5 ⟨g, rfl, hs, hb⟩; rw [← HP.out] at hs; have HSO := Aside0.mk hs; have n1_ := Aside0.mk (below_step HW.out hb); have n2_ := Aside0.mk (Kd.C_below HC.out hb); clear HW HC; have HW := n1_; have HC := n2_; clear n1_ n2_; clear hb hs HCP HNP)
        | (go_at_call 18; refine (len_v HSO.out HPL.out).mono ?_; rintro e w6 ⟨rfl, rfl⟩))
      have HB2 := Aside0.mk (below_step HB.out HW.out)
      clear HB
      have HB := HB2
      clear HB2
      clear HW hd1 hd2
      have HX := Aside0.mk (Below.refl w5.heap.size w5)
      go_loopw [11] (fun v11 wr => ∃ (j : Nat), v11 = .int .i64 j ∧ j ≤ i ∧ Aside0 (Below w5.heap.size w5 wr)) (fun v _ => i - (intOf v).toNat)
      case atStart => exact ⟨0, by first | rfl | go_num, Nat.zero_le _, HX⟩
      case round =>
        clear HX
        obtain ⟨j, rfl, hj, HW⟩ := hrel
        by_cases hlt : j < i
        · have hltz : (j : Int) < (L.length : Int) := by rw [← HLN.out]; omega
          have hltz2 : (j : Int) < (i : Int) := by omega
          have hl3 : decide ((j : Int) < (i : Int)) = true := decide_eq_true (by omega)
          have hl4 := decide_eq_true hlt
          have HLT := Aside0.mk hlt
          obtain ⟨ad, e, h0, h1, h2, h3, h4⟩ := at_T27 (by have := HC.out; rw [HLN.out] at this; exact this) (j : Int) (Int.natCast_nonneg _) hltz
          cases e
          simp only [Int.toNat_natCast] at h0
          have hy : rd_T27 L (j : Int) = rS s j := by
            rw [HLL.out]
            unfold rowS
            simp [rd_T27, hlt]
          rw [hy] at h0
          have HQ0 := Aside0.mk (show w5.cell? (ad.add (j * 5)) = some (.string (kS s j)) from h0)
          have HKZ := Aside0.mk (show (kS s j).size < 17592186044416 by
            have := keyO_size s (oA_odd j) (oB_odd (i := j) (by have := HN20.out; omega))
            unfold kS
            have := HS12.out
            omega)
          have HV1 := Aside0.mk (HPV.out j hlt)
          have HV2 := Aside0.mk (HPK.out (kS s j) (keyO_H s (oA_odd j) (oB_odd (i := j) (by have := HN20.out; omega))))
          obtain ⟨k, hk⟩ : ∃ k, k = kS s j := ⟨_, rfl⟩
          rw [← hk] at HQ0 HKZ HV1 HV2
          have hq0 : wr.cell? (ad.add (j * 5)) = some (.string k) := (HW.out.cell (World.block_lt_of_cell? w5 _ HQ0.out)).trans HQ0.out
          clear h0 h1 h2 h3 h4 hy hltz hlt hj hk
          go_wp2_with (first
            | (go_at_call 19; (with_reducible refine (get_v (HSO.out.below HW.out) HKZ.out HV1.out).mono ?_); rintro e w7 ⟨rfl, hb⟩; have n1_ := Aside0.mk (below_step HW.out hb); clear HW; have HW := n1_; clear n1_; clear hb hq0)
            | ((with_reducible refine gate_dst (N := 12) rfl ?_); refine box_event ?hg (N := 12) ?hd (cs := #[.int .i64 0, .int .i64 0, .string ⟨#[]⟩]) (t := 25) ?hr ?_; (case hd => rfl); (case hg => rfl); (case hr => first | (go_simp; done) | (go_simp; rfl)); intro g12 hg w8 hbox hb; have G12 := Aside0.mk (show w5.heap.size ≤ g12 by rw [hg]; exact HW.out.size); have B12 := Aside0.mk hbox; have n1_ := Aside0.mk (below_step HW.out hb); clear HW; have HW := n1_; clear n1_; clear hbox hg hb; have hs0 : w8.cell? ⟨g12, 0, none⟩ = some (.int .i64 0) := (blk_cell B12.out 0).trans rfl; have hs1 : w8.cell? ⟨g12, 1, none⟩ = some (.int .i64 0) := (blk_cell B12.out 1).trans rfl; have hs2 : w8.cell? ⟨g12, 2, none⟩ = some (.string ⟨#[]⟩) := (blk_cell B12.out 2).trans rfl; have hf0 := blk_frozen B12.out 0; have hf1 := blk_frozen B12.out 1; have hf2 := blk_frozen B12.out 2)
            | ((with_reducible refine gate_store (t := 25) (p := 12) rfl ?_); refine store_event (t := 25) (p := 12) (v := ?vo12) (w1 := (((w8.setCell ⟨g12, 0, none⟩ (.int .i64 (⟨1, (j : Int), ⟨#[]⟩⟩ : Rw).f0)).setCell ⟨g12, 1, none⟩ (.int .i64 (⟨1, (j : Int), ⟨#[]⟩⟩ : Rw).f1)).setCell ⟨g12, 2, none⟩ (.string (⟨1, (j : Int), ⟨#[]⟩⟩ : Rw).f2))) ?hg ?ho ?hn ?hr ?_; (case ho => rfl); (case hg => rfl); (case hn => rfl); (case hr => first | (go_simp; done) | (go_simp; rfl)); intro w9 hw; have n1_ := Aside0.mk (show Below w5.heap.size w5 w9 by rw [hw]; exact below_set (below_set (below_set HW.out G12.out) G12.out) G12.out); have n2_ := Aside0.mk (show w9.heap[g12]? = some (.cells #[.int .i64 (⟨1, (j : Int), ⟨#[]⟩⟩ : Rw).f0, .int .i64 (⟨1, (j : Int), ⟨#[]⟩⟩ : Rw).f1, .string (⟨1, (j : Int), ⟨#[]⟩⟩ : Rw).f2] 25 (0, 0)) by rw [hw]; exact blk_put (blk_put (blk_put B12.out 0 _ rfl) 1 _ rfl) 2 _ rfl); clear HW B12 hs0 hs1 hs2 hf0 hf1 hf2 hw; have HW := n1_; have B12 := n2_; clear n1_ n2_; have hq0 : w9.cell? (ad.add (j * 5)) = some (.string k) := (HW.out.cell (World.block_lt_of_cell? w5 _ HQ0.out)).trans HQ0.out; have hs1 : w9.cell? ⟨g12, 1, none⟩ = some (.int .i64 (⟨1, (j : Int), ⟨#[]⟩⟩ : Rw).f1) := (blk_cell B12.out 1).trans rfl)
            | (go_at_call 20; (with_reducible refine (reads_v (HSO.out.below HW.out) HKZ.out HV2.out).mono ?_); rintro e w10 ⟨rfl, hb⟩; have n1_ := Aside0.mk (below_step HW.out hb); clear HW; have HW := n1_; clear n1_; clear hb hq0))
          refine ⟨⟨j + 1, by first | rfl | go_num, by have := HLT.out; omega, HW⟩, ?_⟩
          have := HLT.out
          simp [intOf]
          omega
        · obtain rfl : j = i := by omega
          have hl3 : decide ((j : Int) < (j : Int)) = false := decide_eq_false (by omega)
          have hl4 : decide (j < j) = false := decide_eq_false (by omega)
          have HK2 := Aside0.mk (show keyO s 192 192 = s ++ ⟨#[192, 192]⟩ from rfl)
          have HKZ := Aside0.mk (show (keyO s 192 192).size < 17592186044416 by
            have := keyO_size s (a := 192) (b := 192) (.inl rfl) (.inl rfl)
            have := HS12.out
            omega)
          have HV2 := Aside0.mk (HPK.out (keyO s 192 192) (keyO_H s (.inl rfl) (.inl rfl)))
          rw [HK2.out] at HKZ HPN HV2
          have hadd : (s.size : Int) + ((⟨#[192, 192]⟩ : ByteArray).size : Int) ≤ 9223372036854775807 := by
            show (s.size : Int) + 2 ≤ _
            have := HS12.out
            omega
          have hadd2 : (s.size : Int) + 2 ≤ 9223372036854775807 := hadd
          clear hlt hj
          go_wp2_with (first
            | (go_at_call 19; (with_reducible refine (get_v (HSO.out.below HW.out) HKZ.out HPN.out).mono ?_); rintro e w7 ⟨rfl, hb⟩; have n1_ := Aside0.mk (below_step HW.out hb); clear HW; have HW := n1_; clear n1_; clear hb)
            | ((with_reducible refine gate_dst (N := 14) rfl ?_); refine box_event ?hg (N := 14) ?hd (cs := #[.int .i64 0, .int .i64 0, .string ⟨#[]⟩]) (t := 25) ?hr ?_; (case hd => rfl); (case hg => rfl); (case hr => first | (go_simp; done) | (go_simp; rfl)); intro g14 hg w8 hbox hb; have G14 := Aside0.mk (show w5.heap.size ≤ g14 by rw [hg]; exact HW.out.size); have B14 := Aside0.mk hbox; have n1_ := Aside0.mk (below_step HW.out hb); clear HW; have HW := n1_; clear n1_; clear hbox hg hb; have hs0 : w8.cell? ⟨g14, 0, none⟩ = some (.int .i64 0) := (blk_cell B14.out 0).trans rfl; have hs1 : w8.cell? ⟨g14, 1, none⟩ = some (.int .i64 0) := (blk_cell B14.out 1).trans rfl; have hs2 : w8.cell? ⟨g14, 2, none⟩ = some (.string ⟨#[]⟩) := (blk_cell B14.out 2).trans rfl; have hf0 := blk_frozen B14.out 0; have hf1 := blk_frozen B14.out 1; have hf2 := blk_frozen B14.out 2)
            | ((with_reducible refine gate_store (t := 25) (p := 14) rfl ?_); refine store_event (t := 25) (p := 14) (v := ?vo14) (w1 := (((w8.setCell ⟨g14, 0, none⟩ (.int .i64 (⟨0, 0, ⟨#[]⟩⟩ : Rw).f0)).setCell ⟨g14, 1, none⟩ (.int .i64 (⟨0, 0, ⟨#[]⟩⟩ : Rw).f1)).setCell ⟨g14, 2, none⟩ (.string (⟨0, 0, ⟨#[]⟩⟩ : Rw).f2))) ?hg ?ho ?hn ?hr ?_; (case ho => rfl); (case hg => rfl); (case hn => rfl); (case hr => first | (go_simp; done) | (go_simp; rfl)); intro w9 hw; have n1_ := Aside0.mk (show Below w5.heap.size w5 w9 by rw [hw]; exact below_set (below_set (below_set HW.out G14.out) G14.out) G14.out); have n2_ := Aside0.mk (show w9.heap[g14]? = some (.cells #[.int .i64 (⟨0, 0, ⟨#[]⟩⟩ : Rw).f0, .int .i64 (⟨0, 0, ⟨#[]⟩⟩ : Rw).f1, .string (⟨0, 0, ⟨#[]⟩⟩ : Rw).f2] 25 (0, 0)) by rw [hw]; exact blk_put (blk_put (blk_put B14.out 0 _ rfl) 1 _ rfl) 2 _ rfl); clear HW B14 hs0 hs1 hs2 hf0 hf1 hf2 hw; have HW := n1_; have B14 := n2_; clear n1_ n2_; have hs1 : w9.cell? ⟨g14, 1, none⟩ = some (.int .i64 (⟨0, 0, ⟨#[]⟩⟩ : Rw).f1) := (blk_cell B14.out 1).trans rfl)
            | (go_at_call 20; (with_reducible refine (reads_v (HSO.out.below HW.out) HKZ.out HV2.out).mono ?_); rintro e w10 ⟨rfl, hb⟩; have n1_ := Aside0.mk (below_step HW.out hb); clear HW; have HW := n1_; clear n1_; clear hb))
          go_ret
          exact ⟨rfl, below_step HB.out HW.out⟩
theorem SortedSame.walk (P : True) (s : ByteArray) (n : Int) (w : World) (w0 : s.size ≤ 140737488351232) (w1 : (Lit.int .i64 n).wf = true) :
    Calls Try.prog 4 #[.string s, .int .i64 n] w fun e w' => e = .returned (.bool true) ∧ Below w.heap.size w w' := SortedSame.core s n w
end Go.Proofs.Ytkhcmddeeodbkaa.GL
