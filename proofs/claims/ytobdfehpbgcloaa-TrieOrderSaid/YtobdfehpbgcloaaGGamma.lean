/- gamma.Get, All, Put by hand. -/
import Derived.Test.YtobdfehpbgcloaaGBitsOf
import Derived.Test.YtobdfehpbgcloaaGLen64
namespace Go.Proofs.Ytobdfehpbgcloaa.GL
open Go.RowKit Go.Proofs.YtobdfehpbgcloaaW.PrintWords Go.Proofs.YtobdfehpbgcloaaW.PrintLast Go.Proofs.YtobdfehpbgcloaaW.PrintMore Go.Proofs.Ytobdfehpbgcloaa.Q Go.Proofs.Ytobdfehpbgcloaa.XTri Go.Proofs.Ytobdfehpbgcloaa.G
set_option linter.unusedVariables false
set_option linter.unusedSimpArgs false
/-- How many bits that aren't set stand ahead, so many at most. -/
def zeros : List Bool → Nat → Nat
  | _, 0 => 0
  | [], _ => 0
  | b :: r, m + 1 => if b = true then 0 else zeros r m + 1
theorem zeros_spec : ∀ (l : List Bool) (m : Nat), zeros l m ≤ m ∧ zeros l m ≤ l.length ∧ (∀ k, k < zeros l m → l.getD k false = false) ∧ (zeros l m < m → zeros l m < l.length → l.getD (zeros l m) false = true) := by
  intro l
  induction l with
  | nil => intro m; cases m <;> simp [zeros]
  | cons b r ih =>
    intro m
    cases m with
    | zero => simp [zeros]
    | succ m =>
      obtain ⟨h1, h2, h3, h4⟩ := ih m
      cases b
      · simp only [zeros, Bool.false_eq_true, if_false, List.length_cons]
        refine ⟨by omega, by omega, fun k hk => ?_, fun ha hb => ?_⟩
        · cases k with
          | zero => rfl
          | succ k => rw [List.getD_cons_succ]; exact h3 k (by omega)
        · rw [List.getD_cons_succ]
          exact h4 (by omega) (by omega)
      · simp [zeros]
/-- gamma.Get. -/
def getG (L : List Bool) (at_ : Int) : Option (Int × Int) :=
  if at_ < 0 then none else
  if zeros (L.drop at_.toNat) 64 = 64 then none else
  (numAt L (at_ + zeros (L.drop at_.toNat) 64) (zeros (L.drop at_.toNat) 64 + 1)).map fun x => (x, at_ + 2 * zeros (L.drop at_.toNat) 64 + 1)
def getR (at_ : Int) : Option (Int × Int) → Value
  | some (x, e) => .tuple #[.int .u64 x, .int .i64 e, .bool true]
  | none => .tuple #[.int .u64 0, .int .i64 at_, .bool false]
set_option maxRecDepth 1000000 in
set_option maxHeartbeats 8000000 in
theorem gamma_Get_in {w : World} {P : Option Addr} {L : List Bool} (i : Nat) (h : BitsP w P L) (hl : L.length < 100000000000) (hi : i < L.length) :
    Calls Try.prog 29 #[.pointer P, .int .i64 i] w fun e w' => e = .returned (getR i (getG L i)) ∧ w = w' := by
  have HL := Aside0.mk h
  have HLL := Aside0.mk hl
  have HI := Aside0.mk hi
  obtain ⟨z, hz⟩ : ∃ z, z = zeros (L.drop i) 64 := ⟨_, rfl⟩
  have hsp := zeros_spec (L.drop i) 64
  rw [← hz] at hsp
  have HSP := Aside0.mk hsp
  have hz64 : z ≤ 64 := hsp.1
  have HG := Aside0.mk (show getG L i = if z = 64 then none else (numAt L ((i : Int) + (z : Int)) ((z : Int) + 1)).map fun x => (x, (i : Int) + 2 * (z : Int) + 1) by
    unfold getG
    rw [if_neg (by omega), Int.toNat_natCast, ← hz])
  have hi1 : decide ((i : Int) < 0) = false := decide_eq_false (by omega)
  have hi2 : decide (L.length ≤ i) = false := decide_eq_false (by omega)
  have hil : (i : Int) < 100000000000 := by omega
  have HLLL := Aside0.mk (show L.length < 1000000000000 by omega)
  have hll : (L.length : Int) < 100000000000 := by omega
  clear h hl hi hsp hz
  go_enter Try.func29, Try.ntmps29
  go_wp2_with (first | (go_at_call 15; refine (bits_Len HL.out).mono ?_; rintro e w' ⟨rfl, rfl⟩))
  go_loop [7] (fun v7 => ∃ (k : Nat), v7 = .int .i64 k ∧ k ≤ z) (fun v => z - (intOf v).toNat)
  case atStart => exact ⟨0, by first | rfl | go_num, Nat.zero_le _⟩
  case round =>
    obtain ⟨k, rfl, hk⟩ := hrel
    have hdl : (L.drop i).length = L.length - i := List.length_drop
    by_cases hlt : k < z
    · have h1 : decide ((k : Int) < 64) = true := decide_eq_true (by omega)
      have h2 : decide ((i : Int) + (k : Int) < (L.length : Int)) = true := decide_eq_true (by have := HSP.out.2.1; omega)
      have hk64 : (k : Int) < 64 := by omega
      have HLT := Aside0.mk hlt
      have hat : atB L ((i : Int) + (k : Int)) = false := by
        have := HSP.out.2.2.1 k hlt
        rw [List.getD_eq_getElem?_getD, List.getElem?_drop, ← List.getD_eq_getElem?_getD] at this
        unfold atB
        rw [decide_eq_true (by omega), Bool.true_and]
        exact this
      clear hdl hlt
      go_wp2_with (first | (go_at_call 15; refine (bits_Len HL.out).mono ?_; rintro e w' ⟨rfl, rfl⟩) | (go_at_call 28; refine (bits_At _ HL.out HLLL.out).mono ?_; rw [hat]; rintro e w' ⟨rfl, rfl⟩))
      go_round
      case rel => exact ⟨k + 1, by go_num, HLT.out⟩
      case measure => have := HLT.out; simp [intOf]; omega
    · obtain rfl : k = z := by omega
      have hk64 : (k : Int) ≤ 64 := by omega
      clear hk hlt
      by_cases h64 : k = 64
      · have HE := Aside0.mk (show getG L i = none by rw [HG.out, if_pos h64])
        subst h64
        clear hdl
        go_wp2
        go_ret3
        rw [HE.out]
        exact ⟨rfl, rfl⟩
      · have h1 : decide ((k : Int) < 64) = true := decide_eq_true (by omega)
        have h3 : ((k : Int) == 64) = false := beq_eq_false_iff_ne.mpr (by omega)
        have HE := Aside0.mk (show getG L i = (numAt L ((i : Int) + (k : Int)) ((k : Int) + 1)).map fun x => (x, (i : Int) + 2 * (k : Int) + 1) by rw [HG.out, if_neg h64])
        obtain ⟨o, ho⟩ : ∃ o, o = numAt L ((i : Int) + (k : Int)) ((k : Int) + 1) := ⟨_, rfl⟩
        rw [← ho] at HE
        have HOO := Aside0.mk ho
        clear ho
        by_cases hend : L.length ≤ i + k
        · have h2 : decide ((i : Int) + (k : Int) < (L.length : Int)) = false := decide_eq_false (by omega)
          clear hdl h64 hend
          cases o
          · go_wp2_with (first | (go_at_call 15; refine (bits_Len HL.out).mono ?_; rintro e w' ⟨rfl, rfl⟩) | (go_at_call 35; refine (bits_Num _ _ HL.out HLL.out).mono ?_; rw [← HOO.out]; rintro e w' ⟨rfl, rfl⟩; simp only [numR, Option.getD_none, Option.isSome_none]))
            go_ret3
            rw [HE.out]
            exact ⟨rfl, rfl⟩
          · go_wp2_with (first | (go_at_call 15; refine (bits_Len HL.out).mono ?_; rintro e w' ⟨rfl, rfl⟩) | (go_at_call 35; refine (bits_Num _ _ HL.out HLL.out).mono ?_; rw [← HOO.out]; rintro e w' ⟨rfl, rfl⟩; simp only [numR, Option.getD_some, Option.isSome_some]))
            go_ret3
            rw [HE.out]
            exact ⟨rfl, rfl⟩
        · have h2 : decide ((i : Int) + (k : Int) < (L.length : Int)) = true := decide_eq_true (by omega)
          have hat : atB L ((i : Int) + (k : Int)) = true := by
            have := HSP.out.2.2.2 (by omega) (by omega)
            rw [List.getD_eq_getElem?_getD, List.getElem?_drop, ← List.getD_eq_getElem?_getD] at this
            unfold atB
            rw [decide_eq_true (by omega), Bool.true_and]
            exact this
          clear hdl h64 hend
          cases o
          · go_wp2_with (first | (go_at_call 15; refine (bits_Len HL.out).mono ?_; rintro e w' ⟨rfl, rfl⟩) | (go_at_call 28; refine (bits_At _ HL.out HLLL.out).mono ?_; rw [hat]; rintro e w' ⟨rfl, rfl⟩) | (go_at_call 35; refine (bits_Num _ _ HL.out HLL.out).mono ?_; rw [← HOO.out]; rintro e w' ⟨rfl, rfl⟩; simp only [numR, Option.getD_none, Option.isSome_none]))
            go_ret3
            rw [HE.out]
            exact ⟨rfl, rfl⟩
          · go_wp2_with (first | (go_at_call 15; refine (bits_Len HL.out).mono ?_; rintro e w' ⟨rfl, rfl⟩) | (go_at_call 28; refine (bits_At _ HL.out HLLL.out).mono ?_; rw [hat]; rintro e w' ⟨rfl, rfl⟩) | (go_at_call 35; refine (bits_Num _ _ HL.out HLL.out).mono ?_; rw [← HOO.out]; rintro e w' ⟨rfl, rfl⟩; simp only [numR, Option.getD_some, Option.isSome_some]))
            go_ret3
            rw [HE.out]
            exact ⟨rfl, rfl⟩
theorem numAt_none {L : List Bool} {i : Int} {n : Int} (h : (L.length : Int) < i + n) : numAt L i n = none := if_neg (fun hc => by omega)
set_option maxRecDepth 1000000 in
set_option maxHeartbeats 8000000 in
theorem gamma_Get {w : World} {P : Option Addr} {L : List Bool} (i : Int) (h : BitsP w P L) (hl : L.length < 100000000000) :
    Calls Try.prog 29 #[.pointer P, .int .i64 i] w fun e w' => e = .returned (getR i (getG L i)) ∧ w = w' := by
  by_cases h0 : i < 0
  · have h1 := decide_eq_true h0
    have HE := Aside0.mk (show getG L i = none from if_pos h0)
    clear h hl
    go_enter Try.func29, Try.ntmps29
    go_wp2
    go_ret3
    rw [HE.out]
    exact ⟨rfl, rfl⟩
  · by_cases hi : i < (L.length : Int)
    · obtain ⟨i, rfl⟩ := Int.eq_ofNat_of_zero_le (show 0 ≤ i by omega)
      exact gamma_Get_in i h hl (by omega)
    · have h1 := decide_eq_false h0
      have h2 : decide ((L.length : Int) ≤ i) = true := decide_eq_true (by omega)
      have HL := Aside0.mk h
      have HE := Aside0.mk (show getG L i = none by
        unfold getG
        rw [if_neg h0, List.drop_of_length_le (by omega)]
        have e : zeros ([] : List Bool) 64 = 0 := rfl
        rw [e, if_neg (by decide), numAt_none (by omega)]
        rfl)
      clear h hl
      go_enter Try.func29, Try.ntmps29
      go_wp2_with (first | (go_at_call 15; refine (bits_Len HL.out).mono ?_; rintro e w' ⟨rfl, rfl⟩))
      go_ret3
      rw [HE.out]
      exact ⟨rfl, rfl⟩
/-- gamma.All. -/
def allG (L : List Bool) : Int → Nat → Option (List Int × Int)
  | at_, 0 => some ([], at_)
  | at_, n + 1 => match getG L at_ with
    | none => none
    | some (x, e) => (allG L e n).map fun q => (x :: q.1, q.2)
def allI (L : List Bool) (at_ n : Int) : Option (List Int × Int) := if n < 0 then none else allG L at_ n.toNat
def AllPost (w : World) (at_ : Int) (o : Option (List Int × Int)) (e : Ending) (w' : World) : Prop :=
  Below w.heap.size w w' ∧ match o with
  | some (l, t) => ∃ v, e = .returned (.tuple #[v, .int .i64 t, .bool true]) ∧ Kd.R (Kd.int .u64) 23 w' w.heap.size (fun _ => True) v l
  | none => e = .returned (.tuple #[.slice none 0 0, .int .i64 at_, .bool false])
/-- gamma.Put's bits. -/
def gammaBits (x : Int) : List Bool := if x = 0 then [] else numBits 0 (Lib.bitLen x.toNat - 1) ++ numBits x (Lib.bitLen x.toNat)
theorem bitLen_pos {n : Nat} (h : n ≠ 0) : 0 < Lib.bitLen n := by
  rw [Lib.bitLen, show (64 : Nat) = 63 + 1 from rfl, Lib.bitLenAux, if_neg h]
  omega
def GPutPost (base : Nat) (w : World) (p : Nat) (M : List Bool) (e : Ending) (w' : World) : Prop := e = .returned (.bool true) ∧ BO base w' p M ∧ Below base w w' ∧ KeepT w w'
set_option maxRecDepth 1000000 in
set_option maxHeartbeats 8000000 in
theorem gamma_Put_in {base : Nat} {w : World} {p : Nat} {L : List Bool} (x : Int) (h : BO base w p L) (hb : base ≤ w.heap.size) (hl : L.length < 10000000000) (hx0 : 0 < x) (hx1 : x < 18446744073709551616) (h64 : Lib.bitLen x.toNat ≤ 64) :
    Calls Try.prog 31 #[.pointer (some ⟨p, 0, none⟩), .int .u64 x] w (GPutPost base w p (L ++ gammaBits x)) := by
  obtain ⟨k, hk⟩ : ∃ k, k = Lib.bitLen x.toNat := ⟨_, rfl⟩
  have hkp : 0 < k := by rw [hk]; exact bitLen_pos (by omega)
  rw [← hk] at h64
  have hx : ¬ x = 0 := by omega
  have hxb : (x == 0) = false := beq_eq_false_iff_ne.mpr hx
  have HE := Aside0.mk (show L ++ gammaBits x = (L ++ numBits 0 (k - 1)) ++ numBits x k by rw [gammaBits, if_neg hx, ← hk, List.append_assoc])
  have HLN := Aside0.mk (show bits_Len64.f x = some (k : Int) by rw [bits_Len64.f, if_pos ⟨by omega, by omega⟩, ← hk])
  have HO := Aside0.mk h
  have HBASE := Aside0.mk hb
  have HL := Aside0.mk hl
  have HB := Aside0.mk (Below.refl base w)
  have HK := Aside0.mk (KeepT.refl w)
  have hk1 : (k : Int) - 1 = ((k - 1 : Nat) : Int) := by omega
  have hk64 : (k : Int) ≤ 64 := by omega
  have HP0 := Aside0.mk (fun (W : World) (h : BO base W p L) (hb : base ≤ W.heap.size) => bits_PutNum_in (w := W) 0 (k - 1) h hb (by omega) (by omega) (by decide) (by decide))
  have HP1 := Aside0.mk (fun (W : World) (h : BO base W p (L ++ numBits 0 (k - 1))) (hb : base ≤ W.heap.size) => bits_PutNum_in (w := W) x k h hb (by rw [List.length_append, numBits_len]; omega) h64 (by omega) hx1)
  clear h hb hl hk h64 hx hx0 hx1
  go_enter Try.func31, Try.ntmps31
  go_wp2_with (first
    | (go_at_call 36; refine (bits_Len64.calls _ _ _ HLN.out).mono ?_; rintro e w' ⟨rfl, ⟨nd, rfl⟩⟩; have n0_ := Aside0.mk (HO.out.below (pw_below_drewN (Below.refl _ _) nd)); have n1_ := Aside0.mk (pw_below_drewN HB.out nd); have n2_ := Aside0.mk (HK.out.trans (KeepT.below (pw_below_drewN (Below.refl _ _) nd))); clear HO HB HK; have HO := n0_; have HB := n1_; have HK := n2_; clear n0_ n1_ n2_)
    | (go_at_call 37; (first
        | (refine (HP0.out _ HO.out (Nat.le_trans HBASE.out HB.out.size)).mono ?_; clear HP0; rintro e w2 ⟨rfl, hO, hb, hkk⟩)
        | (refine (HP1.out _ HO.out (Nat.le_trans HBASE.out HB.out.size)).mono ?_; rintro e w2 ⟨rfl, hO, hb, hkk⟩)); have n0_ := Aside0.mk hO; have n1_ := Aside0.mk (HB.out.trans hb); have n2_ := Aside0.mk (HK.out.trans hkk); clear HO HB HK; have HO := n0_; have HB := n1_; have HK := n2_; clear n0_ n1_ n2_ hO hb hkk))
  go_ret
  refine ⟨rfl, ?_, HB.out, HK.out⟩
  rw [HE.out]
  exact HO.out
theorem gamma_Put {base : Nat} {w : World} {p : Nat} {L : List Bool} (x : Int) (h : BO base w p L) (hb : base ≤ w.heap.size) (hl : L.length < 10000000000) (hx0 : 0 < x) (hx1 : x < 18446744073709551616) :
    Calls Try.prog 31 #[.pointer (some ⟨p, 0, none⟩), .int .u64 x] w (GPutPost base w p (L ++ gammaBits x)) :=
  gamma_Put_in x h hb hl hx0 hx1 (Lib.bitLen_le x.toNat 64 (Nat.le_refl _) (by omega))
theorem gamma_Put_zero (P : Option Addr) (w : World) : Calls Try.prog 31 #[.pointer P, .int .u64 0] w fun e w' => e = .returned (.bool false) ∧ w = w' := by
  go_enter Try.func31, Try.ntmps31
  go_wp2
  go_ret
  exact ⟨rfl, rfl⟩
theorem gamma_Put_nil (x : Int) (w : World) : Calls Try.prog 31 #[.pointer none, .int .u64 x] w fun e w' => e = .returned (.bool false) ∧ w = w' := by
  by_cases hx : x = 0
  · subst hx
    exact gamma_Put_zero none w
  · have hxb : (x == 0) = false := beq_eq_false_iff_ne.mpr hx
    clear hx
    go_enter Try.func31, Try.ntmps31
    go_wp2
    go_ret
    exact ⟨rfl, rfl⟩
end Go.Proofs.Ytobdfehpbgcloaa.GL
