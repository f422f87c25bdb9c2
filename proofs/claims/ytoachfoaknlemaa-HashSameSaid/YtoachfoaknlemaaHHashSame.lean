/- The law HashSame, walked by hand: a text made bytes and a text again. -/
import Derived.Test.YtoachfoaknlemaaQHashBegun
import Derived.Test.YtoachfoaknlemaaQRunesEnc
import Derived.Lib.ConvBytes
import Derived.Test.YtoachfoaknlemaaXHashx1
import Derived.Test.YtoachfoaknlemaaXHashx8
set_option linter.unusedVariables false
set_option linter.unusedSimpArgs false
namespace Go.Proofs.Ytoachfoaknlemaa.H
open Go.RowKit Go.Proofs.YtoachfoaknlemaaW.PrintWords Go.Proofs.YtoachfoaknlemaaW.PrintLast Go.Proofs.YtoachfoaknlemaaW.PrintMore Go.Proofs.Ytoachfoaknlemaa.G Go.Proofs.Ytoachfoaknlemaa.XHash Go.Proofs.Ytoachfoaknlemaa.Q
theorem back_again (s : ByteArray) (hs : s.size ≤ 9223372036854775807) (W : World) :
    (convert 30 9 (.slice (some ⟨W.heap.size, 0, none⟩) s.size (grownCap W s.size 0 5))).run Try.prog (Lib.bytesWorld W 5 s) = .ok (.string s) (Lib.bytesWorld W 5 s) := by
  have h := Kd.C_string (P := Try.prog) (c := grownCap W s.size 0 5) Try.underlying30 Try.underlying5 Try.underlying9 (Kd.C_of_reads (d := (0 : Int)) (h1 := fun _ => rfl) (bytes_reads W 5 s hs))
  rw [str_bytesOf] at h
  exact h
set_option maxRecDepth 1000000 in
set_option maxHeartbeats 8000000 in
theorem loesslaw9_HashSame.walk (P : True) (a0 : ByteArray) (a1 : Int) (w : World) (w0 : a0.size ≤ 140737488351232) (w1 : (Lit.int .i32 a1).wf = true) :
    Calls Try.prog 8 #[.string a0, .int .i32 a1] w fun e w' => e = .returned (.bool true) ∧ Below w.heap.size w w' := by
  have HB := Aside0.mk (Below.refl w.heap.size w)
  obtain ⟨kb, hb0⟩ := Ev.rounds hash_begun
  have A3 := Aside0.mk hb0
  clear hb0
  have henc : (Utf8.encode a1).size ≤ 4 := by
    rw [size_of_bytes, enc_eq]
    exact (encL_len _).2
  by_cases hc : (a0.size : Int) > 30
  · have hcb : decide (30 < (a0.size : Int)) = true := decide_eq_true hc
    have hcut : (30 : Int) ≤ (a0.size : Int) := by omega
    clear hc
    have hs30 : (a0.extract 0 30).size ≤ 30 := by rw [ByteArray.size_extract]; omega
    obtain ⟨k1, h1⟩ := Ev.rounds (hash_ev (s := (a0.extract 0 30)) (by omega))
    have A4 := Aside0.mk h1
    clear h1
    have hz : ((a0.extract 0 30) ++ Utf8.encode a1).size ≤ 34 := by
      rw [size_of_bytes, bytesOf_append, List.length_append, ← size_of_bytes, ← size_of_bytes]
      omega
    obtain ⟨k2, h2⟩ := Ev.rounds (hash_ev (s := (a0.extract 0 30) ++ Utf8.encode a1) (by omega))
    have A5 := Aside0.mk h2
    clear h2
    have kc := fun W => print_bytes (P := Try.prog) 9 30 5 Try.underlying9 Try.underlying30 Try.underlying5 (a0.extract 0 30) W
    have kd := back_again (a0.extract 0 30) (by omega)
    have he : (a0.extract 0 30).size = min 30 a0.size := by rw [ByteArray.size_extract, Nat.sub_zero]
    simp only [he] at kc kd
    clear he
    have hadd : (9223372036854775807 < ((a0.extract 0 30).size : Int) + ((Utf8.encode a1).size : Int)) = False := eq_false (by omega)
    go_enter Try.func8, Try.ntmps8
    go_wp2_with (first
      | (go_at_call 9; (with_reducible refine (loesslaw9_begun.calls kb true _ A3.out).mono ?_); rintro e w8 ⟨rfl, hb⟩; have n0_ := Aside0.mk (below_step HB.out hb); clear HB; have HB := n0_; clear n0_; clear hb)
      | (go_at_call 11; (with_reducible refine (hash_Of.calls k1 (a0.extract 0 30) _ _ A4.out).mono ?_); rintro e w8 ⟨rfl, hb⟩; have n0_ := Aside0.mk (below_step (by first | exact HB.out | exact bytes_below HB.out HB.out.size 5 _) hb); clear HB; have HB := n0_; clear n0_; clear hb)
      | (go_at_call 11; (with_reducible refine (hash_Of.calls k2 ((a0.extract 0 30) ++ Utf8.encode a1) _ _ A5.out).mono ?_); rintro e w8 ⟨rfl, hb⟩; have n0_ := Aside0.mk (below_step HB.out hb); clear HB; have HB := n0_; clear n0_; clear hb))
    go_ret
    exact ⟨rfl, HB.out⟩
  · have hcb : decide (30 < (a0.size : Int)) = false := decide_eq_false hc
    have hs30 : a0.size ≤ 30 := by omega
    obtain ⟨k1, h1⟩ := Ev.rounds (hash_ev (s := a0) (by omega))
    have A4 := Aside0.mk h1
    clear h1
    have hz : (a0 ++ Utf8.encode a1).size ≤ 34 := by
      rw [size_of_bytes, bytesOf_append, List.length_append, ← size_of_bytes, ← size_of_bytes]
      omega
    obtain ⟨k2, h2⟩ := Ev.rounds (hash_ev (s := a0 ++ Utf8.encode a1) (by omega))
    have A5 := Aside0.mk h2
    clear h2
    clear hc
    have kc := fun W => print_bytes (P := Try.prog) 9 30 5 Try.underlying9 Try.underlying30 Try.underlying5 a0 W
    have kd := back_again a0 (by omega)
    have hadd : (9223372036854775807 < (a0.size : Int) + ((Utf8.encode a1).size : Int)) = False := eq_false (by omega)
    go_enter Try.func8, Try.ntmps8
    go_wp2_with (first
      | (go_at_call 9; (with_reducible refine (loesslaw9_begun.calls kb true _ A3.out).mono ?_); rintro e w8 ⟨rfl, hb⟩; have n0_ := Aside0.mk (below_step HB.out hb); clear HB; have HB := n0_; clear n0_; clear hb)
      | (go_at_call 11; (with_reducible refine (hash_Of.calls k1 a0 _ _ A4.out).mono ?_); rintro e w8 ⟨rfl, hb⟩; have n0_ := Aside0.mk (below_step (by first | exact HB.out | exact bytes_below HB.out HB.out.size 5 _) hb); clear HB; have HB := n0_; clear n0_; clear hb)
      | (go_at_call 11; (with_reducible refine (hash_Of.calls k2 (a0 ++ Utf8.encode a1) _ _ A5.out).mono ?_); rintro e w8 ⟨rfl, hb⟩; have n0_ := Aside0.mk (below_step HB.out hb); clear HB; have HB := n0_; clear n0_; clear hb))
    go_ret
    exact ⟨rfl, HB.out⟩
end Go.Proofs.Ytoachfoaknlemaa.H
