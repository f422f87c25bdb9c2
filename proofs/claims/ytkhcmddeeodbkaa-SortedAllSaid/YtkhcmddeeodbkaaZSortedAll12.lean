import Derived.Test.YtkhcmddeeodbkaaZSortedAll11
-- Own texts and, of the words that the kit's print program wrote for this claim, those that are needed here: put together by wip/prune.py.
set_option linter.unusedSimpArgs false
set_option linter.unusedVariables false
namespace Go.Proofs.Ytkhcmddeeodbkaa.XSor
open Go.RowKit Go.Proofs.Ytkhcmddeeodbkaa.G Go.Proofs.YtkhcmddeeodbkaaW.PrintWords Go.Proofs.YtkhcmddeeodbkaaW.PrintLast Go.Proofs.YtkhcmddeeodbkaaW.PrintMore
attribute [local go_sem] max2_int min2_int max_two min_two max_three min_three max_four min_four
def cmp_Compare_uint64.f (a0 : Int) (a1 : Int) : Option (Int) := (cmp_isNaN_uint64.f a0).bind fun t106 => ((cmp_isNaN_uint64.f a1).bind fun t107 => (if t106 = true then (if t107 = true then (some 0) else (some (-1))) else (if t107 = true then (some 1) else (if a0 < a1 then (some (-1)) else (if a0 > a1 then (some 1) else (some 0))))))
set_option maxHeartbeats 8000000 in
set_option maxRecDepth 100000 in
theorem cmp_Compare_uint64.calls (a0 : Int) (a1 : Int) (r : Int) (w : World) (h : cmp_Compare_uint64.f a0 a1 = some r) :
    Calls Try.prog 37 #[.int .u64 a0, .int .u64 a1] w fun e w' => e = .returned (.int .i64 r) ∧ Drawn0 w w' := by
 have H : ((cmp_isNaN_uint64.f a0).bind fun t106 => ((cmp_isNaN_uint64.f a1).bind fun t107 => (if t106 = true then (if t107 = true then (some 0) else (some (-1))) else (if t107 = true then (some 1) else (if a0 < a1 then (some (-1)) else (if a0 > a1 then (some 1) else (some 0))))))) = some r := h
 clear h
 replace H := Option.bind_eq_some_iff.mp H
 obtain ⟨t106, A30, H⟩ := H
 replace H : ((cmp_isNaN_uint64.f a1).bind fun t107 => (if t106 = true then (if t107 = true then (some 0) else (some (-1))) else (if t107 = true then (some 1) else (if a0 < a1 then (some (-1)) else (if a0 > a1 then (some 1) else (some 0)))))) = some r := H
 have A3 := Aside0.mk A30
 clear A30
 replace H := Option.bind_eq_some_iff.mp H
 obtain ⟨t107, A40, H⟩ := H
 replace H : (if t106 = true then (if t107 = true then (some 0) else (some (-1))) else (if t107 = true then (some 1) else (if a0 < a1 then (some (-1)) else (if a0 > a1 then (some 1) else (some 0))))) = some r := H
 have A4 := Aside0.mk A40
 clear A40
 by_cases c5 : t106 = true
 · subst c5
   have H1 : (if t107 = true then (some 0) else (some (-1))) = some r := by rw [if_pos rfl] at H; exact H
   clear H
   have H := H1
   clear H1
   by_cases c6 : t107 = true
   · subst c6
     have H1 : (some 0) = some r := by rw [if_pos rfl] at H; exact H
     clear H
     have H := H1
     clear H1
     obtain rfl := Option.some.inj H
     go_enter Try.func37, Try.ntmps37
     go_wp2_with (first | ((with_reducible refine gate_callee (f := 60) rfl ?_); refine goesL_ (some 8) rfl rfl Try.func60 (by kernel_rfl) rfl #[.int .u64 a0] rfl (by (try simp only [List.map_toArray, List.map_cons, List.map_nil]); first | done | rfl | (simp only [List.length_drop, List.length_take]; rfl)) ?_; (with_reducible refine (cmp_isNaN_uint64.calls a0 true _ A3.out).mono ?_); rintro e w' ⟨rfl, ⟨nd, rfl⟩⟩; refine ⟨_, rfl, ?_⟩) | ((with_reducible refine gate_callee (f := 60) rfl ?_); refine goesL_ (some 10) rfl rfl Try.func60 (by kernel_rfl) rfl #[.int .u64 a1] rfl (by (try simp only [List.map_toArray, List.map_cons, List.map_nil]); first | done | rfl | (simp only [List.length_drop, List.length_take]; rfl)) ?_; (with_reducible refine (cmp_isNaN_uint64.calls a1 true _ A4.out).mono ?_); rintro e w' ⟨rfl, ⟨nd, rfl⟩⟩; refine ⟨_, rfl, ?_⟩))
     go_ret
     exact ⟨by first | rfl | (simp; done) | (simp [*]; done), by repeat (first | exact Drawn0.refl _ | apply Drawn0.step)⟩
   · replace c6 := Bool.eq_false_iff.mpr c6
     subst c6
     have H1 : (some (-1)) = some r := by rw [if_neg (show ¬ (false = true) by decide)] at H; exact H
     clear H
     have H := H1
     clear H1
     obtain rfl := Option.some.inj H
     go_enter Try.func37, Try.ntmps37
     go_wp2_with (first | ((with_reducible refine gate_callee (f := 60) rfl ?_); refine goesL_ (some 8) rfl rfl Try.func60 (by kernel_rfl) rfl #[.int .u64 a0] rfl (by (try simp only [List.map_toArray, List.map_cons, List.map_nil]); first | done | rfl | (simp only [List.length_drop, List.length_take]; rfl)) ?_; (with_reducible refine (cmp_isNaN_uint64.calls a0 true _ A3.out).mono ?_); rintro e w' ⟨rfl, ⟨nd, rfl⟩⟩; refine ⟨_, rfl, ?_⟩) | ((with_reducible refine gate_callee (f := 60) rfl ?_); refine goesL_ (some 10) rfl rfl Try.func60 (by kernel_rfl) rfl #[.int .u64 a1] rfl (by (try simp only [List.map_toArray, List.map_cons, List.map_nil]); first | done | rfl | (simp only [List.length_drop, List.length_take]; rfl)) ?_; (with_reducible refine (cmp_isNaN_uint64.calls a1 false _ A4.out).mono ?_); rintro e w' ⟨rfl, ⟨nd, rfl⟩⟩; refine ⟨_, rfl, ?_⟩))
     go_ret
     exact ⟨by first | rfl | (simp; done) | (simp [*]; done), by repeat (first | exact Drawn0.refl _ | apply Drawn0.step)⟩
 · replace c5 := Bool.eq_false_iff.mpr c5
   subst c5
   have H1 : (if t107 = true then (some 1) else (if a0 < a1 then (some (-1)) else (if a0 > a1 then (some 1) else (some 0)))) = some r := by rw [if_neg (show ¬ (false = true) by decide)] at H; exact H
   clear H
   have H := H1
   clear H1
   by_cases c7 : t107 = true
   · subst c7
     have H1 : (some 1) = some r := by rw [if_pos rfl] at H; exact H
     clear H
     have H := H1
     clear H1
     obtain rfl := Option.some.inj H
     go_enter Try.func37, Try.ntmps37
     go_wp2_with (first | ((with_reducible refine gate_callee (f := 60) rfl ?_); refine goesL_ (some 8) rfl rfl Try.func60 (by kernel_rfl) rfl #[.int .u64 a0] rfl (by (try simp only [List.map_toArray, List.map_cons, List.map_nil]); first | done | rfl | (simp only [List.length_drop, List.length_take]; rfl)) ?_; (with_reducible refine (cmp_isNaN_uint64.calls a0 false _ A3.out).mono ?_); rintro e w' ⟨rfl, ⟨nd, rfl⟩⟩; refine ⟨_, rfl, ?_⟩) | ((with_reducible refine gate_callee (f := 60) rfl ?_); refine goesL_ (some 10) rfl rfl Try.func60 (by kernel_rfl) rfl #[.int .u64 a1] rfl (by (try simp only [List.map_toArray, List.map_cons, List.map_nil]); first | done | rfl | (simp only [List.length_drop, List.length_take]; rfl)) ?_; (with_reducible refine (cmp_isNaN_uint64.calls a1 true _ A4.out).mono ?_); rintro e w' ⟨rfl, ⟨nd, rfl⟩⟩; refine ⟨_, rfl, ?_⟩))
     go_ret
     exact ⟨by first | rfl | (simp; done) | (simp [*]; done), by repeat (first | exact Drawn0.refl _ | apply Drawn0.step)⟩
   · replace c7 := Bool.eq_false_iff.mpr c7
     subst c7
     have H1 : (if a0 < a1 then (some (-1)) else (if a0 > a1 then (some 1) else (some 0))) = some r := by rw [if_neg (show ¬ (false = true) by decide)] at H; exact H
     clear H
     have H := H1
     clear H1
     by_cases c8 : a0 < a1
     · rw [if_pos c8] at H
       have c8b0 : decide (a0 < a1) = true := decide_eq_true c8
       clear c8
       obtain rfl := Option.some.inj H
       go_enter Try.func37, Try.ntmps37
       go_wp2_with (first | ((with_reducible refine gate_callee (f := 60) rfl ?_); refine goesL_ (some 8) rfl rfl Try.func60 (by kernel_rfl) rfl #[.int .u64 a0] rfl (by (try simp only [List.map_toArray, List.map_cons, List.map_nil]); first | done | rfl | (simp only [List.length_drop, List.length_take]; rfl)) ?_; (with_reducible refine (cmp_isNaN_uint64.calls a0 false _ A3.out).mono ?_); rintro e w' ⟨rfl, ⟨nd, rfl⟩⟩; refine ⟨_, rfl, ?_⟩) | ((with_reducible refine gate_callee (f := 60) rfl ?_); refine goesL_ (some 10) rfl rfl Try.func60 (by kernel_rfl) rfl #[.int .u64 a1] rfl (by (try simp only [List.map_toArray, List.map_cons, List.map_nil]); first | done | rfl | (simp only [List.length_drop, List.length_take]; rfl)) ?_; (with_reducible refine (cmp_isNaN_uint64.calls a1 false _ A4.out).mono ?_); rintro e w' ⟨rfl, ⟨nd, rfl⟩⟩; refine ⟨_, rfl, ?_⟩))
       go_ret
       exact ⟨by first | rfl | (simp; done) | (simp [*]; done), by repeat (first | exact Drawn0.refl _ | apply Drawn0.step)⟩
     · rw [if_neg c8] at H
       have c8b0 : decide (a0 < a1) = false := decide_eq_false c8
       clear c8
       by_cases c9 : a0 > a1
       · rw [if_pos c9] at H
         have c9b0 : decide (a1 < a0) = true := decide_eq_true c9
         clear c9
         obtain rfl := Option.some.inj H
         go_enter Try.func37, Try.ntmps37
         go_wp2_with (first | ((with_reducible refine gate_callee (f := 60) rfl ?_); refine goesL_ (some 8) rfl rfl Try.func60 (by kernel_rfl) rfl #[.int .u64 a0] rfl (by (try simp only [List.map_toArray, List.map_cons, List.map_nil]); first | done | rfl | (simp only [List.length_drop, List.length_take]; rfl)) ?_; (with_reducible refine (cmp_isNaN_uint64.calls a0 false _ A3.out).mono ?_); rintro e w' ⟨rfl, ⟨nd, rfl⟩⟩; refine ⟨_, rfl, ?_⟩) | ((with_reducible refine gate_callee (f := 60) rfl ?_); refine goesL_ (some 10) rfl rfl Try.func60 (by kernel_rfl) rfl #[.int .u64 a1] rfl (by (try simp only [List.map_toArray, List.map_cons, List.map_nil]); first | done | rfl | (simp only [List.length_drop, List.length_take]; rfl)) ?_; (with_reducible refine (cmp_isNaN_uint64.calls a1 false _ A4.out).mono ?_); rintro e w' ⟨rfl, ⟨nd, rfl⟩⟩; refine ⟨_, rfl, ?_⟩))
         go_ret
         exact ⟨by first | rfl | (simp; done) | (simp [*]; done), by repeat (first | exact Drawn0.refl _ | apply Drawn0.step)⟩
       · rw [if_neg c9] at H
         have c9b0 : decide (a1 < a0) = false := decide_eq_false c9
         clear c9
         obtain rfl := Option.some.inj H
         go_enter Try.func37, Try.ntmps37
         go_wp2_with (first | ((with_reducible refine gate_callee (f := 60) rfl ?_); refine goesL_ (some 8) rfl rfl Try.func60 (by kernel_rfl) rfl #[.int .u64 a0] rfl (by (try simp only [List.map_toArray, List.map_cons, List.map_nil]); first | done | rfl | (simp only [List.length_drop, List.length_take]; rfl)) ?_; (with_reducible refine (cmp_isNaN_uint64.calls a0 false _ A3.out).mono ?_); rintro e w' ⟨rfl, ⟨nd, rfl⟩⟩; refine ⟨_, rfl, ?_⟩) | ((with_reducible refine gate_callee (f := 60) rfl ?_); refine goesL_ (some 10) rfl rfl Try.func60 (by kernel_rfl) rfl #[.int .u64 a1] rfl (by (try simp only [List.map_toArray, List.map_cons, List.map_nil]); first | done | rfl | (simp only [List.length_drop, List.length_take]; rfl)) ?_; (with_reducible refine (cmp_isNaN_uint64.calls a1 false _ A4.out).mono ?_); rintro e w' ⟨rfl, ⟨nd, rfl⟩⟩; refine ⟨_, rfl, ?_⟩))
         go_ret
         exact ⟨by first | rfl | (simp; done) | (simp [*]; done), by repeat (first | exact Drawn0.refl _ | apply Drawn0.step)⟩
end Go.Proofs.Ytkhcmddeeodbkaa.XSor
namespace Go.Proofs.Ytkhcmddeeodbkaa.XSor
open Go.RowKit Go.Proofs.Ytkhcmddeeodbkaa.G Go.Proofs.YtkhcmddeeodbkaaW.PrintWords Go.Proofs.YtkhcmddeeodbkaaW.PrintLast Go.Proofs.YtkhcmddeeodbkaaW.PrintMore
attribute [local go_sem] max2_int min2_int max_two min_two max_three min_three max_four min_four
def cmp_isNaN_string.f (a0 : ByteArray) : Option (Bool) := some (a0.toList != a0.toList)
set_option maxHeartbeats 8000000 in
set_option maxRecDepth 100000 in
theorem cmp_isNaN_string.calls (a0 : ByteArray) (r : Bool) (w : World) (h : cmp_isNaN_string.f a0 = some r) :
    Calls Try.prog 61 #[.string a0] w fun e w' => e = .returned (.bool r) ∧ Drawn0 w w' := by
 have H : (some (a0.toList != a0.toList)) = some r := h
 clear h
 obtain rfl := Option.some.inj H
 go_enter Try.func61, Try.ntmps61
 go_wp2
 go_ret
 exact ⟨by first | rfl | (simp; done) | (simp [*]; done), by repeat (first | exact Drawn0.refl _ | apply Drawn0.step)⟩
end Go.Proofs.Ytkhcmddeeodbkaa.XSor
namespace Go.Proofs.Ytkhcmddeeodbkaa.XSor
open Go.RowKit Go.Proofs.Ytkhcmddeeodbkaa.G Go.Proofs.YtkhcmddeeodbkaaW.PrintWords Go.Proofs.YtkhcmddeeodbkaaW.PrintLast Go.Proofs.YtkhcmddeeodbkaaW.PrintMore
attribute [local go_sem] max2_int min2_int max_two min_two max_three min_three max_four min_four
def cmp_Compare_string.f (a0 : ByteArray) (a1 : ByteArray) : Option (Int) := (cmp_isNaN_string.f a0).bind fun t108 => ((cmp_isNaN_string.f a1).bind fun t109 => (if t108 = true then (if t109 = true then (some 0) else (some (-1))) else (if t109 = true then (some 1) else (if (Op.bytesLess a0.toList a1.toList) = true then (some (-1)) else (if (Op.bytesLess a1.toList a0.toList) = true then (some 1) else (some 0))))))
set_option maxHeartbeats 8000000 in
set_option maxRecDepth 100000 in
theorem cmp_Compare_string.calls (a0 : ByteArray) (a1 : ByteArray) (r : Int) (w : World) (h : cmp_Compare_string.f a0 a1 = some r) :
    Calls Try.prog 38 #[.string a0, .string a1] w fun e w' => e = .returned (.int .i64 r) ∧ Drawn0 w w' := by
 have H : ((cmp_isNaN_string.f a0).bind fun t108 => ((cmp_isNaN_string.f a1).bind fun t109 => (if t108 = true then (if t109 = true then (some 0) else (some (-1))) else (if t109 = true then (some 1) else (if (Op.bytesLess a0.toList a1.toList) = true then (some (-1)) else (if (Op.bytesLess a1.toList a0.toList) = true then (some 1) else (some 0))))))) = some r := h
 clear h
 replace H := Option.bind_eq_some_iff.mp H
 obtain ⟨t108, A30, H⟩ := H
 replace H : ((cmp_isNaN_string.f a1).bind fun t109 => (if t108 = true then (if t109 = true then (some 0) else (some (-1))) else (if t109 = true then (some 1) else (if (Op.bytesLess a0.toList a1.toList) = true then (some (-1)) else (if (Op.bytesLess a1.toList a0.toList) = true then (some 1) else (some 0)))))) = some r := H
 have A3 := Aside0.mk A30
 clear A30
 replace H := Option.bind_eq_some_iff.mp H
 obtain ⟨t109, A40, H⟩ := H
 replace H : (if t108 = true then (if t109 = true then (some 0) else (some (-1))) else (if t109 = true then (some 1) else (if (Op.bytesLess a0.toList a1.toList) = true then (some (-1)) else (if (Op.bytesLess a1.toList a0.toList) = true then (some 1) else (some 0))))) = some r := H
 have A4 := Aside0.mk A40
 clear A40
 by_cases c5 : t108 = true
 · subst c5
   have H1 : (if t109 = true then (some 0) else (some (-1))) = some r := by rw [if_pos rfl] at H; exact H
   clear H
   have H := H1
   clear H1
   by_cases c6 : t109 = true
   · subst c6
     have H1 : (some 0) = some r := by rw [if_pos rfl] at H; exact H
     clear H
     have H := H1
     clear H1
     obtain rfl := Option.some.inj H
     go_enter Try.func38, Try.ntmps38
     go_wp2_with (first | ((with_reducible refine gate_callee (f := 61) rfl ?_); refine goesL_ (some 8) rfl rfl Try.func61 (by kernel_rfl) rfl #[.string a0] rfl (by (try simp only [List.map_toArray, List.map_cons, List.map_nil]); first | done | rfl | (simp only [List.length_drop, List.length_take]; rfl)) ?_; (with_reducible refine (cmp_isNaN_string.calls a0 true _ A3.out).mono ?_); rintro e w' ⟨rfl, ⟨nd, rfl⟩⟩; refine ⟨_, rfl, ?_⟩) | ((with_reducible refine gate_callee (f := 61) rfl ?_); refine goesL_ (some 10) rfl rfl Try.func61 (by kernel_rfl) rfl #[.string a1] rfl (by (try simp only [List.map_toArray, List.map_cons, List.map_nil]); first | done | rfl | (simp only [List.length_drop, List.length_take]; rfl)) ?_; (with_reducible refine (cmp_isNaN_string.calls a1 true _ A4.out).mono ?_); rintro e w' ⟨rfl, ⟨nd, rfl⟩⟩; refine ⟨_, rfl, ?_⟩))
     go_ret
     exact ⟨by first | rfl | (simp; done) | (simp [*]; done), by repeat (first | exact Drawn0.refl _ | apply Drawn0.step)⟩
   · replace c6 := Bool.eq_false_iff.mpr c6
     subst c6
     have H1 : (some (-1)) = some r := by rw [if_neg (show ¬ (false = true) by decide)] at H; exact H
     clear H
     have H := H1
     clear H1
     obtain rfl := Option.some.inj H
     go_enter Try.func38, Try.ntmps38
     go_wp2_with (first | ((with_reducible refine gate_callee (f := 61) rfl ?_); refine goesL_ (some 8) rfl rfl Try.func61 (by kernel_rfl) rfl #[.string a0] rfl (by (try simp only [List.map_toArray, List.map_cons, List.map_nil]); first | done | rfl | (simp only [List.length_drop, List.length_take]; rfl)) ?_; (with_reducible refine (cmp_isNaN_string.calls a0 true _ A3.out).mono ?_); rintro e w' ⟨rfl, ⟨nd, rfl⟩⟩; refine ⟨_, rfl, ?_⟩) | ((with_reducible refine gate_callee (f := 61) rfl ?_); refine goesL_ (some 10) rfl rfl Try.func61 (by kernel_rfl) rfl #[.string a1] rfl (by (try simp only [List.map_toArray, List.map_cons, List.map_nil]); first | done | rfl | (simp only [List.length_drop, List.length_take]; rfl)) ?_; (with_reducible refine (cmp_isNaN_string.calls a1 false _ A4.out).mono ?_); rintro e w' ⟨rfl, ⟨nd, rfl⟩⟩; refine ⟨_, rfl, ?_⟩))
     go_ret
     exact ⟨by first | rfl | (simp; done) | (simp [*]; done), by repeat (first | exact Drawn0.refl _ | apply Drawn0.step)⟩
 · replace c5 := Bool.eq_false_iff.mpr c5
   subst c5
   have H1 : (if t109 = true then (some 1) else (if (Op.bytesLess a0.toList a1.toList) = true then (some (-1)) else (if (Op.bytesLess a1.toList a0.toList) = true then (some 1) else (some 0)))) = some r := by rw [if_neg (show ¬ (false = true) by decide)] at H; exact H
   clear H
   have H := H1
   clear H1
   by_cases c7 : t109 = true
   · subst c7
     have H1 : (some 1) = some r := by rw [if_pos rfl] at H; exact H
     clear H
     have H := H1
     clear H1
     obtain rfl := Option.some.inj H
     go_enter Try.func38, Try.ntmps38
     go_wp2_with (first | ((with_reducible refine gate_callee (f := 61) rfl ?_); refine goesL_ (some 8) rfl rfl Try.func61 (by kernel_rfl) rfl #[.string a0] rfl (by (try simp only [List.map_toArray, List.map_cons, List.map_nil]); first | done | rfl | (simp only [List.length_drop, List.length_take]; rfl)) ?_; (with_reducible refine (cmp_isNaN_string.calls a0 false _ A3.out).mono ?_); rintro e w' ⟨rfl, ⟨nd, rfl⟩⟩; refine ⟨_, rfl, ?_⟩) | ((with_reducible refine gate_callee (f := 61) rfl ?_); refine goesL_ (some 10) rfl rfl Try.func61 (by kernel_rfl) rfl #[.string a1] rfl (by (try simp only [List.map_toArray, List.map_cons, List.map_nil]); first | done | rfl | (simp only [List.length_drop, List.length_take]; rfl)) ?_; (with_reducible refine (cmp_isNaN_string.calls a1 true _ A4.out).mono ?_); rintro e w' ⟨rfl, ⟨nd, rfl⟩⟩; refine ⟨_, rfl, ?_⟩))
     go_ret
     exact ⟨by first | rfl | (simp; done) | (simp [*]; done), by repeat (first | exact Drawn0.refl _ | apply Drawn0.step)⟩
   · replace c7 := Bool.eq_false_iff.mpr c7
     subst c7
     have H1 : (if (Op.bytesLess a0.toList a1.toList) = true then (some (-1)) else (if (Op.bytesLess a1.toList a0.toList) = true then (some 1) else (some 0))) = some r := by rw [if_neg (show ¬ (false = true) by decide)] at H; exact H
     clear H
     have H := H1
     clear H1
     by_cases c8 : (Op.bytesLess a0.toList a1.toList) = true
     · rw [if_pos c8] at H
       have c8b0 : (Op.bytesLess a0.toList a1.toList) = true := c8
       clear c8
       obtain rfl := Option.some.inj H
       go_enter Try.func38, Try.ntmps38
       go_wp2_with (first | ((with_reducible refine gate_callee (f := 61) rfl ?_); refine goesL_ (some 8) rfl rfl Try.func61 (by kernel_rfl) rfl #[.string a0] rfl (by (try simp only [List.map_toArray, List.map_cons, List.map_nil]); first | done | rfl | (simp only [List.length_drop, List.length_take]; rfl)) ?_; (with_reducible refine (cmp_isNaN_string.calls a0 false _ A3.out).mono ?_); rintro e w' ⟨rfl, ⟨nd, rfl⟩⟩; refine ⟨_, rfl, ?_⟩) | ((with_reducible refine gate_callee (f := 61) rfl ?_); refine goesL_ (some 10) rfl rfl Try.func61 (by kernel_rfl) rfl #[.string a1] rfl (by (try simp only [List.map_toArray, List.map_cons, List.map_nil]); first | done | rfl | (simp only [List.length_drop, List.length_take]; rfl)) ?_; (with_reducible refine (cmp_isNaN_string.calls a1 false _ A4.out).mono ?_); rintro e w' ⟨rfl, ⟨nd, rfl⟩⟩; refine ⟨_, rfl, ?_⟩))
       go_ret
       exact ⟨by first | rfl | (simp; done) | (simp [*]; done), by repeat (first | exact Drawn0.refl _ | apply Drawn0.step)⟩
     · rw [if_neg c8] at H
       have c8b0 : (Op.bytesLess a0.toList a1.toList) = false := by simpa using c8
       clear c8
       by_cases c9 : (Op.bytesLess a1.toList a0.toList) = true
       · rw [if_pos c9] at H
         have c9b0 : (Op.bytesLess a1.toList a0.toList) = true := c9
         have c9n : (a0.toList == a1.toList) = false := beq_eq_false_iff_ne.mpr (fun e_ => by rw [e_, Go.Proofs.Ytkhcmddeeodbkaa.Q.bl_irr] at c9b0; cases c9b0)
         clear c9
         obtain rfl := Option.some.inj H
         go_enter Try.func38, Try.ntmps38
         go_wp2_with (first | ((with_reducible refine gate_callee (f := 61) rfl ?_); refine goesL_ (some 8) rfl rfl Try.func61 (by kernel_rfl) rfl #[.string a0] rfl (by (try simp only [List.map_toArray, List.map_cons, List.map_nil]); first | done | rfl | (simp only [List.length_drop, List.length_take]; rfl)) ?_; (with_reducible refine (cmp_isNaN_string.calls a0 false _ A3.out).mono ?_); rintro e w' ⟨rfl, ⟨nd, rfl⟩⟩; refine ⟨_, rfl, ?_⟩) | ((with_reducible refine gate_callee (f := 61) rfl ?_); refine goesL_ (some 10) rfl rfl Try.func61 (by kernel_rfl) rfl #[.string a1] rfl (by (try simp only [List.map_toArray, List.map_cons, List.map_nil]); first | done | rfl | (simp only [List.length_drop, List.length_take]; rfl)) ?_; (with_reducible refine (cmp_isNaN_string.calls a1 false _ A4.out).mono ?_); rintro e w' ⟨rfl, ⟨nd, rfl⟩⟩; refine ⟨_, rfl, ?_⟩))
         go_ret
         exact ⟨by first | rfl | (simp; done) | (simp [*]; done), by repeat (first | exact Drawn0.refl _ | apply Drawn0.step)⟩
       · rw [if_neg c9] at H
         have c9b0 : (Op.bytesLess a1.toList a0.toList) = false := by simpa using c9
         have c9n : (a0.toList == a1.toList) = true := by rw [Go.Proofs.Ytkhcmddeeodbkaa.Q.bl_tri _ _ c8b0 c9b0]; exact beq_self_eq_true _
         clear c9
         obtain rfl := Option.some.inj H
         go_enter Try.func38, Try.ntmps38
         go_wp2_with (first | ((with_reducible refine gate_callee (f := 61) rfl ?_); refine goesL_ (some 8) rfl rfl Try.func61 (by kernel_rfl) rfl #[.string a0] rfl (by (try simp only [List.map_toArray, List.map_cons, List.map_nil]); first | done | rfl | (simp only [List.length_drop, List.length_take]; rfl)) ?_; (with_reducible refine (cmp_isNaN_string.calls a0 false _ A3.out).mono ?_); rintro e w' ⟨rfl, ⟨nd, rfl⟩⟩; refine ⟨_, rfl, ?_⟩) | ((with_reducible refine gate_callee (f := 61) rfl ?_); refine goesL_ (some 10) rfl rfl Try.func61 (by kernel_rfl) rfl #[.string a1] rfl (by (try simp only [List.map_toArray, List.map_cons, List.map_nil]); first | done | rfl | (simp only [List.length_drop, List.length_take]; rfl)) ?_; (with_reducible refine (cmp_isNaN_string.calls a1 false _ A4.out).mono ?_); rintro e w' ⟨rfl, ⟨nd, rfl⟩⟩; refine ⟨_, rfl, ?_⟩))
         go_ret
         exact ⟨by first | rfl | (simp; done) | (simp [*]; done), by repeat (first | exact Drawn0.refl _ | apply Drawn0.step)⟩
end Go.Proofs.Ytkhcmddeeodbkaa.XSor
namespace Go.Proofs.Ytkhcmddeeodbkaa.XSor
open Go.RowKit Go.Proofs.Ytkhcmddeeodbkaa.G Go.Proofs.YtkhcmddeeodbkaaW.PrintWords Go.Proofs.YtkhcmddeeodbkaaW.PrintLast Go.Proofs.YtkhcmddeeodbkaaW.PrintMore
attribute [local go_sem] max2_int min2_int max_two min_two max_three min_three max_four min_four
def sorted_Less.f (k : Nat) (a0 : ByteArray) (a1 : ByteArray) : Option (Bool) := (hash_Of.f k a0).bind fun t110 => ((hash_Of.f k a1).bind fun t111 => ((cmp_Compare_uint64.f t110 t111).bind fun t112 => ((cmp_Compare_string.f a0 a1).bind fun t113 => ((cmp_Or_int.f k (([t112, t113] : List Int))).bind fun t117 => (some (decide (t117 < 0)))))))
theorem sorted_Less.mono : ∀ a0 a1 k, LeO (sorted_Less.f k a0 a1) (sorted_Less.f (k + 1) a0 a1) := by
 intro a0 a1 k
 unfold sorted_Less.f
 repeat' first
     | (with_reducible exact cmp_Or_int.mono _ _)
     | (with_reducible exact hash_Of.mono _ _)
     | (with_reducible exact LeO.refl _)
     | (with_reducible exact LeO.none _)
     | (with_reducible refine LeO.ite ?_ ?_)
     | (with_reducible refine LeO.bind ?_ (fun _ => ?_))
     | exact cmp_Or_int.mono _ _
     | exact hash_Of.mono _ _
     | exact LeO.none _
     | refine LeO.ite ?_ ?_
     | refine LeO.bind ?_ (fun _ => ?_)
set_option maxHeartbeats 8000000 in
set_option maxRecDepth 100000 in
theorem sorted_Less.calls (k : Nat) (a0 : ByteArray) (a1 : ByteArray) (r : Bool) (w : World) (h : sorted_Less.f k a0 a1 = some r) :
    Calls Try.prog 15 #[.string a0, .string a1] w fun e w' => e = .returned (.bool r) ∧ Below w.heap.size w w' := by
 have HB := Aside0.mk (Below.refl w.heap.size w)
 have H : ((hash_Of.f k a0).bind fun t110 => ((hash_Of.f k a1).bind fun t111 => ((cmp_Compare_uint64.f t110 t111).bind fun t112 => ((cmp_Compare_string.f a0 a1).bind fun t113 => ((cmp_Or_int.f k (([t112, t113] : List Int))).bind fun t117 => (some (decide (t117 < 0)))))))) = some r := h
 clear h
 replace H := Option.bind_eq_some_iff.mp H
 obtain ⟨t110, A30, H⟩ := H
 replace H : ((hash_Of.f k a1).bind fun t111 => ((cmp_Compare_uint64.f t110 t111).bind fun t112 => ((cmp_Compare_string.f a0 a1).bind fun t113 => ((cmp_Or_int.f k (([t112, t113] : List Int))).bind fun t117 => (some (decide (t117 < 0))))))) = some r := H
 have A3 := Aside0.mk A30
 clear A30
 replace H := Option.bind_eq_some_iff.mp H
 obtain ⟨t111, A40, H⟩ := H
 replace H : ((cmp_Compare_uint64.f t110 t111).bind fun t112 => ((cmp_Compare_string.f a0 a1).bind fun t113 => ((cmp_Or_int.f k (([t112, t113] : List Int))).bind fun t117 => (some (decide (t117 < 0)))))) = some r := H
 have A4 := Aside0.mk A40
 clear A40
 replace H := Option.bind_eq_some_iff.mp H
 obtain ⟨t112, A50, H⟩ := H
 replace H : ((cmp_Compare_string.f a0 a1).bind fun t113 => ((cmp_Or_int.f k (([t112, t113] : List Int))).bind fun t117 => (some (decide (t117 < 0))))) = some r := H
 have A5 := Aside0.mk A50
 clear A50
 replace H := Option.bind_eq_some_iff.mp H
 obtain ⟨t113, A60, H⟩ := H
 replace H : ((cmp_Or_int.f k (([t112, t113] : List Int))).bind fun t117 => (some (decide (t117 < 0)))) = some r := H
 have A6 := Aside0.mk A60
 clear A60
 obtain ⟨y114, hy114⟩ : ∃ y_ : List Int, y_ = (([t112, t113] : List Int)) := ⟨_, rfl⟩
 replace H : ((cmp_Or_int.f k y114).bind fun t117 => (some (decide (t117 < 0)))) = some r := by first | (rw [hy114]; with_reducible exact H) | (have H2_ := (Option.bind_some _ _).symm.trans H; rw [hy114]; with_reducible exact H2_) | (have H2_ := (Option.bind_some _ _).symm.trans H; with_reducible exact H2_) | with_reducible exact H | (rw [hy114]; exact H) | exact H
 have Ny114 := Aside0.mk hy114
 clear hy114
 replace H := Option.bind_eq_some_iff.mp H
 obtain ⟨t117, A70, H⟩ := H
 replace H : (some (decide (t117 < 0))) = some r := H
 have A7 := Aside0.mk A70
 clear A70
 obtain rfl := Option.some.inj H
 go_enter Try.func15, Try.ntmps15
 go_wp2_with (first | ((with_reducible refine gate_callee (f := 32) rfl ?_); refine goesL_ (some 6) rfl rfl Try.func32 (by kernel_rfl) rfl #[.string a0] rfl (by (try simp only [List.map_toArray, List.map_cons, List.map_nil]); first | done | rfl | (simp only [List.length_drop, List.length_take]; rfl)) ?_; (with_reducible refine (hash_Of.calls k a0 t110 _ A3.out).mono ?_); rintro e w8 ⟨rfl, hb⟩; refine ⟨_, rfl, ?_⟩; have n0_ := Aside0.mk (below_step (by repeat (first | (with_reducible first | exact HB.out | apply below_alloc | apply pw_below_drewN | apply below_drew1) | exact HB.out)) hb); clear HB; have HB := n0_; clear n0_; (try clear hb); (try clear hb2); (try clear hk); (try clear hi)) | ((with_reducible refine gate_callee (f := 32) rfl ?_); refine goesL_ (some 8) rfl rfl Try.func32 (by kernel_rfl) rfl #[.string a1] rfl (by (try simp only [List.map_toArray, List.map_cons, List.map_nil]); first | done | rfl | (simp only [List.length_drop, List.length_take]; rfl)) ?_; (with_reducible refine (hash_Of.calls k a1 t111 _ A4.out).mono ?_); rintro e w9 ⟨rfl, hb⟩; refine ⟨_, rfl, ?_⟩; have n0_ := Aside0.mk (below_step (by repeat (first | (with_reducible first | exact HB.out | apply below_alloc | apply pw_below_drewN | apply below_drew1) | exact HB.out)) hb); clear HB; have HB := n0_; clear n0_; (try clear hb); (try clear hb2); (try clear hk); (try clear hi)) | ((with_reducible refine gate_callee (f := 37) rfl ?_); refine goesL_ (some 9) rfl rfl Try.func37 (by kernel_rfl) rfl #[.int .u64 t110, .int .u64 t111] rfl (by (try simp only [List.map_toArray, List.map_cons, List.map_nil]); first | done | rfl | (simp only [List.length_drop, List.length_take]; rfl)) ?_; (with_reducible refine (cmp_Compare_uint64.calls t110 t111 t112 _ A5.out).mono ?_); rintro e w' ⟨rfl, ⟨nd, rfl⟩⟩; refine ⟨_, rfl, ?_⟩) | ((with_reducible refine gate_callee (f := 38) rfl ?_); refine goesL_ (some 12) rfl rfl Try.func38 (by kernel_rfl) rfl #[.string a0, .string a1] rfl (by (try simp only [List.map_toArray, List.map_cons, List.map_nil]); first | done | rfl | (simp only [List.length_drop, List.length_take]; rfl)) ?_; (with_reducible refine (cmp_Compare_string.calls a0 a1 t113 _ A6.out).mono ?_); rintro e w' ⟨rfl, ⟨nd, rfl⟩⟩; refine ⟨_, rfl, ?_⟩) | ((with_reducible refine gate_dst (N := 13) rfl ?_); refine Kd.R_lit (Kd.int .i64) _ 3 ?hg (N := 13) ?hd (xs := ([t112, t113] : List Int)) (inner := [.int .i64 t112, .int .i64 t113]) (ok := fun _ => True) (okp := fun _ => True) ?hr ?hp (fun _ hk => hk) trivial (Below.refl _ _) (Nat.le_refl _) (by simp) ?_; (case hd => rfl); (case hg => rfl); (case hr => first | (go_simp; done) | (go_simp; rfl)); (case hp => exact (Reps.one (show Kd.M (Kd.int .i64) _ _ _ t112 [.int .i64 t112] from rfl) (Reps.one (show Kd.M (Kd.int .i64) _ _ _ t113 [.int .i64 t113] from rfl) (Reps.none _ _)))); intro v115 w10 ho11 hb hg_ hnew_; clear hg_ hnew_; (first | rw [← Ny114.out] at ho11 | (simp only [Int.reduceToNat] at ho11; rw [← Ny114.out] at ho11)); have n0_ := Aside0.mk (Kd.R_lower ho11 (below_size (by repeat (first | (with_reducible first | exact HB.out | apply below_alloc | apply pw_below_drewN | apply below_drew1) | exact HB.out)))); have n1_ := Aside0.mk (below_step (by repeat (first | (with_reducible first | exact HB.out | apply below_alloc | apply pw_below_drewN | apply below_drew1) | exact HB.out)) hb); clear HB; have HO116 := n0_; have HB := n1_; clear n0_ n1_; clear hb ho11; obtain ⟨Ao12, co12, eo12⟩ := Kd.R_slice HO116.out; subst eo12) | ((with_reducible refine gate_callee (f := 36) rfl ?_); refine goesL_ (some 14) rfl rfl Try.func36 (by kernel_rfl) rfl #[.slice Ao12 y114.length co12] rfl (by (try simp only [List.map_toArray, List.map_cons, List.map_nil]); first | done | rfl | (simp only [List.length_drop, List.length_take]; rfl)) ?_; (with_reducible refine (cmp_Or_int.calls k _ _ y114 t117 _ ?side1 ?side2 A7.out).mono ?_); (case side1 => repeat (first | exact (Kd.R_reads' HO116.out).2.2 | (with_reducible refine Kd.C_alloc ?_ _) | (with_reducible refine Kd.C_drewN ?_ _) | (with_reducible refine Kd.C_drew ?_))); (case side2 => exact (Kd.R_reads' HO116.out).2.1); rintro e w' ⟨rfl, ⟨nd, rfl⟩⟩; refine ⟨_, rfl, ?_⟩))
 go_ret
 exact ⟨by first | rfl | (simp [errW_none, errW_some] <;> rfl) | (simp [*, errW_none, errW_some] <;> rfl), by repeat (first | (with_reducible first | exact HB.out | apply below_alloc | apply pw_below_drewN | apply below_drew1) | exact HB.out)⟩
end Go.Proofs.Ytkhcmddeeodbkaa.XSor
namespace Go.Proofs.Ytkhcmddeeodbkaa.XSor
open Go.RowKit Go.Proofs.Ytkhcmddeeodbkaa.G Go.Proofs.YtkhcmddeeodbkaaW.PrintWords Go.Proofs.YtkhcmddeeodbkaaW.PrintLast Go.Proofs.YtkhcmddeeodbkaaW.PrintMore
attribute [local go_sem] max2_int min2_int max_two min_two max_three min_three max_four min_four
def loessref22_Less.f (k : Nat) (a0 : ByteArray) (a1 : ByteArray) : Option (Bool) := (loessref6_Hash.f k a0).bind fun t175 => ((loessref6_Hash.f k a1).bind fun t176 => (if t175 < t176 then (some true) else (if t175 = t176 then (some (Op.bytesLess a0.toList a1.toList)) else (some false))))
theorem loessref22_Less.mono : ∀ a0 a1 k, LeO (loessref22_Less.f k a0 a1) (loessref22_Less.f (k + 1) a0 a1) := by
 intro a0 a1 k
 unfold loessref22_Less.f
 repeat' first
     | (with_reducible exact loessref6_Hash.mono _ _)
     | (with_reducible exact LeO.refl _)
     | (with_reducible exact LeO.none _)
     | (with_reducible refine LeO.ite ?_ ?_)
     | (with_reducible refine LeO.bind ?_ (fun _ => ?_))
     | exact loessref6_Hash.mono _ _
     | exact LeO.none _
     | refine LeO.ite ?_ ?_
     | refine LeO.bind ?_ (fun _ => ?_)
set_option maxHeartbeats 8000000 in
set_option maxRecDepth 100000 in
theorem loessref22_Less.calls (k : Nat) (a0 : ByteArray) (a1 : ByteArray) (r : Bool) (w : World) (h : loessref22_Less.f k a0 a1 = some r) :
    Calls Try.prog 16 #[.string a0, .string a1] w fun e w' => e = .returned (.bool r) ∧ Below w.heap.size w w' := by
 have HB := Aside0.mk (Below.refl w.heap.size w)
 have H : ((loessref6_Hash.f k a0).bind fun t175 => ((loessref6_Hash.f k a1).bind fun t176 => (if t175 < t176 then (some true) else (if t175 = t176 then (some (Op.bytesLess a0.toList a1.toList)) else (some false))))) = some r := h
 clear h
 replace H := Option.bind_eq_some_iff.mp H
 obtain ⟨t175, A30, H⟩ := H
 replace H : ((loessref6_Hash.f k a1).bind fun t176 => (if t175 < t176 then (some true) else (if t175 = t176 then (some (Op.bytesLess a0.toList a1.toList)) else (some false)))) = some r := H
 have A3 := Aside0.mk A30
 clear A30
 replace H := Option.bind_eq_some_iff.mp H
 obtain ⟨t176, A40, H⟩ := H
 replace H : (if t175 < t176 then (some true) else (if t175 = t176 then (some (Op.bytesLess a0.toList a1.toList)) else (some false))) = some r := H
 have A4 := Aside0.mk A40
 clear A40
 by_cases c5 : t175 < t176
 · rw [if_pos c5] at H
   have c5b0 : decide (t175 < t176) = true := decide_eq_true c5
   clear c5
   obtain rfl := Option.some.inj H
   go_enter Try.func16, Try.ntmps16
   go_wp2_with (first | ((with_reducible refine gate_callee (f := 39) rfl ?_); refine goesL_ (some 8) rfl rfl Try.func39 (by kernel_rfl) rfl #[.string a0] rfl (by (try simp only [List.map_toArray, List.map_cons, List.map_nil]); first | done | rfl | (simp only [List.length_drop, List.length_take]; rfl)) ?_; (with_reducible refine (loessref6_Hash.calls k a0 t175 _ A3.out).mono ?_); rintro e w6 ⟨rfl, hb⟩; refine ⟨_, rfl, ?_⟩; have n0_ := Aside0.mk (below_step (by repeat (first | (with_reducible first | exact HB.out | apply below_alloc | apply pw_below_drewN | apply below_drew1) | exact HB.out)) hb); clear HB; have HB := n0_; clear n0_; (try clear hb); (try clear hb2); (try clear hk); (try clear hi)) | ((with_reducible refine gate_callee (f := 39) rfl ?_); refine goesL_ (some 10) rfl rfl Try.func39 (by kernel_rfl) rfl #[.string a1] rfl (by (try simp only [List.map_toArray, List.map_cons, List.map_nil]); first | done | rfl | (simp only [List.length_drop, List.length_take]; rfl)) ?_; (with_reducible refine (loessref6_Hash.calls k a1 t176 _ A4.out).mono ?_); rintro e w7 ⟨rfl, hb⟩; refine ⟨_, rfl, ?_⟩; have n0_ := Aside0.mk (below_step (by repeat (first | (with_reducible first | exact HB.out | apply below_alloc | apply pw_below_drewN | apply below_drew1) | exact HB.out)) hb); clear HB; have HB := n0_; clear n0_; (try clear hb); (try clear hb2); (try clear hk); (try clear hi)))
   go_ret
   exact ⟨by first | rfl | (simp [errW_none, errW_some] <;> rfl) | (simp [*, errW_none, errW_some] <;> rfl), by repeat (first | (with_reducible first | exact HB.out | apply below_alloc | apply pw_below_drewN | apply below_drew1) | exact HB.out)⟩
 · rw [if_neg c5] at H
   have c5b0 : decide (t175 < t176) = false := decide_eq_false c5
   clear c5
   by_cases c8 : t175 = t176
   · rw [if_pos c8] at H
     have c8b0 : (t175 == t176) = true := beq_iff_eq.mpr c8
     have c8b1 : (t175 != t176) = false := bne_eq_false_iff_eq.mpr c8
     clear c8
     obtain rfl := Option.some.inj H
     go_enter Try.func16, Try.ntmps16
     go_wp2_with (first | ((with_reducible refine gate_callee (f := 39) rfl ?_); refine goesL_ (some 8) rfl rfl Try.func39 (by kernel_rfl) rfl #[.string a0] rfl (by (try simp only [List.map_toArray, List.map_cons, List.map_nil]); first | done | rfl | (simp only [List.length_drop, List.length_take]; rfl)) ?_; (with_reducible refine (loessref6_Hash.calls k a0 t175 _ A3.out).mono ?_); rintro e w9 ⟨rfl, hb⟩; refine ⟨_, rfl, ?_⟩; have n0_ := Aside0.mk (below_step (by repeat (first | (with_reducible first | exact HB.out | apply below_alloc | apply pw_below_drewN | apply below_drew1) | exact HB.out)) hb); clear HB; have HB := n0_; clear n0_; (try clear hb); (try clear hb2); (try clear hk); (try clear hi)) | ((with_reducible refine gate_callee (f := 39) rfl ?_); refine goesL_ (some 10) rfl rfl Try.func39 (by kernel_rfl) rfl #[.string a1] rfl (by (try simp only [List.map_toArray, List.map_cons, List.map_nil]); first | done | rfl | (simp only [List.length_drop, List.length_take]; rfl)) ?_; (with_reducible refine (loessref6_Hash.calls k a1 t176 _ A4.out).mono ?_); rintro e w10 ⟨rfl, hb⟩; refine ⟨_, rfl, ?_⟩; have n0_ := Aside0.mk (below_step (by repeat (first | (with_reducible first | exact HB.out | apply below_alloc | apply pw_below_drewN | apply below_drew1) | exact HB.out)) hb); clear HB; have HB := n0_; clear n0_; (try clear hb); (try clear hb2); (try clear hk); (try clear hi)))
     go_ret
     exact ⟨by first | rfl | (simp [errW_none, errW_some] <;> rfl) | (simp [*, errW_none, errW_some] <;> rfl), by repeat (first | (with_reducible first | exact HB.out | apply below_alloc | apply pw_below_drewN | apply below_drew1) | exact HB.out)⟩
   · rw [if_neg c8] at H
     have c8b0 : (t175 == t176) = false := beq_eq_false_iff_ne.mpr c8
     have c8b1 : (t175 != t176) = true := bne_iff_ne.mpr c8
     obtain rfl := Option.some.inj H
     go_enter Try.func16, Try.ntmps16
     go_wp2_with (first | ((with_reducible refine gate_callee (f := 39) rfl ?_); refine goesL_ (some 8) rfl rfl Try.func39 (by kernel_rfl) rfl #[.string a0] rfl (by (try simp only [List.map_toArray, List.map_cons, List.map_nil]); first | done | rfl | (simp only [List.length_drop, List.length_take]; rfl)) ?_; (with_reducible refine (loessref6_Hash.calls k a0 t175 _ A3.out).mono ?_); rintro e w11 ⟨rfl, hb⟩; refine ⟨_, rfl, ?_⟩; have n0_ := Aside0.mk (below_step (by repeat (first | (with_reducible first | exact HB.out | apply below_alloc | apply pw_below_drewN | apply below_drew1) | exact HB.out)) hb); clear HB; have HB := n0_; clear n0_; (try clear hb); (try clear hb2); (try clear hk); (try clear hi)) | ((with_reducible refine gate_callee (f := 39) rfl ?_); refine goesL_ (some 10) rfl rfl Try.func39 (by kernel_rfl) rfl #[.string a1] rfl (by (try simp only [List.map_toArray, List.map_cons, List.map_nil]); first | done | rfl | (simp only [List.length_drop, List.length_take]; rfl)) ?_; (with_reducible refine (loessref6_Hash.calls k a1 t176 _ A4.out).mono ?_); rintro e w12 ⟨rfl, hb⟩; refine ⟨_, rfl, ?_⟩; have n0_ := Aside0.mk (below_step (by repeat (first | (with_reducible first | exact HB.out | apply below_alloc | apply pw_below_drewN | apply below_drew1) | exact HB.out)) hb); clear HB; have HB := n0_; clear n0_; (try clear hb); (try clear hb2); (try clear hk); (try clear hi)))
     go_ret
     exact ⟨by first | rfl | (simp [errW_none, errW_some] <;> rfl) | (simp [*, errW_none, errW_some] <;> rfl), by repeat (first | (with_reducible first | exact HB.out | apply below_alloc | apply pw_below_drewN | apply below_drew1) | exact HB.out)⟩
end Go.Proofs.Ytkhcmddeeodbkaa.XSor
namespace Go.Proofs.Ytkhcmddeeodbkaa.Q
open Go.RowKit Go.Proofs.YtkhcmddeeodbkaaW.PrintWords Go.Proofs.YtkhcmddeeodbkaaW.PrintMore Go.Proofs.Ytkhcmddeeodbkaa.G Go.Proofs.Ytkhcmddeeodbkaa.XSor
abbrev Pr := S30
def ltK (a b : ByteArray) : Bool := decide (H a < H b) || (decide (H a = H b) && Op.bytesLess a.toList b.toList)
theorem ltK_iff (a b : ByteArray) : ltK a b = true ↔ H a < H b ∨ (H a = H b ∧ Op.bytesLess a.toList b.toList = true) := by
 unfold ltK
 rw [Bool.or_eq_true, Bool.and_eq_true, decide_eq_true_eq, decide_eq_true_eq]
theorem ltK_irr (a : ByteArray) : ltK a a = false := by
 rw [Bool.eq_false_iff]
 intro h
 rcases (ltK_iff a a).1 h with h | h
 · omega
 · rw [bl_irr] at h; exact Bool.false_ne_true h.2
theorem ltK_trans {a b c : ByteArray} (h : ltK a b = true) (g : ltK b c = true) : ltK a c = true := by
 rw [ltK_iff] at h g ⊢
 rcases h with h | ⟨h, h'⟩ <;> rcases g with g | ⟨g, g'⟩
 · exact .inl (by omega)
 · exact .inl (by omega)
 · exact .inl (by omega)
 · exact .inr ⟨by omega, bl_trans _ _ _ h' g'⟩
theorem ltK_tri {a b : ByteArray} (h : ltK a b = false) (g : ltK b a = false) : a = b := by
 have h1 : ¬ (H a < H b ∨ (H a = H b ∧ Op.bytesLess a.toList b.toList = true)) := fun e => by rw [(ltK_iff a b).2 e] at h; cases h
 have g1 : ¬ (H b < H a ∨ (H b = H a ∧ Op.bytesLess b.toList a.toList = true)) := fun e => by rw [(ltK_iff b a).2 e] at g; cases g
 have e : H a = H b := by omega
 refine toList_inj (bl_tri _ _ ?_ ?_)
 · exact Bool.eq_false_iff.2 fun x => h1 (.inr ⟨e, x⟩)
 · exact Bool.eq_false_iff.2 fun x => g1 (.inr ⟨e.symm, x⟩)
theorem or_ev (x y : Int) : Ev (fun k => cmp_Or_int.f k [x, y]) (if x = 0 then y else x) := by
 refine Ev.step (f := fun k => if x = 0 then cmp_Or_int.l0 k 0 [x, y] 2 1 else some x) (fun k => ?_) ?_
 · show cmp_Or_int.l0 (k + 1) 0 [x, y] 2 0 = _
   rw [cmp_Or_int.l0, if_pos (by decide), if_pos (by decide), if_pos (by show (0 : Int) < (([x, y] : List Int).length : Int); simp), show rd [x, y] 0 = x from rfl, show wrap64 (0 + 1) = 1 from w64 (by decide) (by decide)]
 by_cases hx : x = 0
 · rw [if_pos hx]
   refine Ev.congr (fun k => if_pos hx) (Ev.step (f := fun k => if y = 0 then cmp_Or_int.l0 k 0 [x, y] 2 2 else some y) (fun k => ?_) ?_)
   · rw [cmp_Or_int.l0, if_pos (by decide), if_pos (by decide), if_pos (by simp), show rd [x, y] 1 = y from rfl, show wrap64 (1 + 1) = 2 from w64 (by decide) (by decide)]
   by_cases hy : y = 0
   · refine Ev.congr (fun k => if_pos hy) (Ev.step (f := fun _ => some 0) (fun k => ?_) (evEq (Ev.now _) hy.symm))
     rw [cmp_Or_int.l0, if_neg (by decide)]
   · exact Ev.congr (fun k => if_neg hy) (Ev.now _)
 · rw [if_neg hx]
   exact Ev.congr (fun k => if_neg hx) (Ev.now _)
theorem cmpS_eq (a b : ByteArray) : cmp_Compare_string.f a b = some (if Op.bytesLess a.toList b.toList = true then -1 else if Op.bytesLess b.toList a.toList = true then 1 else 0) := by
 unfold cmp_Compare_string.f cmp_isNaN_string.f
 have h : ∀ s : ByteArray, (s.toList != s.toList) = false := fun s => by simp
 rw [h, h]
 simp only [Option.bind_some, Bool.false_eq_true, if_false]
 split
 · rfl
 · split <;> rfl
theorem cmpU_eq (a b : Int) : cmp_Compare_uint64.f a b = some (if a < b then -1 else if a > b then 1 else 0) := by
 unfold cmp_Compare_uint64.f cmp_isNaN_uint64.f
 have h : ∀ s : Int, (s != s) = false := fun s => by simp
 rw [h, h]
 simp only [Option.bind_some, Bool.false_eq_true, if_false]
 split
 · rfl
 · split <;> rfl
theorem less_ev {a b : ByteArray} (ha : a.size < 17592186044416) (hb : b.size < 17592186044416) : Ev (fun k => sorted_Less.f k a b) (ltK a b) := by
 unfold sorted_Less.f
 refine Ev.bind (hash_ev ha) (Ev.bind (hash_ev hb) (Ev.bind (evC (cmpU_eq _ _)) (Ev.bind (evC (cmpS_eq a b)) (Ev.bind (or_ev _ _) (evC ?_)))))
 congr 1
 unfold ltK
 by_cases h1 : H a < H b
 · simp [h1]
 by_cases h2 : H a > H b
 · simp [h1, h2, show ¬ H a = H b by omega]
 have h3 : H a = H b := by omega
 by_cases h4 : Op.bytesLess a.toList b.toList = true
 · simp [h3, h4]
 · by_cases h5 : Op.bytesLess b.toList a.toList = true
   · simp [h3, h4, h5]
   · simp [h3, h4, h5]
theorem refLess_ev {a b : ByteArray} (ha : a.size < 17592186044416) (hb : b.size < 17592186044416) : Ev (fun k => loessref22_Less.f k a b) (ltK a b) := by
 unfold loessref22_Less.f
 refine Ev.bind (refHash_ev ha) (Ev.bind (refHash_ev hb) (evC ?_))
 unfold ltK
 by_cases h1 : H a < H b
 · simp [h1]
 by_cases h3 : H a = H b
 · simp [h3]
 · simp [h1, h3]
def recP (p : Pr) : Rc := ⟨p.f0, false, p.f1⟩
def okP (p : Pr) : Bool := mayR (recP p)
def good (L : List Pr) (j : Nat) : Prop := ∃ h : j < L.length, okP L[j] = true ∧ (0 < j → ltK (L[j - 1]'(by omega)).f0 L[j].f0 = true)
def MayP (L : List Pr) : Prop := L.length ≤ 1000 ∧ ∀ j, j < L.length → good L j
theorem MayP.ok {L : List Pr} (h : MayP L) {p : Pr} (hp : p ∈ L) : okP p = true := by
 obtain ⟨j, hj, rfl⟩ := List.getElem_of_mem hp
 exact (h.2 j hj).2.1
theorem MayP.rise {L : List Pr} (h : MayP L) : L.Pairwise (fun p q => ltK p.f0 q.f0 = true) := by
 rw [List.pairwise_iff_getElem]
 intro i j hi hj hij
 have key : ∀ d i (hd : i + d + 1 < L.length), ltK (L[i]'(by omega)).f0 L[i + d + 1].f0 = true := by
  intro d
  induction d with
  | zero =>
    intro i hd
    have := (h.2 (i + 1) (by omega)).2.2 (by omega)
    exact this
  | succ d ih =>
    intro i hd
    have h1 := ih i (by omega)
    have h2 := (h.2 (i + d + 1 + 1) (by omega)).2.2 (by omega)
    exact ltK_trans h1 h2
 have := key (j - i - 1) i (by omega)
 rw [show L[i + (j - i - 1) + 1]'(by omega) = L[j] from by congr 1; omega] at this
 exact this
def addH (acc : List Int) (x : Int) : List Int := if acc.getLast? = some x then acc else acc ++ [x]
def hsL (L : List Pr) : List Int := L.foldl (fun acc p => addH acc (H p.f0)) []
theorem hsL_snoc (L : List Pr) (p : Pr) : hsL (L ++ [p]) = addH (hsL L) (H p.f0) := by unfold hsL; rw [List.foldl_append]; rfl
def lowP (L : List Pr) (h : Int) : Nat := (L.filter (fun p => decide (H p.f0 < h))).length
def ofH (L : List Pr) (h : Int) : List Pr := L.filter (fun p => decide (H p.f0 = h))
def atL (L : List Pr) : List Int := (hsL L).map (fun h => (lowP L h : Int))
def SortH (L : List Pr) : Prop := L.Pairwise (fun p q => H p.f0 ≤ H q.f0)
theorem MayP.sortH {L : List Pr} (h : MayP L) : SortH L := h.rise.imp (fun {p q} g => by
 rcases (ltK_iff _ _).1 g with g | g <;> omega)
theorem rev_ind {α : Type} {P : List α → Prop} (h0 : P []) (h1 : ∀ (L : List α) (x : α), P L → P (L ++ [x])) : ∀ L, P L := by
 have key : ∀ (n : Nat) (L : List α), L.length = n → P L := by
  intro n
  induction n with
  | zero => intro L h; rw [List.eq_nil_of_length_eq_zero h]; exact h0
  | succ n ih =>
    intro L h
    have hne : L ≠ [] := fun e => by rw [e] at h; cases h
    rw [← List.dropLast_concat_getLast hne]
    exact h1 _ _ (ih _ (by rw [List.length_dropLast]; omega))
 exact fun L => key L.length L rfl
theorem hsL_inv : ∀ L : List Pr, SortH L → (hsL L).Pairwise (· < ·) ∧ (∀ p ∈ L, H p.f0 ∈ hsL L) ∧ (∀ h ∈ hsL L, ∃ p ∈ L, H p.f0 = h) ∧ (∀ x, (hsL L).getLast? = some x → ∀ p ∈ L, H p.f0 ≤ x) := by
 refine rev_ind (fun _ => ⟨List.Pairwise.nil, by simp, by simp [hsL], by simp [hsL]⟩) (fun L p ih hs => ?_)
 · skip
   have hs' := List.pairwise_append.1 hs
   obtain ⟨h1, h2, h3, h4⟩ := ih hs'.1
   have hp : ∀ q ∈ L, H q.f0 ≤ H p.f0 := fun q hq => hs'.2.2 q hq p (List.mem_singleton.2 rfl)
   rw [hsL_snoc]
   unfold addH
   by_cases c : (hsL L).getLast? = some (H p.f0)
   · rw [if_pos c]
     refine ⟨h1, fun q hq => ?_, fun h hh => ?_, fun x hx q hq => ?_⟩
     · rcases List.mem_append.1 hq with hq | hq
       · exact h2 q hq
       · rw [List.mem_singleton.1 hq]; exact List.mem_of_getLast? c
     · obtain ⟨q, hq, e⟩ := h3 h hh
       exact ⟨q, List.mem_append_left _ hq, e⟩
     · rw [c] at hx
       injection hx with hx
       rcases List.mem_append.1 hq with hq | hq
       · rw [← hx]; exact hp q hq
       · rw [List.mem_singleton.1 hq, hx]; exact Int.le_refl _
   · rw [if_neg c]
     refine ⟨List.pairwise_append.2 ⟨h1, List.pairwise_singleton _ _, fun h hh x hx => ?_⟩, fun q hq => ?_, fun h hh => ?_, fun x hx q hq => ?_⟩
     · rw [List.mem_singleton.1 hx]
       obtain ⟨q, hq, e⟩ := h3 h hh
       have hle : h ≤ H p.f0 := by rw [← e]; exact hp q hq
       rcases Int.lt_or_eq_of_le hle with hlt | heq
       · exact hlt
       · exfalso
         have hne : hsL L ≠ [] := fun e0 => by rw [e0] at hh; cases hh
         obtain ⟨z, hz⟩ : ∃ z, (hsL L).getLast? = some z := ⟨_, List.getLast?_eq_some_getLast hne⟩
         have hz2 := h4 z hz q hq
         obtain ⟨r, hr, er⟩ := h3 z (List.mem_of_getLast? hz)
         have hz3 := hp r hr
         exact c (by rw [hz]; congr 1; omega)
     · rcases List.mem_append.1 hq with hq | hq
       · exact List.mem_append_left _ (h2 q hq)
       · rw [List.mem_singleton.1 hq]; exact List.mem_append_right _ (List.mem_singleton.2 rfl)
     · rcases List.mem_append.1 hh with hh | hh
       · obtain ⟨q, hq, e⟩ := h3 h hh
         exact ⟨q, List.mem_append_left _ hq, e⟩
       · exact ⟨p, List.mem_append_right _ (List.mem_singleton.2 rfl), (List.mem_singleton.1 hh).symm⟩
     · rw [List.getLast?_append, List.getLast?_singleton] at hx
       have hx : H p.f0 = x := by simpa using hx
       rcases List.mem_append.1 hq with hq | hq
       · rw [← hx]; exact hp q hq
       · rw [List.mem_singleton.1 hq, hx]; exact Int.le_refl _
theorem split_h : ∀ L : List Pr, SortH L → ∀ h : Int, L = L.filter (fun p => decide (H p.f0 < h)) ++ (ofH L h ++ L.filter (fun p => decide (h < H p.f0))) := by
 intro L
 induction L with
 | nil => intro _ _; rfl
 | cons p r ih =>
   intro hs h
   obtain ⟨h1, h2⟩ := List.pairwise_cons.1 hs
   have hi := ih h2 h
   unfold ofH at hi ⊢
   rcases Int.lt_trichotomy (H p.f0) h with c | c | c
   · rw [List.filter_cons_of_pos (by simpa using c), List.filter_cons_of_neg (by simp; omega), List.filter_cons_of_neg (by simp; omega), List.cons_append, ← hi]
   · have e0 : r.filter (fun p => decide (H p.f0 < h)) = [] := List.filter_eq_nil_iff.2 (fun q hq => by have := h1 q hq; simp; omega)
     rw [e0, List.nil_append] at hi
     rw [List.filter_cons_of_neg (by simp; omega), e0, List.filter_cons_of_pos (by simpa using c), List.filter_cons_of_neg (by simp; omega), List.nil_append, List.cons_append, ← hi]
   · have e0 : r.filter (fun p => decide (H p.f0 < h)) = [] := List.filter_eq_nil_iff.2 (fun q hq => by have := h1 q hq; simp; omega)
     have e1 : r.filter (fun p => decide (H p.f0 = h)) = [] := List.filter_eq_nil_iff.2 (fun q hq => by have := h1 q hq; simp; omega)
     rw [e0, e1, List.nil_append, List.nil_append] at hi
     rw [List.filter_cons_of_neg (by simp; omega), e0, List.filter_cons_of_neg (by simp; omega), e1, List.filter_cons_of_pos (by simpa using c), List.nil_append, List.nil_append, ← hi]
theorem take_ab {A B M L : List Pr} (e : L = A ++ (B ++ M)) : (L.take (A.length + B.length)).drop A.length = B := by
 subst e
 rw [← List.append_assoc, List.take_left' (by rw [List.length_append]), List.drop_left' rfl]
theorem cut_h {L : List Pr} (hs : SortH L) (h : Int) : (L.take (lowP L h + (ofH L h).length)).drop (lowP L h) = ofH L h := take_ab (split_h L hs h)
theorem next_h {L : List Pr} (hs : SortH L) {q : Nat} (hq : q + 1 < (hsL L).length) : lowP L ((hsL L)[q + 1]) = lowP L ((hsL L)[q]'(by omega)) + (ofH L ((hsL L)[q]'(by omega))).length := by
 obtain ⟨h1, h2, _, _⟩ := hsL_inv L hs
 have hp := List.pairwise_iff_getElem.1 h1
 have hlt := hp q (q + 1) (by omega) hq (by omega)
 obtain ⟨x, hx⟩ : ∃ x, x = (hsL L)[q]'(by omega) := ⟨_, rfl⟩
 obtain ⟨y, hy⟩ : ∃ y, y = (hsL L)[q + 1] := ⟨_, rfl⟩
 rw [← hx, ← hy] at hlt ⊢
 have e := split_h L hs x
 have e2 : L.filter (fun p => decide (H p.f0 < y)) = L.filter (fun p => decide (H p.f0 < x)) ++ ofH L x := by
  have hup : (L.filter (fun p => decide (x < H p.f0))).filter (fun p => decide (H p.f0 < y)) = [] := by
   refine List.filter_eq_nil_iff.2 (fun p hp' => ?_)
   obtain ⟨hm, hg⟩ := List.mem_filter.1 hp'
   have hg := of_decide_eq_true hg
   obtain ⟨j, hj, ej⟩ := List.getElem_of_mem (h2 p hm)
   simp only [decide_eq_true_eq]
   intro hc
   rw [← ej, hx] at hg
   rw [← ej, hy] at hc
   rcases Nat.lt_trichotomy j q with c | c | c
   · have := hp j q hj (by omega) c; omega
   · subst c; omega
   · rcases Nat.lt_or_eq_of_le (show q + 1 ≤ j by omega) with c2 | c2
     · have := hp (q + 1) j hq hj c2; omega
     · subst c2; omega
  have h3 : (L.filter (fun p => decide (H p.f0 < x))).filter (fun p => decide (H p.f0 < y)) = L.filter (fun p => decide (H p.f0 < x)) := List.filter_eq_self.2 (fun p hp' => by
   have hg := of_decide_eq_true (List.mem_filter.1 hp').2
   simp only [decide_eq_true_eq]
   omega)
  have h4 : (ofH L x).filter (fun p => decide (H p.f0 < y)) = ofH L x := List.filter_eq_self.2 (fun p hp' => by
   have hg := of_decide_eq_true (List.mem_filter.1 hp').2
   simp only [decide_eq_true_eq]
   omega)
  conv => lhs; rw [e]
  rw [List.filter_append, List.filter_append, h3, h4, hup, List.append_nil]
 unfold lowP
 rw [e2, List.length_append]
theorem last_h {L : List Pr} (hs : SortH L) {q : Nat} (hq : q + 1 = (hsL L).length) : L.length = lowP L ((hsL L)[q]'(by omega)) + (ofH L ((hsL L)[q]'(by omega))).length := by
 obtain ⟨h1, h2, _, h4⟩ := hsL_inv L hs
 have hl : (hsL L).getLast? = some ((hsL L)[q]'(by omega)) := by
  rw [List.getLast?_eq_getElem?, show (hsL L).length - 1 = q by omega, List.getElem?_eq_getElem]
 obtain ⟨x, hx⟩ : ∃ x, x = (hsL L)[q]'(by omega) := ⟨_, rfl⟩
 rw [← hx] at hl ⊢
 have e := congrArg List.length (split_h L hs x)
 have e0 : L.filter (fun p => decide (x < H p.f0)) = [] := List.filter_eq_nil_iff.2 (fun p hp => by have := h4 x hl p hp; simp; omega)
 rw [e0, List.append_nil, List.length_append] at e
 exact e
theorem lowP_snoc (L : List Pr) (p : Pr) (h : Int) : lowP (L ++ [p]) h = lowP L h + (if H p.f0 < h then 1 else 0) := by
 unfold lowP
 rw [List.filter_append, List.length_append]
 by_cases c : H p.f0 < h
 · rw [List.filter_cons_of_pos (by simpa using c), if_pos c]; rfl
 · rw [List.filter_cons_of_neg (by simpa using c), if_neg c]; rfl
theorem atL_snoc {L : List Pr} {p : Pr} (hs : SortH (L ++ [p])) : atL (L ++ [p]) = if (hsL L).getLast? = some (H p.f0) then atL L else atL L ++ [(L.length : Int)] := by
 have hs' := List.pairwise_append.1 hs
 obtain ⟨h1, h2, h3, h4⟩ := hsL_inv L hs'.1
 have hp : ∀ q ∈ L, H q.f0 ≤ H p.f0 := fun q hq => hs'.2.2 q hq p (List.mem_singleton.2 rfl)
 have hsame : (hsL L).map (fun h => (lowP (L ++ [p]) h : Int)) = atL L := List.map_congr_left (fun h hh => by
  obtain ⟨q, hq, e⟩ := h3 h hh
  rw [lowP_snoc, if_neg (by have := hp q hq; omega), Nat.add_zero])
 unfold atL at hsame ⊢
 rw [hsL_snoc]
 unfold addH
 by_cases c : (hsL L).getLast? = some (H p.f0)
 · rw [if_pos c, if_pos c, hsame]
 · rw [if_neg c, if_neg c, List.map_append, hsame]
   have e : lowP (L ++ [p]) (H p.f0) = L.length := by
    rw [lowP_snoc, if_neg (by omega), Nat.add_zero]
    unfold lowP
    congr 1
    refine List.filter_eq_self.2 (fun q hq => ?_)
    have hle := hp q hq
    have hne : hsL L ≠ [] := fun e0 => by have := h2 q hq; rw [e0] at this; cases this
    obtain ⟨z, hz⟩ : ∃ z, (hsL L).getLast? = some z := ⟨_, List.getLast?_eq_some_getLast hne⟩
    obtain ⟨r, hr, er⟩ := h3 z (List.mem_of_getLast? hz)
    have g1 := h4 z hz q hq
    have g2 := hp r hr
    simp only [decide_eq_true_eq]
    rcases Int.lt_or_eq_of_le g2 with g | g
    · omega
    · exact absurd (by rw [hz, ← er, g]) c
   rw [List.map_cons, List.map_nil, e]
theorem atL_len (L : List Pr) : (atL L).length = (hsL L).length := by unfold atL; rw [List.length_map]
theorem hsL_len_le : ∀ L : List Pr, (hsL L).length ≤ L.length := by
 refine rev_ind (Nat.le_refl _) (fun L p ih => ?_)
 rw [hsL_snoc, List.length_append, List.length_singleton]
 unfold addH
 split
 · omega
 · rw [List.length_append, List.length_singleton]; omega
theorem hsL_u {L : List Pr} (hs : SortH L) : ∀ x ∈ hsL L, 0 ≤ x ∧ x < 18446744073709551616 := by
 intro x hx
 obtain ⟨p, _, e⟩ := (hsL_inv L hs).2.2.1 x hx
 rw [← e]
 exact H_range _
def findP (L : List Pr) (k : ByteArray) : Option Pr := L.find? (fun p => decide (p.f0 = k))
end Go.Proofs.Ytkhcmddeeodbkaa.Q
