/- Values by hand: what an interface holds: nothing, a number, a text; a number asked for that may be none. -/
-- VX 20 2 num i64 n isN asN mustN 56 txt str s isT asT none
-- GIVEN loess/loesslaw4.must 1
import Derived.Test.YtbeoegdkoodlfaaGRunes
import Derived.Defers
import Derived.Recover
import Derived.Laws.Pointers
set_option linter.unusedVariables false
set_option linter.unusedSimpArgs false
namespace Go.Proofs.Ytbeoegdkoodlfaa.G
open Go.RowKit Go.Proofs.YtbeoegdkoodlfaaW.PrintWords Go.Proofs.YtbeoegdkoodlfaaW.PrintLast Go.Proofs.YtbeoegdkoodlfaaW.PrintMore
theorem must_caught (p q : Addr) (x : Int) (y : Bool) (u : TypeId) (pv : Value) (older : List PanicEntry) (w : World) (hpq : p.block ≠ q.block) (hc : w.cell? p = some (.int .i64 x)) (hz : w.frozen? p = false) (hd : w.cell? q = some (.bool y)) (hy : w.frozen? q = false) :
    CallsD Try.prog 31 #[.pointer (some p), .pointer (some q)] (.panicking ({ v := .iface u pv, recovered := false } :: older)) w fun e u' w' =>
      e = .returned (.tuple #[]) ∧ u' = .panicking ({ v := .iface u pv, recovered := true } :: older) ∧ w' = (w.setCell p (.int .i64 0)).setCell q (.bool false) := by
  refine callsD_of_wpS Try.func31 rfl fun c₀ cs hu => ?_
  apply wpS_seq
  apply wpS_region
  simp [wpOpsS, go_sem, recoverD, hu, Try.ntmps31, Exit.thenS]
  refine wpS_cond (t := true) (by simp [Act.eval, Array.replicate]) ?_
  simp only [if_true]
  apply wpS_region
  have hd2 : (w.setCell p (.int .i64 0)).cell? q = some (.bool y) := by rw [World.cell?_setCell_other (h := fun h_ => hpq (by rw [h_]))]; exact hd
  simp [wpOpsS, go_sem, hc, hz, hd2, hy, bodyPostS, results, Try.results31]
theorem must_idle (p q : Addr) (w : World) :
    CallsD Try.prog 31 #[.pointer (some p), .pointer (some q)] .returning w fun e u' w' => e = .returned (.tuple #[]) ∧ u' = .returning ∧ w' = w := by
  refine callsD_of_wpS Try.func31 rfl fun c₀ cs hu => ?_
  apply wpS_seq
  apply wpS_region
  simp [wpOpsS, go_sem, recoverD, hu, Try.ntmps31, Exit.thenS]
  refine wpS_cond (t := false) (by simp [Act.eval, Array.replicate]) ?_
  simp only [Bool.false_eq_true, if_false]
  refine wpS_of_wp (wp_skip ?_)
  cases c₀
  simp_all [bodyPostS, results, Try.results31]
inductive VX where
  | none
  | num (n : Int)
  | txt (s : ByteArray)
def VX.val : VX → Value
  | .none => .nilIface
  | .num n => .iface 2 (.int .i64 n)
  | .txt s => .iface 56 (.string s)
theorem VX.one (x : VX) : x.val.oneCell' = true := by cases x <;> rfl
@[go_sem] theorem run_store_vx {P : Program} {w : World} {a : Addr} {m : Mode} (x : VX) : (store a x.val m).run P w = stored P w a x.val m := run_store P w a _ m (VX.one x)
@[go_sem ↓ high] theorem VX.cells (x : VX) : x.val.cells = #[x.val] := by cases x <;> rfl
@[go_sem] theorem VX.not_agg (x : VX) (cs : Array Value) : (x.val = Value.agg cs) = False := by cases x <;> simp [VX.val]
def KdVX : Kd VX := Kd.scalar VX.val VX.one
@[go_sem] theorem VX.fold0 : Value.nilIface = VX.val .none := rfl
@[go_sem] theorem VX.foldN (n : Int) : Value.iface 2 (.int .i64 n) = VX.val (.num n) := rfl
@[go_sem] theorem VX.foldT (s : ByteArray) : Value.iface 56 (.string s) = VX.val (.txt s) := rfl
/-- A number, and whether it is one; a text, and whether it is one. -/
def VX.n : VX → Int
  | .num n => n
  | _ => 0
def VX.isN : VX → Bool
  | .num _ => true
  | _ => false
def VX.s : VX → ByteArray
  | .txt s => s
  | _ => ⟨#[]⟩
def VX.isT : VX → Bool
  | .txt _ => true
  | _ => false
def VX.k : VX → Int
  | .none => 0
  | .num _ => 1
  | .txt _ => 2
set_option maxRecDepth 1000000 in
theorem VX.asN (x : VX) (W : World) : (Instr.typeAssert x.val 20 2 true).run Try.prog W = .ok (.tuple #[.int .i64 x.n, .bool x.isN]) W := by cases x <;> rfl
set_option maxRecDepth 1000000 in
theorem VX.asT (x : VX) (W : World) : (Instr.typeAssert x.val 20 56 true).run Try.prog W = .ok (.tuple #[.string x.s, .bool x.isT]) W := by cases x <;> rfl
set_option maxRecDepth 1000000 in
theorem VX.mustN (x : VX) (W : World) (h : x.isN = true) : (Instr.typeAssert x.val 20 2 false).run Try.prog W = .ok (.int .i64 x.n) W := by cases x <;> first | rfl | cases h
theorem v_below1 (w : World) (o : Obj) : Below w.heap.size w (w.alloc o) := (Below.refl _ _).alloc (Nat.le_refl _) _
theorem v_below4 (w : World) (o o2 o3 o4 : Obj) : Below w.heap.size w ((((w.alloc o).alloc o2).alloc o3).alloc o4) := have h1 := v_below1 w o; have h2 := h1.alloc h1.size o2; have h3 := h2.alloc h2.size o3; h3.alloc h3.size o4
theorem v_below5 (w : World) (o o2 o3 o4 o5 : Obj) : Below w.heap.size w (((((w.alloc o).alloc o2).alloc o3).alloc o4).alloc o5) := (v_below4 w o o2 o3 o4).alloc (v_below4 w o o2 o3 o4).size o5
theorem v_below2 (w : World) (o o2 : Obj) : Below w.heap.size w ((w.alloc o).alloc o2) := (v_below1 w o).alloc (v_below1 w o).size _
theorem VX.boom (x : VX) (h : x.isN = false) : ∃ (T : TypeId) (o : Obj), ∀ W : World, (Instr.typeAssert x.val 20 2 false).run Try.prog W = .halt (.panic (.iface T (.pointer (some ⟨W.heap.size, 0, Option.none⟩)))) (W.alloc o) := by
  cases x with
  | num => cases h
  | none => exact ⟨_, _, fun W => rfl⟩
  | txt s => exact ⟨_, _, fun W => rfl⟩
def loesslaw4_must.f (a0_0 : VX) : Option (Int × Bool) := some (a0_0.n, a0_0.isN)
set_option maxRecDepth 1000000 in
set_option maxHeartbeats 4000000 in
theorem loesslaw4_must.calls (a0_0 : VX) (r1 : Int) (r2 : Bool) (w : World) (h : loesslaw4_must.f a0_0 = some (r1, r2)) :
    Calls Try.prog 14 #[.agg #[VX.val a0_0]] w fun e w' => e = .returned (.tuple #[.int .i64 r1, .bool r2]) ∧ Below w.heap.size w w' := by
  have hu := Try.underlying27
  obtain ⟨rfl, rfl⟩ := Prod.mk.inj (Option.some.inj h)
  clear h
  have hmf : ∀ (fn : Fn) (first cap : Array Value) (w : World), (Instr.makeFunc fn first cap).run Try.prog w = .ok (.func fn first cap) w := fun _ _ _ _ => rfl
  cases hN : a0_0.isN with
  | false =>
    obtain ⟨T, o, hbm⟩ := VX.boom a0_0 hN
    have e1 : a0_0.n = 0 := by cases a0_0 <;> first | rfl | cases hN
    rw [e1]
    clear e1 hN
    go_enter_defers Try.func14, Try.ntmps14
    go_wp2
    simp only [bodyPost]
    refine ⟨trivial, ?_⟩
    show bodyPostD Try.prog Try.f14 _ (Exit.panic _) _ _
    refine leaves_cons (f := 31) (args := #[.pointer (some ⟨w.heap.size + 1, 0, none⟩), .pointer (some ⟨w.heap.size + 1 + 1, 0, none⟩)]) (by simp) (by simp [go_sem]) ?_
    refine (must_caught ⟨w.heap.size + 1, 0, none⟩ ⟨w.heap.size + 1 + 1, 0, none⟩ 0 false T _ [] _ ?_ ?_ ?_ ?_ ?_).mono ?_
    · simp
    · simp [go_sem]
    · simp [go_sem]
    · simp [go_sem]
    · simp [go_sem]
    rintro e u' w'' ⟨rfl, rfl, rfl⟩
    simp [Leaves, settle, results, Try.results14, go_sem]
    exact v_below5 _ _ _ _ _ _
  | true =>
    have hta := fun W => VX.mustN a0_0 W hN
    clear hN
    go_enter_defers Try.func14, Try.ntmps14
    go_wp2
    refine leaves_cons (f := 31) (args := #[.pointer (some ⟨w.heap.size + 1, 0, none⟩), .pointer (some ⟨w.heap.size + 1 + 1, 0, none⟩)]) (by simp) (by simp [go_sem]) ?_
    refine (must_idle ⟨w.heap.size + 1, 0, none⟩ ⟨w.heap.size + 1 + 1, 0, none⟩ _).mono ?_
    rintro e u' w'' ⟨rfl, rfl, rfl⟩
    simp [Leaves, settle, results, Try.results14, go_sem]
    exact v_below4 _ _ _ _ _
end Go.Proofs.Ytbeoegdkoodlfaa.G
