/-
  WHAT '==' SAYS of the till's small structs; a map's key of that kind.
-/
import Derived.Test.YtcnndpedeofbmaaDoorRows
import Derived.Test.YtcnndpedeofbmaaDoorSx
import Derived.WideKeyRuns
import Derived.ChangeKeysEq
set_option maxRecDepth 100000
namespace Go.Proofs.YtcnndpedeofbmaaDoor
open Go Go.Sx
theorem mixed : Tryd.prog.follows .mixedOrders = true := by kernel_rfl
theorem eq3 (d : Nat) (a b : Int) (w : World) : (Op.equalIn (d + 1) 3 (.int .i64 a) (.int .i64 b)).run Tryd.prog w = .ok (a == b) w :=
  run_equalIn_int w d 3 .i64 .i64 a b Tryd.underlying3
theorem eq35 (d : Nat) (x y z u : Int) (w : World) : (Op.equalIn (d + 2) 35 (.agg ⟨[.int .i64 x, .int .i64 y]⟩) (.agg ⟨[.int .i64 z, .int .i64 u]⟩)).run Tryd.prog w = .ok ((x == z) && (y == u)) w := by
  have hst : Tryd.prog.stoodInHeld 35 = false := by kernel_rfl
  unfold Op.equalIn
  simp only [Sem.run_bind, Tryd.runUnderlying35, Result.andThen_ok]
  have hp : ∀ w, Sem.run Tryd.prog (Sem.program Sem.pure) w = .ok Tryd.prog w := fun _ => rfl
  cases e1 : (x == z) <;> cases e2 : (y == u) <;> simp [program, hp, hst, part, Tryd.isAgg3, eq3, e1, e2]
theorem eq71 (d : Nat) (x y z u : Int) (w : World) : (Op.equalIn (d + 2) 71 (.agg ⟨[.int .i64 x, .int .i64 y]⟩) (.agg ⟨[.int .i64 z, .int .i64 u]⟩)).run Tryd.prog w = .ok ((x == z) && (y == u)) w := by
  have hst : Tryd.prog.stoodInHeld 71 = false := by kernel_rfl
  unfold Op.equalIn
  simp only [Sem.run_bind, Tryd.runUnderlying71, Result.andThen_ok]
  have hp : ∀ w, Sem.run Tryd.prog (Sem.program Sem.pure) w = .ok Tryd.prog w := fun _ => rfl
  cases e1 : (x == z) <;> cases e2 : (y == u) <;> simp [program, hp, hst, part, Tryd.isAgg3, eq3, e1, e2]
section
variable (xo yo : Operand)
theorem run_eql_35 (x y z u : Int) (w : World) : (do eqGuard .eql 35 xo yo (.agg ⟨[.int .i64 x, .int .i64 y]⟩) (.agg ⟨[.int .i64 z, .int .i64 u]⟩); binOp .eql 35 (.agg ⟨[.int .i64 x, .int .i64 y]⟩) (.agg ⟨[.int .i64 z, .int .i64 u]⟩) : Sem Value).run Tryd.prog w = .ok (.bool ((x == z) && (y == u))) w := by
  rw [Sem.run_bind, run_eqGuard_agg _ _ _ _ _ _ _ (by kernel_rfl), Result.andThen_ok, run_eql_struct, eq35 9998]
  rfl
theorem run_neq_35 (x y z u : Int) (w : World) : (do eqGuard .neq 35 xo yo (.agg ⟨[.int .i64 x, .int .i64 y]⟩) (.agg ⟨[.int .i64 z, .int .i64 u]⟩); binOp .neq 35 (.agg ⟨[.int .i64 x, .int .i64 y]⟩) (.agg ⟨[.int .i64 z, .int .i64 u]⟩) : Sem Value).run Tryd.prog w = .ok (.bool (!((x == z) && (y == u)))) w := by
  rw [Sem.run_bind, run_eqGuard_agg _ _ _ _ _ _ _ (by kernel_rfl), Result.andThen_ok, run_neq_struct, eq35 9998]
  rfl
theorem run_neq_71 (x y z u : Int) (w : World) : (do eqGuard .neq 71 xo yo (.agg ⟨[.int .i64 x, .int .i64 y]⟩) (.agg ⟨[.int .i64 z, .int .i64 u]⟩); binOp .neq 71 (.agg ⟨[.int .i64 x, .int .i64 y]⟩) (.agg ⟨[.int .i64 z, .int .i64 u]⟩) : Sem Value).run Tryd.prog w = .ok (.bool (!((x == z) && (y == u)))) w := by
  rw [Sem.run_bind, run_eqGuard_agg _ _ _ _ _ _ _ (by kernel_rfl), Result.andThen_ok, run_neq_struct, eq71 9998]
  rfl
end
theorem check3 (em : Bool) (d : Nat) (a : Int) (w : World) : (Instr.checkKey em (d + 1) 3 (.int .i64 a)).run Tryd.prog w = .ok () w := by
  simp [Instr.checkKey, run_underlying Tryd.underlying3]
theorem check71 (em : Bool) (d : Nat) (x y : Int) (w : World) : (Instr.checkKey em (d + 2) 71 (.agg ⟨[.int .i64 x, .int .i64 y]⟩)).run Tryd.prog w = .ok () w := by
  unfold Instr.checkKey
  simp only [Sem.run_bind, Tryd.runUnderlying71, Result.andThen_ok]
  simp [part, Tryd.isAgg3, check3]
/-! A spot as a map's key. -/
def keyV (q : Nat × Int) : Value := .agg ⟨[.int .i64 (q.1 : Int), .int .i64 q.2]⟩
def keyEq (x y : Nat × Int) : Bool := ((x.1 : Int) == (y.1 : Int)) && (x.2 == y.2)
theorem keyEq_eq {x y : Nat × Int} (h : keyEq x y = true) : x = y := by
  simp only [keyEq, Bool.and_eq_true, beq_iff_eq] at h
  exact Prod.ext (by omega) h.2
theorem key_eq (x y : Nat × Int) (w : World) : (Op.equal 71 (keyV x) (keyV y)).run Tryd.prog w = .ok (keyEq x y) w := eq71 9998 _ _ _ _ w
theorem key_ck (em : Bool) (x : Nat × Int) (w : World) : (Instr.checkKey em 10000 71 (keyV x)).run Tryd.prog w = .ok () w := check71 em 9998 _ _ w
theorem key_sm (x : Nat × Int) : Instr.sameBits 10000 (keyV x) (keyV x) = true := by simp [keyV, Instr.sameBits]
/-! ### The array of ways -/
noncomputable def zeros : List Value := match Tryd.t100.zero with
  | some (.agg l) => l.toList
  | _ => []
def isZero : Value → Bool
  | .int .i64 z => z == 0
  | _ => false
theorem isZero_eq {v : Value} (h : isZero v = true) : v = .int .i64 0 := by
  unfold isZero at h
  split at h
  · simp at h; rw [h]
  · cases h
theorem zeros_len : zeros.length = 60001 := by decide +kernel
theorem zeros_all : zeros.all isZero = true := by decide +kernel
theorem zeros_eq : zeros = List.replicate 60001 (.int .i64 0) :=
  List.eq_replicate_iff.2 ⟨zeros_len, fun v hv => isZero_eq (List.all_eq_true.1 zeros_all v hv)⟩
theorem info100 : Tryd.prog.info? 100 = some Tryd.t100 := by kernel_rfl
theorem zero100 : Tryd.t100.zero = some (.agg ⟨zeros⟩) := by kernel_rfl
theorem zeroValue100 (w : World) : (zeroValue 100).run Tryd.prog w = .ok (.agg ⟨List.replicate 60001 (.int .i64 0)⟩) w := by
  rw [← zeros_eq]
  simp [zeroValue, typeInfo, info100, zero100]
end Go.Proofs.YtcnndpedeofbmaaDoor
