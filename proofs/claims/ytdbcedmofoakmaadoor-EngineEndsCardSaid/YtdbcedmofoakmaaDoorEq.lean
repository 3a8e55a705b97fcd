/-
  WHAT '==' SAYS of the engine's structs of whole numbers; a map's key of that kind.
-/
import Derived.Test.YtdbcedmofoakmaaDoorEt
import Derived.WideKeyRuns
set_option maxRecDepth 100000
namespace Go.Proofs.YtdbcedmofoakmaaDoor
open Go Go.Sx
theorem eq3 (d : Nat) (a b : Int) (w : World) : (Op.equalIn (d + 1) 3 (.int .i64 a) (.int .i64 b)).run Tryd.prog w = .ok (a == b) w :=
  run_equalIn_int w d 3 .i64 .i64 a b Tryd.underlying3
theorem eq23 (d : Nat) (x y z u : Int) (w : World) : (Op.equalIn (d + 2) 23 (.agg ⟨[.int .i64 x, .int .i64 y]⟩) (.agg ⟨[.int .i64 z, .int .i64 u]⟩)).run Tryd.prog w = .ok ((x == z) && (y == u)) w := by
  have hst : Tryd.prog.stoodInHeld 23 = false := by kernel_rfl
  unfold Op.equalIn
  simp only [Sem.run_bind, Tryd.runUnderlying23, Result.andThen_ok]
  have hp : ∀ w, Sem.run Tryd.prog (Sem.program Sem.pure) w = .ok Tryd.prog w := fun _ => rfl
  cases e1 : (x == z) <;> cases e2 : (y == u) <;> simp [program, hp, hst, part, Tryd.isAgg3, eq3, e1, e2]
theorem eq116 (d : Nat) (x y z x' y' z' : Int) (w : World) : (Op.equalIn (d + 3) 116 (.agg ⟨[.int .i64 x, .int .i64 y, .int .i64 z]⟩) (.agg ⟨[.int .i64 x', .int .i64 y', .int .i64 z']⟩)).run Tryd.prog w = .ok ((x == x') && ((y == y') && (z == z'))) w := by
  have hst : Tryd.prog.stoodInHeld 116 = false := by kernel_rfl
  unfold Op.equalIn
  simp only [Sem.run_bind, Tryd.runUnderlying116, Result.andThen_ok]
  have e103 := fun (a b c e : Int) (w : World) => eq103 d a b c e w
  have hp : ∀ w, Sem.run Tryd.prog (Sem.program Sem.pure) w = .ok Tryd.prog w := fun _ => rfl
  cases e1 : (x == x') <;> cases e2 : (y == y') <;> cases e3 : (z == z') <;> simp [program, hp, hst, part, Tryd.isAgg3, Tryd.isAgg103, Tryd.sizeOf103, eq3, e103, e1, e2, e3]
theorem eq64 (d : Nat) (x y z u : Int) (w : World) : (Op.equalIn (d + 2) 64 (.agg ⟨[.int .i64 x, .int .i64 y]⟩) (.agg ⟨[.int .i64 z, .int .i64 u]⟩)).run Tryd.prog w = .ok ((x == z) && (y == u)) w := by
  have hst : Tryd.prog.stoodInHeld 64 = false := by kernel_rfl
  unfold Op.equalIn
  simp only [Sem.run_bind, Tryd.runUnderlying64, Result.andThen_ok]
  have hp : ∀ w, Sem.run Tryd.prog (Sem.program Sem.pure) w = .ok Tryd.prog w := fun _ => rfl
  cases e1 : (x == z) <;> cases e2 : (y == u) <;> simp [program, hp, hst, part, Tryd.isAgg3, eq3, e1, e2]
section
variable (xo yo : Operand)
theorem run_eql_64 (x y z u : Int) (w : World) : (do eqGuard .eql 64 xo yo (.agg ⟨[.int .i64 x, .int .i64 y]⟩) (.agg ⟨[.int .i64 z, .int .i64 u]⟩); binOp .eql 64 (.agg ⟨[.int .i64 x, .int .i64 y]⟩) (.agg ⟨[.int .i64 z, .int .i64 u]⟩) : Sem Value).run Tryd.prog w = .ok (.bool ((x == z) && (y == u))) w := by
  rw [Sem.run_bind, run_eqGuard_agg _ _ _ _ _ _ _ (by kernel_rfl), Result.andThen_ok, run_eql_struct, eq64 9998]
  rfl
theorem run_eql_23 (x y z u : Int) (w : World) : (do eqGuard .eql 23 xo yo (.agg ⟨[.int .i64 x, .int .i64 y]⟩) (.agg ⟨[.int .i64 z, .int .i64 u]⟩); binOp .eql 23 (.agg ⟨[.int .i64 x, .int .i64 y]⟩) (.agg ⟨[.int .i64 z, .int .i64 u]⟩) : Sem Value).run Tryd.prog w = .ok (.bool ((x == z) && (y == u))) w := by
  rw [Sem.run_bind, run_eqGuard_agg _ _ _ _ _ _ _ (by kernel_rfl), Result.andThen_ok, run_eql_struct, eq23 9998]
  rfl
theorem run_neq_23 (x y z u : Int) (w : World) : (do eqGuard .neq 23 xo yo (.agg ⟨[.int .i64 x, .int .i64 y]⟩) (.agg ⟨[.int .i64 z, .int .i64 u]⟩); binOp .neq 23 (.agg ⟨[.int .i64 x, .int .i64 y]⟩) (.agg ⟨[.int .i64 z, .int .i64 u]⟩) : Sem Value).run Tryd.prog w = .ok (.bool (!((x == z) && (y == u)))) w := by
  rw [Sem.run_bind, run_eqGuard_agg _ _ _ _ _ _ _ (by kernel_rfl), Result.andThen_ok, run_neq_struct, eq23 9998]
  rfl
end
theorem check3 (em : Bool) (d : Nat) (a : Int) (w : World) : (Instr.checkKey em (d + 1) 3 (.int .i64 a)).run Tryd.prog w = .ok () w := by
  simp [Instr.checkKey, run_underlying Tryd.underlying3]
theorem check103 (em : Bool) (d : Nat) (x y : Int) (w : World) : (Instr.checkKey em (d + 2) 103 (.agg ⟨[.int .i64 x, .int .i64 y]⟩)).run Tryd.prog w = .ok () w := by
  unfold Instr.checkKey
  simp only [Sem.run_bind, Tryd.runUnderlying103, Result.andThen_ok]
  simp only [Std.Legacy.Range.forIn_eq_forIn_range', Std.Legacy.Range.size, Nat.sub_zero, Nat.reduceAdd, Nat.reduceSub, Nat.div_one, List.range'_succ, List.range'_zero, List.forIn_cons, List.forIn_nil]
  simp [part, Tryd.isAgg3, Tryd.sizeOf3, check3]
theorem check116 (em : Bool) (d : Nat) (x y z : Int) (w : World) : (Instr.checkKey em (d + 3) 116 (.agg ⟨[.int .i64 x, .int .i64 y, .int .i64 z]⟩)).run Tryd.prog w = .ok () w := by
  unfold Instr.checkKey
  simp only [Sem.run_bind, Tryd.runUnderlying116, Result.andThen_ok]
  simp [part, Tryd.isAgg3, Tryd.isAgg103, Tryd.sizeOf103, check3, check103]
end Go.Proofs.YtdbcedmofoakmaaDoor
