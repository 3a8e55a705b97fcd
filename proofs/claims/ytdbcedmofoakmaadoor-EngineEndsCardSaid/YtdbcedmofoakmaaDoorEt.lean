/-
  WHAT '==' SAYS of the engine's small structs and arrays of whole numbers.
-/
import Derived.Test.YtdbcedmofoakmaaDoorRows
import Derived.Test.YtdbcedmofoakmaaDoorSx
namespace Go.Proofs.YtdbcedmofoakmaaDoor
open Go Go.Sx
theorem mixed : Tryd.prog.follows .mixedOrders = true := by kernel_rfl
section
variable (xo yo : Operand)
theorem eq103 (d : Nat) (x y z u : Int) (w : World) : (Op.equalIn (d + 2) 103 (.agg ⟨[.int .i64 x, .int .i64 y]⟩) (.agg ⟨[.int .i64 z, .int .i64 u]⟩)).run Tryd.prog w = .ok ((x == z) && (y == u)) w := by
  have h3 : Tryd.prog.underlying 3 = some (.int .i64) := Tryd.underlying3
  have h0 : ∀ a b w, (Op.equalIn (d + 1) 3 (.int .i64 a) (.int .i64 b)).run Tryd.prog w = .ok (a == b) w := fun a b w => run_equalIn_int w d 3 .i64 .i64 a b h3
  unfold Op.equalIn
  simp only [Sem.run_bind, Tryd.runUnderlying103, Result.andThen_ok, Tryd.sizeOf3]
  simp only [Std.Legacy.Range.forIn_eq_forIn_range', Std.Legacy.Range.size, Nat.sub_zero, Nat.reduceAdd, Nat.reduceSub, Nat.div_one, List.range'_succ, List.range'_zero, List.forIn_cons, List.forIn_nil]
  by_cases e1 : x = z <;> by_cases e2 : y = u <;> simp [part, Tryd.isAgg3, h0, e1, e2]
theorem run_neq_103 (x y z u : Int) (w : World) : (do eqGuard .neq 103 xo yo (.agg ⟨[.int .i64 x, .int .i64 y]⟩) (.agg ⟨[.int .i64 z, .int .i64 u]⟩); binOp .neq 103 (.agg ⟨[.int .i64 x, .int .i64 y]⟩) (.agg ⟨[.int .i64 z, .int .i64 u]⟩) : Sem Value).run Tryd.prog w = .ok (.bool (!((x == z) && (y == u)))) w := by
  rw [Sem.run_bind, run_eqGuard_agg _ _ _ _ _ _ _ (by kernel_rfl), Result.andThen_ok, run_neq_struct, eq103 9998]
  rfl
end
end Go.Proofs.YtdbcedmofoakmaaDoor
