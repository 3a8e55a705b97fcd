/-
  THE TILL's ARRAY OF WAYS: how it is built, how two are compared.
-/
import Derived.Test.YtcnndpedeofbmaaDoorTt
import Derived.Test.YtcnndpedeofbmaaDoorTn
set_option maxRecDepth 100000
namespace Go.Proofs.YtcnndpedeofbmaaDoor
open Go Go.Sx Go.Till
theorem vals_zero : vals (arr (fun _ => 0)) = List.replicate 60001 (.int .i64 0) := by
  simp only [vals, arr, arrN, List.map_map]
  rw [show (Value.int .i64 ∘ fun (_ : Nat) => (0 : Int)) = Function.const Nat (Value.int .i64 0) from rfl, List.map_const, List.length_range]
theorem vals_set (f : Nat → Int) (i : Nat) (v : Int) : (vals (arr f)).set i (.int .i64 v) = vals (arr (upd f i v)) := by
  simp only [vals, arr, ← arr_set, List.map_set]
theorem build100_nil (w : World) : (Instr.build 100 ⟨[]⟩).run Tryd.prog w = .ok (.agg ⟨vals (arr (fun _ => 0))⟩) w := by
  rw [vals_zero]
  exact run_build_arr zeroValue100 Tryd.runUnderlying100 Tryd.sizeOf3 rfl w
theorem fill_one {l : List Value} (h : 0 < l.length) : Instr.fill (fun i => some (i * 1, 1)) (⟨l⟩ : Array Value) [(0, .int .i64 1)] = some ⟨l.set 0 (.int .i64 1)⟩ := by
  have hc : (Value.int IntKind.i64 1).cells = #[.int .i64 1] := rfl
  have h1 : ¬ l.length < 1 := by omega
  simp [Instr.fill, hc, h1]
theorem build100_one (w : World) : (Instr.build 100 ⟨[(0, .int .i64 1)]⟩).run Tryd.prog w = .ok (.agg ⟨vals (arr (upd (fun _ => 0) 0 1))⟩) w := by
  rw [← vals_set, vals_zero]
  exact run_build_arr zeroValue100 Tryd.runUnderlying100 Tryd.sizeOf3 (fill_one (by rw [List.length_replicate]; exact Nat.succ_pos _)) w
theorem info3 : ∃ i, Tryd.prog.info? 3 = some i := ⟨_, rfl⟩
theorem run_eql_100 (xo yo : Operand) (f h : Nat → Int) (w : World) : (do eqGuard .eql 100 xo yo (.agg ⟨vals (arr f)⟩) (.agg ⟨vals (arr h)⟩); binOp .eql 100 (.agg ⟨vals (arr f)⟩) (.agg ⟨vals (arr h)⟩) : Sem Value).run Tryd.prog w = .ok (.bool ((List.range 60001).all (fun i => f i == h i))) w := by
  obtain ⟨i, hi⟩ := info3
  rw [show arr f = (List.range 60001).map f from rfl, show arr h = (List.range 60001).map h from rfl, Sem.run_bind, run_eqGuard_agg _ _ _ _ _ _ _ (by kernel_rfl), Result.andThen_ok, run_eql_struct, show (10000 : Nat) = 9998 + 1 + 1 from rfl,
    run_equalIn_array w (9998 + 1) _ _ (show Tryd.prog.underlying 100 = some (.array 60001 3) by kernel_rfl) hi, eqItems_ints 9998 Tryd.underlying3 Tryd.isAgg3 (by kernel_rfl) f h w _ (fun i hi => by simpa using hi)]
  rfl
end Go.Proofs.YtcnndpedeofbmaaDoor
