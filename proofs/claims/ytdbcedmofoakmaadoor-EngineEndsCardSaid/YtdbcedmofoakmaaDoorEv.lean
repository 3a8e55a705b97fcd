/-
  THE CHAPTER's EVENING, in plain Lean, and what is said of it.
-/
import Derived.Test.YtdbcedmofoakmaaDoorEf2
import Derived.Test.YtdbcedmofoakmaaDoorSr
set_option maxRecDepth 100000
namespace Go.Eng
open Go Go.Sx
def eve : Book := { coal := ⟨20, 24⟩, water := ⟨30, 30⟩, bunker := 40, tank := 40, scoop := 6, pail := 10, burn0 := ⟨0, 1⟩, burn1 := ⟨1, 2⟩, drink0 := ⟨0, 1⟩, drink1 := ⟨1, 1⟩, full := ⟨20, 24⟩, weak := ⟨12, 16⟩, mark := 10, lamp := 18, parts := [⟨⟨5, 6⟩, false, 0⟩, ⟨⟨10, 12⟩, true, 2⟩, ⟨⟨3, 4⟩, false, 1⟩, ⟨⟨8, 8⟩, true, 5⟩] }
def plan2 : List Walks := [⟨0, 0⟩, ⟨2, 0⟩, ⟨1, 0⟩, ⟨2, 1⟩]
def plan1 : List Walks := [⟨0, 0⟩, ⟨1, 0⟩, ⟨1, 0⟩, ⟨2, 1⟩]
def eveC : List Value := [.int .i64 5, .int .i64 6, .bool false, .int .i64 0, .int .i64 10, .int .i64 12, .bool true, .int .i64 2, .int .i64 3, .int .i64 4, .bool false, .int .i64 1, .int .i64 8, .int .i64 8, .bool true, .int .i64 5]
def plan2C : List Value := [.int .i64 0, .int .i64 0, .int .i64 2, .int .i64 0, .int .i64 1, .int .i64 0, .int .i64 2, .int .i64 1]
def plan1C : List Value := [.int .i64 0, .int .i64 0, .int .i64 1, .int .i64 0, .int .i64 1, .int .i64 0, .int .i64 2, .int .i64 1]
theorem sl_at {α : Type} {enc : α → List Value} {sz : Nat} (henc : ∀ y, (enc y).length = sz) (hz : 0 < sz) {w : World} {b : Nat} {ys : List α} (hc : CellsAt w b 0 (ys.flatMap enc)) : SlAt enc sz w (some ⟨b, 0, none⟩) ys.length ys := by
  refine ⟨rfl, fun i x hx => ⟨b, 0, rfl, ?_, ?_⟩⟩
  · refine Go.Sx.CellsAt.blk_lt hc ?_
    rw [flat_len henc]
    have := (List.getElem?_eq_some_iff.1 hx).1
    exact Nat.mul_pos (by omega) hz
  · have := (reads_flat' henc).at hc hx
    rw [Nat.zero_add]; exact this
theorem eve_at {w : World} {b : Nat} (hc : CellsAt w b 0 eveC) : PartsAt w (some ⟨b, 0, none⟩) 4 eve.parts := sl_at (enc := partL) (sz := 4) (ys := eve.parts) (fun _ => rfl) (by decide) hc
theorem plan2_at {w : World} {b : Nat} (hc : CellsAt w b 0 plan2C) : PlanAt w (some ⟨b, 0, none⟩) 4 plan2 := sl_at (enc := walksL) (sz := 2) (ys := plan2) (fun _ => rfl) (by decide) hc
theorem plan1_at {w : World} {b : Nat} (hc : CellsAt w b 0 plan1C) : PlanAt w (some ⟨b, 0, none⟩) 4 plan1 := sl_at (enc := walksL) (sz := 2) (ys := plan1) (fun _ => rfl) (by decide) hc
theorem eve_current : eve.currentR 9 = (⟨12, 16⟩, 0) := by kernel_rfl
theorem eve_left : eve.leftR plan2 3 = (⟨0, 32⟩, ⟨10, 22⟩, 0) := by kernel_rfl
theorem eve_fails : eve.failsR plan1 = (1, 0) := by kernel_rfl
theorem eve_plan : eve.planR = (some plan2, 0) := by kernel_rfl
theorem eve_parts : eve.partsR = (4, 0) := by kernel_rfl
theorem eve_longer : eve.longerR 2 = (4, 0) := by kernel_rfl
theorem eve_coal : eve.coalR = (18, 0) := by kernel_rfl
theorem eve_same : samePl plan2 plan2 = true := by kernel_rfl
end Go.Eng
