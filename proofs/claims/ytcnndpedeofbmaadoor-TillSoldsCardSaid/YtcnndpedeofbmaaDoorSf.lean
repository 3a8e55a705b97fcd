/-
  A guarded operation of a drawn head whose guard is known to be so.
-/
import Derived.Test.YtcnndpedeofbmaaDoorSg
import Derived.ChangeKeysEq
namespace Go.Sx
open Go
section
variable {N : Nat} {D : List Deferred} {T : List (Nat × Value)} {B : List (Nat × Option Obj)} {M : List Nat} {w0 : World} {a : Act} {w : World}
variable {P : Program} {r : Option Nat} {Q : Exit → Act → World → Prop} {K : Act → World → Prop} {l : List Oper} {o : Oper}
theorem ob_on {k j t : Nat} {pol : Bool} {u : Value} (hs : Sx N D T B M w0 a w) (ho : nth l k = some o) (hg : o.guard = some (j, pol)) (hj : (nth l j).bind (·.dst) = some t) (ht : (t, u) ∈ T) (hu : ison pol u = true)
    (h : o.wpIn (Fx r) 0 P a w K Q) : wpOpIn (Fx r) 0 P l.toArray Q k K a w := by
  have hw := wanted_ison (ops := l.toArray) hs hg (by rw [nth_arr]; exact hj) ht
  simp only [wpOpIn, nth_arr, ho, hw, hu, if_true]; exact h
end
end Go.Sx
namespace Go.Sx
open Go
section
variable {N : Nat} {D : List Deferred} {T : List (Nat × Value)} {B : List (Nat × Option Obj)} {M : List Nat} {w0 : World} {a : Act} {w : World}
variable {P : Program} {r : Option Nat} {Q : Exit → Act → World → Prop} {K : Act → World → Prop}
variable {d : Nat} {ty : TypeId} {pos : String} {aft : Array Edge} {g : Option (Nat × Bool)}
theorem run_eqb (t : TypeId) (hu : P.underlying t = some .bool) (xo yo : Operand) (x y : Bool) (w : World) : (do eqGuard .eql t xo yo (.bool x) (.bool y); binOp .eql t (.bool x) (.bool y) : Sem Value).run P w = .ok (.bool (x == y)) w := by
  have h : (Op.equal t (.bool x) (.bool y)).run P w = .ok (x == y) w := run_equalIn_bool w 9999 t x y hu
  simp [eqGuard, binOp, h]
theorem run_neb (t : TypeId) (hu : P.underlying t = some .bool) (xo yo : Operand) (x y : Bool) (w : World) : (do eqGuard .neq t xo yo (.bool x) (.bool y); binOp .neq t (.bool x) (.bool y) : Sem Value).run P w = .ok (.bool (x != y)) w := by
  have h : (Op.equal t (.bool x) (.bool y)).run P w = .ok (x == y) w := run_equalIn_bool w 9999 t x y hu
  simp [eqGuard, binOp, h, bne]
theorem callsV_eq {f : FuncId} {args : List Value} {v v' : Value} (h : CallsV P f args w v) (e : v = v') : CallsV P f args w v' := e ▸ h
end
end Go.Sx
