/-
  A guarded operation of a drawn head whose guard is known to be so.
-/
import Derived.Test.YtdbcedmofoakmaaDoorSg
namespace Go.Sx
open Go
section
variable {N : Nat} {D : List Deferred} {T : List (Nat × Value)} {B : List (Nat × Option Obj)} {M : List Nat} {w0 : World} {a : Act} {w : World}
variable {P : Program} {r : Option Nat} {Q : Exit → Act → World → Prop} {K : Act → World → Prop} {l : List Oper} {o : Oper}
theorem ob_on {k j t : Nat} {pol : Bool} {u : Value} (hs : Sx N D T B M w0 a w) (ho : nth l k = some o) (hg : o.guard = some (j, pol)) (hj : (nth l j).bind (·.dst) = some t) (ht : (t, u) ∈ T) (hu : ison pol u = true)
    (h : o.wpIn (Fx r) 0 P a w K Q) : wpOpIn (Fx r) 0 P l.toArray Q k K a w := by
  have hw := wanted_ison (ops := l.toArray) hs hg (by rw [nth_arr]; exact hj) ht
  simp only [wpOpIn, nth_arr, ho, hw, hu, if_true]; exact h
end
end Go.Sx
