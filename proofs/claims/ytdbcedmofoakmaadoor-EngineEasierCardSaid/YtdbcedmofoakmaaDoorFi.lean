/- The law: plans of which little is told. -/
import Derived.Test.YtdbcedmofoakmaaDoorFg
import Derived.Test.YtdbcedmofoakmaaDoorEj2
set_option maxRecDepth 100000
namespace Go.Proofs.YtdbcedmofoakmaaDoor
open Go Go.Sx Go.Eng
theorem plansLx {f : FuncId} {args : List Value} {w : World} {R : Option (List Walks) × Int} {e : Int} (he : R.2 = e) (h : CallsB Tryd.prog f args w (plansV R)) : CallsB Tryd.prog f args w (fun v bs => ∃ A n c, v = .tuple ⟨[.slice A n c, .int .i64 e]⟩ ∧ bs = []) := by
  subst he; exact plansE h

theorem isPlan_smallx {b : Book} (hb : Bd b) {l : List Walks} (h : b.isPlan l = true) : SmallP l := by
  have hl := isPlan_len h
  refine ⟨by have := hb.len; omega, fun i y hy => ?_⟩
  have hi := (List.getElem?_eq_some_iff.1 hy).1
  exact isPlan_bd hb h (List.getElem?_eq_getElem (by omega)) hy
end Go.Proofs.YtdbcedmofoakmaaDoor
