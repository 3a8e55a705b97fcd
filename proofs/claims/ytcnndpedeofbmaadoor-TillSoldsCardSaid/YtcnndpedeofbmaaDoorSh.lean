/-
  SLICES OF OUR OWN THAT GROW: what a loop keeps of one, what a chain of appends hands on.
-/
import Derived.Test.YtcnndpedeofbmaaDoorSg
set_option maxRecDepth 100000
namespace Go.Sx
open Go
theorem reads_flat0 {α : Type} {enc : α → List Value} {sz : Nat} (henc : ∀ y, (enc y).length = sz) {ys : List α} : Reads enc sz (ys.flatMap enc) ys := by
  have := reads_flat henc [] (ys := ys)
  rwa [List.append_nil] at this
theorem own_zero {α : Type} {enc : α → List Value} {sz : Nat} (henc : ∀ y, (enc y).length = sz) (e : TypeId) (l : List α) : Own enc sz e (some ⟨0, 0, none⟩) l.length l 0 (some (.cells ⟨l.flatMap enc⟩ e (0, 0))) :=
  .inr ⟨rfl, Nat.le_refl _, _, rfl, reads_flat0 henc, by rw [flat_len henc]; exact Nat.le_refl _⟩
/-- A slice of our own, with this list. -/
structure OwX {α : Type} (enc : α → List Value) (sz : Nat) (e : TypeId) (l : List α) where
  A : Option Addr
  c : Nat
  b : Nat
  o : Option Obj
  h : Own enc sz e A c l b o
def OwX.zero {α : Type} {enc : α → List Value} {sz : Nat} (henc : ∀ y, (enc y).length = sz) (e : TypeId) (l : List α) : OwX enc sz e l := ⟨_, _, _, _, own_zero henc e l⟩
/-- A loop's ghost: a count, and a slice of our own. -/
structure OwG (α : Type) where
  k : Nat
  A : Option Addr
  c : Nat
  l : List α
  b : Nat
  o : Option Obj
theorem snoc_all {α β : Type} {R : β → α → Prop} {l : List α} {ps : List β} (h : ∀ (j : Nat) (y : α) (x : β), l[j]? = some y → ps[j]? = some x → R x y) {k : Nat} (hk : l.length = k) {x0 : β} {y0 : α} (hx : ps[k]? = some x0) (hr : R x0 y0) :
    ∀ (j : Nat) (y : α) (x : β), (l ++ [y0])[j]? = some y → ps[j]? = some x → R x y := by
  intro j y x hy hx'
  rcases Nat.lt_or_ge j l.length with h' | h'
  · rw [List.getElem?_append_left h'] at hy; exact h j y x hy hx'
  · rw [List.getElem?_append_right h'] at hy
    have hj : j - l.length < 1 := by have := (List.getElem?_eq_some_iff.1 hy).1; simpa using this
    rw [show j - l.length = 0 by omega] at hy
    simp only [List.getElem?_cons_zero, Option.some.injEq] at hy
    have e : j = k := by omega
    subst e hy
    rw [hx] at hx'
    simp only [Option.some.injEq] at hx'
    subst hx'; exact hr
end Go.Sx
