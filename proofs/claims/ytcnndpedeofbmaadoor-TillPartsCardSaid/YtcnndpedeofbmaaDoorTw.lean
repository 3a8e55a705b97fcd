/-
  WHAT IS TRUE LIES WITHIN WHAT IS TOLD, in plain Lean.
-/
import Derived.Test.YtcnndpedeofbmaaDoorTs
set_option maxRecDepth 100000
namespace Go.Till
open Go Go.Sx
def Bx.setCount (b : Bx) (c : Int) : Bx := { b with count := c }
theorem setCount_ok {b : Bx} (h : Ok b) {c : Int} (hc : 0 ≤ c ∧ c ≤ 60000) : (b.setCount c).ok = true :=
  ok_iff.2 ⟨h.n, h.len, hc, h.err, h.duty, h.share, h.guar, h.roll, h.free⟩
theorem tak_add {rs : List Roll} {l : List Int} {r : Roll} {x : Int} (hr : rs[l.length]? = some r) : tak rs (l ++ [x]) = tak rs l + x * r.price := by
  have h := tak_snoc (xs := l ++ [x]) (x := x) hr (by simp)
  rw [List.take_of_length_le (by simp), List.take_append_of_le_length (Nat.le_refl _), List.take_length] at h
  exact h
theorem canB_add {b : Bx} {ss : List Sp} {l : List Int} {s : Sp} {x : Int} (hs : ss[l.length]? = some s) (h : canB b ss l = true) (hx : s.lo ≤ x ∧ x ≤ s.hi) : canB b ss (l ++ [x]) = true := by
  have h2 := canB_snoc (b := b) (xs := l ++ [x]) (x := x) (by simp) hs
  rw [List.take_of_length_le (by simp), List.take_append_of_le_length (Nat.le_refl _), List.take_length, h, within_iff.2 hx] at h2
  exact h2
/-- A number that is truly sold is among those that can be. -/
theorem gone_in {r : Roll} {f : Sp} {a z y : Int} (ha : r.first.lo ≤ a ∧ a ≤ r.first.hi) (hz : r.fin.lo ≤ z ∧ z ≤ r.fin.hi) (hy : f.lo ≤ y ∧ y ≤ f.hi) (h0 : a ≤ z) (h1 : 0 ≤ z - a - y) : (r.sold f).lo ≤ z - a - y ∧ z - a - y ≤ (r.sold f).hi := by
  simp only [Roll.sold]; omega
theorem tak_range {b : Bx} (hO : Ok b) {xs : List Int} (hl : xs.length ≤ b.rolls.length) (h : canB b b.sold xs = true) : 0 ≤ tak b.rolls xs ∧ tak b.rolls xs ≤ 60000 := by
  have := tak_bd hO.wf (xs := xs) xs.length (Nat.le_refl _) hl (by rw [List.take_length]; exact h)
  rw [List.take_length] at this
  have := hO.n
  omega
/-- What is told of a truth. -/
theorem true_law {b : Bx} (hok : b.ok = true) {T : Int} (hT : T ∈ b.all) (hr : right b T = true) :
    ∃ m t1 t2 u1 u2 v1 v2 ww, b.manyR = (m, 0) ∧ (1 ≤ m ∧ m ≤ 1000000) ∧ (m = 1 → b.many = 1) ∧ b.betweenR (fun _ t => t) = (⟨t1, t2⟩, 0) ∧ (t1 ≤ T ∧ T ≤ t2) ∧ b.betweenR hireI = (⟨u1, u2⟩, 0) ∧ (u1 ≤ hireI b T ∧ hireI b T ≤ u2) ∧ b.guar ≤ u1 ∧
      b.betweenR leftI = (⟨v1, v2⟩, 0) ∧ (v1 ≤ leftI b T ∧ leftI b T ≤ v2) ∧ b.wrongR = (ww, 0) ∧ (0 ≤ ww ∧ ww ≤ far b T) := by
  have hO := ok_iff.1 hok
  have hm : b.many ≠ 0 := many_pos.2 ⟨T, hT, hr⟩
  have hf := right_far.1 hr
  have hw := wrong_at hO
  have hw1 := hw.2.1 T hT
  have her := hO.err
  obtain ⟨e1, -, -, q1⟩ := between_at hok hm (fun _ t => t)
  obtain ⟨e2, ⟨x2, a2, r2, p2⟩, -, q2⟩ := between_at hok hm hireI
  obtain ⟨e3, -, -, q3⟩ := between_at hok hm leftI
  refine ⟨min (b.many : Int) 1000000, (b.betweenR fun _ t => t).1.lo, (b.betweenR fun _ t => t).1.hi, (b.betweenR hireI).1.lo, (b.betweenR hireI).1.hi, (b.betweenR leftI).1.lo, (b.betweenR leftI).1.hi, b.wrongI, manyR_ok hok, by omega, fun h => by omega, ?_, q1 T hT hr, ?_, q2 T hT hr, ?_, ?_, q3 T hT hr, ?_, wrong_nonneg hO, hw1⟩
  · rw [← e1]
  · rw [← e2]
  · rw [← p2]; unfold hireI; omega
  · rw [← e3]
  · rw [Bx.wrongR, if_pos hok, if_neg (by omega)]
theorem truth_law {b : Bx} (hok : b.ok = true) {xs : List Int} (hl : xs.length = b.rolls.length) (hc : canB b b.sold xs = true) (hr : right b (tak b.rolls xs) = true) : b.truthR xs = (true, 0) := by
  rw [Bx.truthR, if_pos hok, Bx.truth, hc, hr]
  simp [hl]
theorem can_law {b : Bx} (hok : b.ok = true) (hm : b.many ≠ 0) {k : Nat} (hk : k < b.rolls.length) {x : Int} (h : withN b b.sold k x ≠ 0) : b.canR (k : Int) x = (true, 0) := by
  have hask : b.asked (isRoll b (k : Int)) = 0 := asked_zero.2 ⟨hok, by unfold isRoll; rw [within_iff]; omega, hm⟩
  rw [Bx.canR, if_pos hask, Int.toNat_natCast, decide_eq_true (Nat.pos_iff_ne_zero.2 h)]
end Go.Till
