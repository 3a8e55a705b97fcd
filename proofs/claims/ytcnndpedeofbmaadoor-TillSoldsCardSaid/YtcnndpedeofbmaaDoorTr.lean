/-
  WHAT NUMBERS CHOOSE; the count and what it can be wrong by, in plain Lean.
-/
import Derived.Test.YtcnndpedeofbmaaDoorTq
set_option maxRecDepth 100000
namespace Go.Till
open Go Go.Sx
/-- What 'Turn' answers. -/
def turn (n m : Int) : Int := if m < 1 then 0 else if n.tmod m < 0 then n.tmod m + m else n.tmod m
theorem turn_bd {n m : Int} (h : 0 < m) : 0 ≤ turn n m ∧ turn n m < m := by
  unfold turn
  rw [if_neg (by omega)]
  have h1 := Int.tmod_lt_of_pos n h
  have h2 : -m < n.tmod m := by
    have := Int.tmod_lt_of_pos (-n) h
    rw [Int.neg_tmod] at this; omega
  split <;> omega
/-- What 'Pick' answers. -/
def pickN (l : List Int) (n : Int) : Int := if l.length = 0 then 0 else (l[(turn n (l.length : Int)).toNat]?).getD 0
/-- What 'Choose' answers. -/
def chooseN (s : Sp) (n : Int) : Int := if s.hi < s.lo then s.lo else s.lo + turn n (s.hi - s.lo + 1)
theorem choose_in {s : Sp} (h : s.lo ≤ s.hi) (n : Int) : s.lo ≤ chooseN s n ∧ chooseN s n ≤ s.hi := by
  unfold chooseN
  rw [if_neg (by omega)]
  have := turn_bd (n := n) (m := s.hi - s.lo + 1) (by omega)
  omega
/-! ### A box with another error -/
def Bx.setErr (b : Bx) (e : Int) : Bx := { b with err := e }
theorem setErr_ok {b : Bx} (h : Ok b) {e : Int} (he : 0 ≤ e ∧ e ≤ 200) : (b.setErr e).ok = true :=
  ok_iff.2 ⟨h.n, h.len, h.count, he, h.duty, h.share, h.guar, h.roll, h.free⟩
theorem setErr_all {b : Bx} {e : Int} : (b.setErr e).all = b.all := rfl
theorem right_far {b : Bx} {x : Int} : right b x = true ↔ far b x ≤ b.err := by
  rw [right, within_iff, far]; omega
theorem manyR_ok {b : Bx} (h : b.ok = true) : b.manyR = (min (b.many : Int) 1000000, 0) := by rw [Bx.manyR, if_pos h]
theorem many_mono {b : Bx} {e : Int} (h : b.err ≤ e) : b.many ≤ (b.setErr e).many := by
  rw [many_eq, many_eq, setErr_all]
  refine List.countP_mono_left (fun x _ hx => ?_)
  rw [right_far] at hx ⊢
  have : far (b.setErr e) x = far b x := rfl
  show far (b.setErr e) x ≤ e
  omega
theorem many_far {b : Bx} : b.many ≠ 0 ↔ ∃ x ∈ b.all, far b x ≤ b.err := by
  rw [many_pos]; simp only [right_far]
theorem many_err {b : Bx} (hO : Ok b) {e : Int} (he : e ≤ 200) : (b.setErr e).many ≠ 0 ↔ b.wrongI ≤ e := by
  rw [many_far]
  obtain ⟨h1, h2, h3⟩ := wrong_at hO
  constructor
  · rintro ⟨x, hx, hf⟩
    have := h2 x hx
    have e1 : far (b.setErr e) x = far b x := rfl
    have e2 : (b.setErr e).err = e := rfl
    omega
  · intro h
    rcases h3 with e1 | ⟨x, hx, e1⟩
    · omega
    · refine ⟨x, hx, ?_⟩
      show far b x ≤ e
      omega
theorem far_nonneg {b : Bx} {x : Int} : 0 ≤ far b x := by unfold far; omega
theorem wrong_nonneg {b : Bx} (hO : Ok b) : 0 ≤ b.wrongI := by
  obtain ⟨h1, h2, h3⟩ := wrong_at hO
  rcases h3 with e1 | ⟨x, hx, e1⟩
  · omega
  · have := far_nonneg (b := b) (x := x); omega
theorem setErr_self {b : Bx} : b.setErr b.err = b := rfl
/-- What is asked of the count. -/
theorem wrong_law {b : Bx} (hok : b.ok = true) {e1 : Int} (he : b.err ≤ e1 ∧ e1 ≤ 200) :
    ∃ m0 m1, b.manyR = (m0, 0) ∧ (b.setErr e1).manyR = (m1, 0) ∧ 0 ≤ m0 ∧ m0 ≤ m1 ∧ (0 < m0 ↔ b.wrongI ≤ b.err) := by
  have hO := ok_iff.1 hok
  refine ⟨_, _, manyR_ok hok, manyR_ok (setErr_ok hO (by have := hO.err; omega)), by omega, ?_, ?_⟩
  · have := many_mono (b := b) he.1; omega
  · have h := many_err hO (e := b.err) hO.err.2
    rw [setErr_self] at h
    omega
theorem wrong_has {b : Bx} (hok : b.ok = true) {e : Int} (he : 0 ≤ e ∧ e ≤ 200) (h : b.wrongI ≤ e) : ∃ m, (b.setErr e).manyR = (m, 0) ∧ 1 ≤ m := by
  have hO := ok_iff.1 hok
  have := (many_err hO he.2).2 h
  exact ⟨_, manyR_ok (setErr_ok hO he), by omega⟩
theorem wrong_none {b : Bx} (hok : b.ok = true) {e : Int} (he : 0 ≤ e ∧ e ≤ 200) (h : e < b.wrongI) : (b.setErr e).manyR = (0, 0) := by
  have hO := ok_iff.1 hok
  have h2 : (b.setErr e).many = 0 := by
    apply Classical.byContradiction; intro c
    have := (many_err hO he.2).1 c; omega
  rw [manyR_ok (setErr_ok hO he), h2]; rfl
end Go.Till
