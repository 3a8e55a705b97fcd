/-
  PLAIN LAWS of the engine: what truly happens, minute by minute, lies within what is told.
-/
import Derived.Test.YtdbcedmofoakmaaDoorEi2
set_option maxRecDepth 100000
namespace Go.Eng
open Go Go.Sx
theorem ok_num {b : Book} : b.ok = true ↔ ((1 ≤ b.bunker ∧ b.bunker ≤ 99) ∧ (1 ≤ b.tank ∧ b.tank ≤ 99) ∧ (0 ≤ b.coal.lo ∧ b.coal.lo ≤ b.coal.hi ∧ b.coal.hi ≤ b.bunker) ∧ (0 ≤ b.water.lo ∧ b.water.lo ≤ b.water.hi ∧ b.water.hi ≤ b.tank) ∧ (1 ≤ b.scoop ∧ b.scoop ≤ 20) ∧ (1 ≤ b.pail ∧ b.pail ≤ 20) ∧
    (0 ≤ b.burn0.lo ∧ b.burn0.lo ≤ b.burn0.hi ∧ b.burn0.hi ≤ 3) ∧ (0 ≤ b.drink0.lo ∧ b.drink0.lo ≤ b.drink0.hi ∧ b.drink0.hi ≤ 3) ∧ (0 ≤ b.burn1.lo ∧ b.burn1.lo ≤ b.burn1.hi ∧ b.burn1.hi ≤ 3) ∧ (0 ≤ b.drink1.lo ∧ b.drink1.lo ≤ b.drink1.hi ∧ b.drink1.hi ≤ 3) ∧
    (0 ≤ b.full.lo ∧ b.full.lo ≤ b.full.hi ∧ b.full.hi ≤ 60) ∧ (0 ≤ b.weak.lo ∧ b.weak.lo ≤ b.weak.hi ∧ b.weak.hi ≤ 60) ∧ b.weak.lo ≤ b.full.lo ∧ b.weak.hi ≤ b.full.hi ∧ (0 ≤ b.mark ∧ b.mark ≤ b.tank) ∧ (0 ≤ b.lamp ∧ b.lamp ≤ 60) ∧ (1 ≤ (b.parts.length : Int) ∧ (b.parts.length : Int) ≤ 5)) ∧ b.parts.all Part.ok = true := by
  simp only [Book.ok, Book.ok0, Bool.and_eq_true, within_iff, okSpan_iff, decide_eq_true_eq, and_assoc]
def inS (s : Span) (z : Int) : Prop := s.lo ≤ z ∧ z ≤ s.hi
/-- What 'Choose' answers. -/
def chooseN (s : Span) (n : Int) : Int := if s.lo > s.hi then s.lo else s.lo + turn n (s.hi - s.lo + 1)
theorem choose_in {s : Span} (h : s.lo ≤ s.hi) (n : Int) : inS s (chooseN s n) := by
  unfold chooseN inS
  rw [if_neg (by omega)]
  have := turn_bd (n := n) (m := s.hi - s.lo + 1) (by omega)
  omega
/-- k minutes of a part, from c0 shovels and v0 buckets on; dk: one of them was dark that must not be. -/
def MinF (b : Book) (l : Bool) (c0 v0 : Int) : Nat → Int → Int → Bool → Prop
  | 0, c, v, dk => c = c0 ∧ v = v0 ∧ dk = false
  | k + 1, c, v, dk => ∃ c' v' dk' bu dr cu, MinF b l c0 v0 k c' v' dk' ∧ inS (b.burn l) bu ∧ inS (b.drink l) dr ∧ bu ≤ c' ∧ dr ≤ v' ∧ c = c' - bu ∧ v = v' - dr ∧ inS (if v < b.mark then b.weak else b.full) cu ∧ dk = (dk' || (l && decide (cu < b.lamp)))
/-- What is there at the begin of part i, when its walks are done. -/
def c0At (b : Book) (y : Walks) (c : Int) : Int := min b.bunker (c + y.c * b.scoop)
def v0At (b : Book) (y : Walks) (v : Int) : Int := min b.tank (v + y.w * b.pail)
/-- The first i parts are over. -/
def HP (b : Book) (plan : List Walks) : Nat → Int → Int → List Int → List Int → Int → Prop
  | 0, c, v, cs, ws, fl => inS b.coal c ∧ inS b.water v ∧ cs = [] ∧ ws = [] ∧ fl = (b.parts.length : Int)
  | i + 1, c, v, cs, ws, fl => ∃ c' v' cs' ws' fl' x y, ∃ m : Nat, ∃ dk : Bool, HP b plan i c' v' cs' ws' fl' ∧ b.parts[i]? = some x ∧ plan[i]? = some y ∧ inS x.mi (m : Int) ∧ MinF b x.light (c0At b y c') (v0At b y v') m c v dk ∧ cs = cs' ++ [c] ∧ ws = ws' ++ [v] ∧ fl = if dk = true then min fl' (i : Int) else fl'
/-- What a whole evening, or one that stood still, leaves. -/
def Hap (b : Book) (plan : List Walks) (cs ws : List Int) (fl : Int) : Prop :=
  (∃ c v, HP b plan b.parts.length c v cs ws fl) ∨
  ∃ i c' v' fl' x y, ∃ m k : Nat, ∃ c v, ∃ dk : Bool, ∃ bu dr, HP b plan i c' v' cs ws fl' ∧ b.parts[i]? = some x ∧ plan[i]? = some y ∧ inS x.mi (m : Int) ∧ k < m ∧ MinF b x.light (c0At b y c') (v0At b y v') k c v dk ∧ inS (b.burn x.light) bu ∧ inS (b.drink x.light) dr ∧ (c < bu ∨ v < dr) ∧ fl = min (if dk = true then min fl' (i : Int) else fl') (i : Int)
theorem mul_up {x y z : Int} (h : x ≤ y) (hz : 0 ≤ z) : x * z ≤ y * z := Int.mul_le_mul_of_nonneg_right h hz
theorem minF_bd {b : Book} {l : Bool} {c0 v0 : Int} : ∀ (k : Nat) (c v : Int) (dk : Bool), MinF b l c0 v0 k c v dk →
    c0 - (k : Int) * (b.burn l).hi ≤ c ∧ c ≤ c0 - (k : Int) * (b.burn l).lo ∧ v0 - (k : Int) * (b.drink l).hi ≤ v ∧ v ≤ v0 - (k : Int) * (b.drink l).lo := by
  intro k
  induction k with
  | zero => rintro c v dk ⟨rfl, rfl, -⟩; simp
  | succ k ih =>
    rintro c v dk ⟨c', v', dk', bu, dr, cu, h, h1, h2, -, -, rfl, rfl, -, -⟩
    have := ih _ _ _ h
    have e : ∀ z : Int, ((k + 1 : Nat) : Int) * z = (k : Int) * z + z := fun z => by rw [Int.natCast_add, Int.add_mul]; omega
    rw [e, e, e, e]
    simp only [inS] at h1 h2
    omega
theorem minF_le {b : Book} {l : Bool} {c0 v0 : Int} (hb : 0 ≤ (b.burn l).lo) (hd : 0 ≤ (b.drink l).lo) : ∀ (k : Nat) (c v : Int) (dk : Bool), MinF b l c0 v0 k c v dk → c ≤ c0 ∧ v ≤ v0 := by
  intro k
  induction k with
  | zero => rintro c v dk ⟨rfl, rfl, -⟩; omega
  | succ k ih =>
    rintro c v dk ⟨c', v', dk', bu, dr, cu, h, h1, h2, -, -, rfl, rfl, -, -⟩
    have := ih _ _ _ h
    simp only [inS] at h1 h2
    omega
/-- A part that cannot fail at the worst: none of its minutes is dark, and the engine never stands. -/
theorem minF_safe {b : Book} (hb : Bd b) {x : Part} {y : Walks} {c0 v0 cw vw : Int} (hv : min b.tank (vw + y.w * b.pail) ≤ v0) (hm : b.may x (b.afterC false x y.c cw) (b.afterW false x y.w vw) = false) {m : Nat} (hmh : (m : Int) ≤ x.mi.hi) :
    ∀ (k : Nat) (c v : Int) (dk : Bool), k ≤ m → MinF b x.light c0 v0 k c v dk → dk = false := by
  intro k
  induction k with
  | zero => rintro c v dk _ ⟨-, -, h⟩; exact h
  | succ k ih =>
    rintro c v dk hk hM
    have hbd := minF_bd _ _ _ _ hM
    obtain ⟨c', v', dk', bu, dr, cu, h, h1, h2, h3, h4, rfl, rfl, h5, rfl⟩ := hM
    rw [ih _ _ _ (by omega) h, Bool.false_or]
    have h6 := mul_up (show ((k + 1 : Nat) : Int) ≤ x.mi.hi by omega) (hb.drink x.light true).1
    simp only [Span.end, if_true] at h6
    have hwk := hb.wk
    unfold Book.may at hm
    have ew : b.afterW false x y.w vw ≤ v' - dr := by
      simp only [Book.afterW, Span.end, Bool.not_false, if_true]
      omega
    generalize b.afterW false x y.w vw = ww at hm ew
    generalize b.afterC false x y.c cw = wc at hm
    generalize x.light = l at hm h5
    cases l with
    | false => rfl
    | true =>
      simp only [Bool.true_and, Bool.or_eq_false_iff, decide_eq_false_iff_not] at hm ⊢
      have h7 := hm.2
      simp only [inS] at h5
      by_cases e1 : ww < b.mark <;> by_cases e2 : v' - dr < b.mark <;> simp only [e1, e2, if_true, if_false] at h5 h7 <;> omega
/-- An engine that cannot stand in a part does not. -/
theorem minF_run {b : Book} (hb : Bd b) {x : Part} {y : Walks} {c0 v0 cw vw : Int} (hc : min b.bunker (cw + y.c * b.scoop) ≤ c0) (hv : min b.tank (vw + y.w * b.pail) ≤ v0) (h1 : 0 ≤ b.afterC false x y.c cw) (h2 : 0 ≤ b.afterW false x y.w vw) {k : Nat} (hk : (k : Int) + 1 ≤ x.mi.hi) {c v : Int} {dk : Bool} (hM : MinF b x.light c0 v0 k c v dk) :
    (b.burn x.light).hi ≤ c ∧ (b.drink x.light).hi ≤ v := by
  have hbd := minF_bd _ _ _ _ hM
  have h3 := mul_up hk (hb.burn x.light true).1
  have h4 := mul_up hk (hb.drink x.light true).1
  simp only [Span.end, if_true] at h3 h4
  rw [Int.add_mul] at h3 h4
  simp only [Book.afterC, Book.afterW, Span.end, Bool.not_false, if_true] at h1 h2
  omega
/-- The values of the evening so far. -/
structure HPB (b : Book) (plan : List Walks) (i : Nat) (c v : Int) (cs ws : List Int) : Prop where
  c : (b.run false plan i).1 ≤ c ∧ c ≤ (b.run true plan i).1
  v : (b.run false plan i).2 ≤ v ∧ v ≤ (b.run true plan i).2
  cl : cs.length = i
  wl : ws.length = i
  cs : ∀ (j : Nat) (z : Int), cs[j]? = some z → (b.run false plan (j + 1)).1 ≤ z ∧ z ≤ (b.run true plan (j + 1)).1
  ws : ∀ (j : Nat) (z : Int), ws[j]? = some z → (b.run false plan (j + 1)).2 ≤ z ∧ z ≤ (b.run true plan (j + 1)).2
theorem snoc_at {l : List Int} {z : Int} {P : Nat → Int → Prop} (h : ∀ j y, l[j]? = some y → P j y) (hz : P l.length z) : ∀ j y, (l ++ [z])[j]? = some y → P j y := by
  intro j y hy
  rcases Nat.lt_or_ge j l.length with h' | h'
  · rw [List.getElem?_append_left h'] at hy; exact h j y hy
  · rw [List.getElem?_append_right h'] at hy
    have hj : j - l.length < 1 := by have := (List.getElem?_eq_some_iff.1 hy).1; simpa using this
    rw [show j - l.length = 0 by omega] at hy
    simp only [List.getElem?_cons_zero, Option.some.injEq] at hy
    have e : j = l.length := by omega
    subst e hy; exact hz
theorem hp_bd {b : Book} (hb : Bd b) {plan : List Walks} : ∀ (i : Nat) (c v : Int) (cs ws : List Int) (fl : Int), HP b plan i c v cs ws fl → HPB b plan i c v cs ws := by
  intro i
  induction i with
  | zero =>
    rintro c v cs ws fl ⟨h1, h2, rfl, rfl, -⟩
    exact ⟨by simpa [Book.run, Span.end, inS] using h1, by simpa [Book.run, Span.end, inS] using h2, rfl, rfl, fun j z h => by simp at h, fun j z h => by simp at h⟩
  | succ i ih =>
    rintro c v cs ws fl ⟨c', v', cs', ws', fl', x, y, m, dk, h, hx, hy, hm, hM, rfl, rfl, -⟩
    have I := ih _ _ _ _ _ h
    have hbd := minF_bd _ _ _ _ hM
    simp only [inS] at hm
    have k1 := mul_up hm.2 (hb.burn x.light true).1
    have k2 := mul_up hm.2 (hb.drink x.light true).1
    have k3 := mul_up hm.1 (hb.burn x.light false).1
    have k4 := mul_up hm.1 (hb.drink x.light false).1
    simp only [Span.end, if_true, if_false, Bool.false_eq_true] at k1 k2 k3 k4
    have hc := I.c; have hv := I.v
    have e1 : (b.run false plan (i + 1)).1 ≤ c ∧ c ≤ (b.run true plan (i + 1)).1 := by
      rw [Book.run_succ hx hy, Book.run_succ hx hy]
      simp only [Book.afterC, Span.end, Bool.not_false, Bool.not_true, if_true, if_false, Bool.false_eq_true, c0At] at hbd ⊢
      omega
    have e2 : (b.run false plan (i + 1)).2 ≤ v ∧ v ≤ (b.run true plan (i + 1)).2 := by
      rw [Book.run_succ hx hy, Book.run_succ hx hy]
      simp only [Book.afterW, Span.end, Bool.not_false, Bool.not_true, if_true, if_false, Bool.false_eq_true, v0At] at hbd ⊢
      omega
    exact ⟨e1, e2, by simp [I.cl], by simp [I.wl], snoc_at I.cs (by rw [I.cl]; exact e1), snoc_at I.ws (by rw [I.wl]; exact e2)⟩
theorem hp_fl {b : Book} (hb : Bd b) {plan : List Walks} {q : Nat} (hq : ∀ j, j < q → b.mayAt plan j = false) (hql : q ≤ b.parts.length) : ∀ (i : Nat) (c v : Int) (cs ws : List Int) (fl : Int), HP b plan i c v cs ws fl → (q : Int) ≤ fl := by
  intro i
  induction i with
  | zero => rintro c v cs ws fl ⟨-, -, -, -, rfl⟩; omega
  | succ i ih =>
    rintro c v cs ws fl ⟨c', v', cs', ws', fl', x, y, m, dk, h, hx, hy, hm, hM, -, -, rfl⟩
    have I := ih _ _ _ _ _ h
    have B := hp_bd hb _ _ _ _ _ _ h
    have hc := B.c; have hv := B.v
    rcases Nat.lt_or_ge i q with hi | hi
    · have h1 := hq i hi
      simp only [Book.mayAt, hx, Book.run_succ hx hy] at h1
      simp only [inS] at hm
      have := minF_safe hb (x := x) (y := y) (cw := (b.run false plan i).1) (vw := (b.run false plan i).2) (by simp only [v0At]; omega) h1 hm.2 m c v dk (Nat.le_refl _) hM
      rw [this]; simpa using I
    · split <;> omega
theorem not_dead {b : Book} {plan : List Walks} {i : Nat} {x : Part} {y : Walks} (hx : b.parts[i]? = some x) (hy : plan[i]? = some y) (h : b.dead plan i = false) : 0 ≤ b.afterC false x y.c (b.run false plan i).1 ∧ 0 ≤ b.afterW false x y.w (b.run false plan i).2 := by
  simp only [Book.dead, Book.run_succ hx hy, Bool.or_eq_false_iff, decide_eq_false_iff_not] at h
  omega
theorem may_dead {b : Book} {plan : List Walks} {i : Nat} {x : Part} (hx : b.parts[i]? = some x) (h : b.mayAt plan i = false) : b.dead plan i = false := by
  simp only [Book.mayAt, hx, Book.may, Bool.or_eq_false_iff] at h
  simp only [Book.dead, Bool.or_eq_false_iff]
  exact h.1
/-- Where the engine stood it could stand. -/
theorem stop_dead {b : Book} (hb : Bd b) {plan : List Walks} {i : Nat} {c' v' : Int} {cs ws : List Int} {fl' : Int} {x : Part} {y : Walks} {m k : Nat} {c v bu dr : Int} {dk : Bool} (h : HP b plan i c' v' cs ws fl') (hx : b.parts[i]? = some x) (hy : plan[i]? = some y) (hm : inS x.mi (m : Int)) (hk : k < m)
    (hM : MinF b x.light (c0At b y c') (v0At b y v') k c v dk) (hbu : inS (b.burn x.light) bu) (hdr : inS (b.drink x.light) dr) (hs : c < bu ∨ v < dr) : b.dead plan i = true := by
  cases hd : b.dead plan i with
  | true => rfl
  | false =>
    have h1 := not_dead hx hy hd
    have B := hp_bd hb _ _ _ _ _ _ h
    have hc := B.c; have hv := B.v
    simp only [inS] at hm hbu hdr
    have := minF_run hb (x := x) (y := y) (cw := (b.run false plan i).1) (vw := (b.run false plan i).2) (by simp only [c0At]; omega) (by simp only [v0At]; omega) h1.1 h1.2 (k := k) (by omega) hM
    omega
theorem hap_fl {b : Book} (hb : Bd b) {plan : List Walks} {cs ws : List Int} {fl : Int} (h : Hap b plan cs ws fl) {q : Nat} (hq : ∀ j, j < q → b.mayAt plan j = false) (hql : q ≤ b.parts.length) : (q : Int) ≤ fl := by
  rcases h with ⟨c, v, h⟩ | ⟨i, c', v', fl', x, y, m, k, c, v, dk, bu, dr, h, hx, hy, hm, hk, hM, hbu, hdr, hs, rfl⟩
  · exact hp_fl hb hq hql _ _ _ _ _ _ h
  · have h1 := hp_fl hb hq hql _ _ _ _ _ _ h
    have h2 := stop_dead hb h hx hy hm hk hM hbu hdr hs
    rcases Nat.lt_or_ge i q with hi | hi
    · rw [may_dead hx (hq i hi)] at h2; cases h2
    · split <;> omega
theorem hap_in {b : Book} (hb : Bd b) {plan : List Walks} {cs ws : List Int} {fl : Int} (h : Hap b plan cs ws fl) {i : Nat} (hi : i < b.parts.length) (hd : ∀ j, j ≤ i → b.dead plan j = false) :
    i < cs.length ∧ i < ws.length ∧ (∀ z, cs[i]? = some z → (b.run false plan (i + 1)).1 ≤ z ∧ z ≤ (b.run true plan (i + 1)).1) ∧ (∀ z, ws[i]? = some z → (b.run false plan (i + 1)).2 ≤ z ∧ z ≤ (b.run true plan (i + 1)).2) := by
  rcases h with ⟨c, v, h⟩ | ⟨s, c', v', fl', x, y, m, k, c, v, dk, bu, dr, h, hx, hy, hm, hk, hM, hbu, hdr, hs, rfl⟩
  · have B := hp_bd hb _ _ _ _ _ _ h
    have h1 := B.cl; have h2 := B.wl
    exact ⟨by omega, by omega, B.cs i, B.ws i⟩
  · have B := hp_bd hb _ _ _ _ _ _ h
    have h1 := B.cl; have h2 := B.wl
    have h3 := stop_dead hb h hx hy hm hk hM hbu hdr hs
    have h4 : i < s := by
      rcases Nat.lt_or_ge i s with h | h
      · exact h
      · rw [hd s h] at h3; cases h3
    exact ⟨by omega, by omega, B.cs i, B.ws i⟩
theorem hap_len {b : Book} (hb : Bd b) {plan : List Walks} {cs ws : List Int} {fl : Int} (h : Hap b plan cs ws fl) : cs.length = ws.length ∧ cs.length ≤ b.parts.length := by
  rcases h with ⟨c, v, h⟩ | ⟨s, c', v', fl', x, y, m, k, c, v, dk, bu, dr, h, hx, -⟩
  · have B := hp_bd hb _ _ _ _ _ _ h
    have h1 := B.cl; have h2 := B.wl
    omega
  · have B := hp_bd hb _ _ _ _ _ _ h
    have h1 := B.cl; have h2 := B.wl
    have := (List.getElem?_eq_some_iff.1 hx).1
    omega
theorem left_cases {b : Book} (hok : b.ok = true) {plan : List Walks} (hpl : b.isPlan plan = true) {i : Nat} (hi : i < b.parts.length) :
    (b.leftR plan (i : Int) = (⟨(b.run false plan (i + 1)).1, (b.run true plan (i + 1)).1⟩, ⟨(b.run false plan (i + 1)).2, (b.run true plan (i + 1)).2⟩, 0) ∧ ∀ j, j ≤ i → b.dead plan j = false) ∨ (b.leftR plan (i : Int) = (⟨0, 0⟩, ⟨0, 0⟩, 42) ∧ ∃ j, j ≤ i ∧ b.dead plan j = true) := by
  unfold Book.leftR
  rw [if_pos hok, if_pos ⟨hpl, Eng.within_iff.2 (by omega)⟩, Int.toNat_natCast]
  by_cases h : b.deadI plan i < 0
  · rw [if_pos h]; exact .inl ⟨rfl, fun j hj => first_none h (Nat.zero_le _) (by omega)⟩
  · rw [if_neg h]
    obtain ⟨j, -, -, h2, h3, -⟩ := first_spec _ _ (Int.not_lt.1 h)
    exact .inr ⟨rfl, j, by omega, h3⟩
theorem fails_cases {b : Book} (hok : b.ok = true) {plan : List Walks} (hpl : b.isPlan plan = true) :
    (b.failsR plan = (0, 4) ∧ b.good b.parts plan b.coal.lo b.water.lo = true ∧ ∀ j, j < b.parts.length → b.mayAt plan j = false) ∨ ∃ q : Nat, b.failsR plan = ((q : Int), 0) ∧ q < b.parts.length ∧ b.mayAt plan q = true ∧ ∀ j, j < q → b.mayAt plan j = false := by
  unfold Book.failsR
  rw [if_pos hok, if_pos hpl]
  have hl := isPlan_len hpl
  by_cases h : b.failsI plan < 0
  · rw [if_pos h]; exact .inl ⟨rfl, (failsI_good hpl).1 h, fun j hj => first_none h (Nat.zero_le _) (by omega)⟩
  · rw [if_neg h]
    obtain ⟨j, h1, h2, h3, h4, h5⟩ := first_spec _ _ (Int.not_lt.1 h)
    exact .inr ⟨j, by rw [← h1]; rfl, by omega, h4, fun k hk => h5 k (Nat.zero_le _) hk⟩
theorem good_all {b : Book} {plan : List Walks} (hpl : b.isPlan plan = true) (hg : b.good b.parts plan b.coal.lo b.water.lo = true) : ∀ j, j < b.parts.length → b.mayAt plan j = false := by
  intro j hj
  have hl := isPlan_len hpl
  exact first_none ((failsI_good hpl).2 hg) (Nat.zero_le _) (by omega)
/-- What the loop over the parts keeps. -/
structure HapG where
  k : Nat
  c : Int
  v : Int
  A1 : Option Addr
  c1 : Nat
  cs : List Int
  b1 : Nat
  o1 : Option Obj
  A2 : Option Addr
  c2 : Nat
  ws : List Int
  b2 : Nat
  o2 : Option Obj
  fl : Int
  p : Int
/-- What the loop over the minutes keeps. -/
structure MinG where
  k : Nat
  c : Int
  v : Int
  fl : Int
  p : Int
  dk : Bool
end Go.Eng
