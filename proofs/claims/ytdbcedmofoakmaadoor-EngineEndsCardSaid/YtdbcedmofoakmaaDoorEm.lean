/-
  THE ENGINE's DATA: evenings, parts, walks as plain Lean, and the cells in which Go keeps them.
-/
import Derived.Test.YtdbcedmofoakmaaDoorSx
namespace Go.Eng
open Go Go.Sx
structure Span where
  lo : Int
  hi : Int
structure Part where
  mi : Span
  light : Bool
  walks : Int
structure Walks where
  c : Int
  w : Int
structure Book where
  coal : Span
  water : Span
  bunker : Int
  tank : Int
  scoop : Int
  pail : Int
  burn0 : Span
  burn1 : Span
  drink0 : Span
  drink1 : Span
  full : Span
  weak : Span
  mark : Int
  lamp : Int
  parts : List Part
def bookL (b : Book) (A : Option Addr) (n c : Nat) : List Value :=
  [.int .i64 b.coal.lo, .int .i64 b.coal.hi, .int .i64 b.water.lo, .int .i64 b.water.hi, .int .i64 b.bunker, .int .i64 b.tank, .int .i64 b.scoop, .int .i64 b.pail,
   .int .i64 b.burn0.lo, .int .i64 b.burn0.hi, .int .i64 b.burn1.lo, .int .i64 b.burn1.hi, .int .i64 b.drink0.lo, .int .i64 b.drink0.hi, .int .i64 b.drink1.lo, .int .i64 b.drink1.hi,
   .int .i64 b.full.lo, .int .i64 b.full.hi, .int .i64 b.weak.lo, .int .i64 b.weak.hi, .int .i64 b.mark, .int .i64 b.lamp, .slice A n c]
def partL (p : Part) : List Value := [.int .i64 p.mi.lo, .int .i64 p.mi.hi, .bool p.light, .int .i64 p.walks]
def walksL (x : Walks) : List Value := [.int .i64 x.c, .int .i64 x.w]
/-- The evening's parts stand in memory. -/
abbrev PartsAt (w : World) (A : Option Addr) (n : Nat) (ps : List Part) : Prop := SlAt partL 4 w A n ps
abbrev PlanAt (w : World) (A : Option Addr) (n : Nat) (ps : List Walks) : Prop := SlAt walksL 2 w A n ps
/-! ### What the functions reckon -/
def within (n lo hi : Int) : Bool := decide (lo ≤ n) && decide (n ≤ hi)
def okSpan (a z lo hi : Int) : Bool := (decide (lo ≤ a) && decide (a ≤ z)) && decide (z ≤ hi)
def Part.ok (p : Part) : Bool := okSpan p.mi.lo p.mi.hi 1 60 && within p.walks 0 5
/-- All that is asked of an evening but of its parts. -/
def Book.ok0 (b : Book) (n : Int) : Bool :=
  within b.bunker 1 99 && within b.tank 1 99 && okSpan b.coal.lo b.coal.hi 0 b.bunker && okSpan b.water.lo b.water.hi 0 b.tank && within b.scoop 1 20 && within b.pail 1 20
    && okSpan b.burn0.lo b.burn0.hi 0 3 && okSpan b.drink0.lo b.drink0.hi 0 3 && okSpan b.burn1.lo b.burn1.hi 0 3 && okSpan b.drink1.lo b.drink1.hi 0 3
    && okSpan b.full.lo b.full.hi 0 60 && okSpan b.weak.lo b.weak.hi 0 60 && decide (b.weak.lo ≤ b.full.lo) && decide (b.weak.hi ≤ b.full.hi)
    && within b.mark 0 b.tank && within b.lamp 0 60 && within n 1 5
def Book.ok (b : Book) : Bool := b.ok0 (b.parts.length : Int) && b.parts.all Part.ok
theorem all_snoc {α : Type} {xs : List α} {i : Nat} {x : α} {f : α → Bool} (hx : xs[i]? = some x) : (xs.take (i + 1)).all f = ((xs.take i).all f && f x) := by
  rw [List.take_add_one, hx]; simp
/-- The ends of what can be: false: the least, true: the greatest. -/
def Span.end (s : Span) (hi : Bool) : Int := if hi then s.hi else s.lo
def Book.burn (b : Book) (l : Bool) : Span := if l then b.burn1 else b.burn0
def Book.drink (b : Book) (l : Bool) : Span := if l then b.drink1 else b.drink0
/-- What is left of coal, of water, at an end (it can be below 0). -/
def Book.afterC (b : Book) (hi : Bool) (p : Part) (x c : Int) : Int := min b.bunker (c + x * b.scoop) - p.mi.end (!hi) * (b.burn p.light).end (!hi)
def Book.afterW (b : Book) (hi : Bool) (p : Part) (x v : Int) : Int := min b.tank (v + x * b.pail) - p.mi.end (!hi) * (b.drink p.light).end (!hi)
/-- Numbers that are small enough for every sum. -/
structure Bd (b : Book) : Prop where
  coal : 0 ≤ b.coal.lo ∧ b.coal.lo ≤ 1000 ∧ 0 ≤ b.coal.hi ∧ b.coal.hi ≤ 1000
  water : 0 ≤ b.water.lo ∧ b.water.lo ≤ 1000 ∧ 0 ≤ b.water.hi ∧ b.water.hi ≤ 1000
  room : 0 ≤ b.bunker ∧ b.bunker ≤ 1000 ∧ 0 ≤ b.tank ∧ b.tank ≤ 1000
  load : 0 ≤ b.scoop ∧ b.scoop ≤ 1000 ∧ 0 ≤ b.pail ∧ b.pail ≤ 1000
  burn : ∀ l h, 0 ≤ (b.burn l).end h ∧ (b.burn l).end h ≤ 1000
  drink : ∀ l h, 0 ≤ (b.drink l).end h ∧ (b.drink l).end h ≤ 1000
  len : b.parts.length ≤ 100
  wk : b.weak.lo ≤ b.full.lo
  parts : ∀ (i : Nat) (x : Part), b.parts[i]? = some x → (∀ h, 0 ≤ x.mi.end h ∧ x.mi.end h ≤ 1000) ∧ 0 ≤ x.walks ∧ x.walks ≤ 1000
theorem mulbd {x y : Int} (hx : 0 ≤ x ∧ x ≤ 1000) (hy : 0 ≤ y ∧ y ≤ 1000) : 0 ≤ x * y ∧ x * y ≤ 1000000 :=
  ⟨Int.mul_nonneg hx.1 hy.1, Int.le_trans (Int.mul_le_mul hx.2 hy.2 hy.1 (by omega)) (by omega)⟩
def stuffsL : List Value := [.func (.func 103) #[] #[], .func (.func 104) #[] #[]]
/-- Does a part fail that leaves so much at least? -/
def Book.may (b : Book) (p : Part) (c v : Int) : Bool :=
  (decide (c < 0) || decide (v < 0)) || (p.light && decide ((if v < b.mark then b.weak else b.full).lo < b.lamp))
/-- What is left at an end behind i parts of a plan. -/
def Book.run (b : Book) (hi : Bool) (plan : List Walks) : Nat → Int × Int
  | 0 => (b.coal.end hi, b.water.end hi)
  | i + 1 => match b.parts[i]?, plan[i]? with
    | some p, some x => (b.afterC hi p x.c (b.run hi plan i).1, b.afterW hi p x.w (b.run hi plan i).2)
    | _, _ => b.run hi plan i
theorem Book.run_succ {b : Book} {hi : Bool} {plan : List Walks} {i : Nat} {p : Part} {x : Walks} (hp : b.parts[i]? = some p) (hx : plan[i]? = some x) :
    b.run hi plan (i + 1) = (b.afterC hi p x.c (b.run hi plan i).1, b.afterW hi p x.w (b.run hi plan i).2) := by
  simp only [Book.run, hp, hx]
def Book.mayAt (b : Book) (plan : List Walks) (i : Nat) : Bool := match b.parts[i]? with
  | some p => b.may p (b.run false plan (i + 1)).1 (b.run false plan (i + 1)).2
  | none => false
/-- The first part that may fail, or -1. -/
def Book.failsI (b : Book) (plan : List Walks) : Int := first (b.mayAt plan) plan.length 0
def okWalks (p : Part) (x : Walks) : Bool := within x.c 0 p.walks && within x.w 0 (p.walks - x.c)
def Book.isPlan (b : Book) (plan : List Walks) : Bool := (plan.length == b.parts.length) && (plan.zip b.parts).all (fun q => okWalks q.2 q.1)

theorem take_done {α : Type} {l : List α} {f : α → Bool} {i n : Nat} (hn : l.length = n) (h : ((l.take i).all f && decide ((i : Int) < (n : Int))) = false) : (l.take i).all f = l.all f := by
  cases h1 : (l.take i).all f with
  | true =>
    rw [h1, Bool.true_and, decide_eq_false_iff_not] at h
    rw [← h1, List.take_of_length_le (by omega)]
  | false =>
    symm
    rw [List.all_eq_false] at h1 ⊢
    obtain ⟨x, hx, hf⟩ := h1
    exact ⟨x, List.mem_of_mem_take hx, hf⟩
theorem zip_at {α β : Type} {l : List α} {r : List β} {i : Nat} {x : α} {y : β} (hx : l[i]? = some x) (hy : r[i]? = some y) : (l.zip r)[i]? = some (x, y) :=
  List.getElem?_zip_eq_some.2 ⟨hx, hy⟩
theorem zip_all_take {α β : Type} {l : List α} {r : List β} {f : α × β → Bool} {n : Nat} (h : l.length = n) : ((l.zip r).take n).all f = (l.zip r).all f := by
  rw [List.take_of_length_le (by rw [List.length_zip]; omega)]
theorem isPlan_len {b : Book} {plan : List Walks} (h : b.isPlan plan = true) : plan.length = b.parts.length := by
  simp only [Book.isPlan, Bool.and_eq_true, beq_iff_eq] at h; exact h.1
theorem isPlan_ok {b : Book} {plan : List Walks} (h : b.isPlan plan = true) {i : Nat} {x : Part} {y : Walks} (hx : b.parts[i]? = some x) (hy : plan[i]? = some y) : okWalks x y = true := by
  simp only [Book.isPlan, Bool.and_eq_true, List.all_eq_true] at h
  exact h.2 (y, x) (List.mem_of_getElem? (zip_at hy hx))
theorem okWalks_bd {x : Part} {y : Walks} (h : okWalks x y = true) : 0 ≤ y.c ∧ 0 ≤ y.w ∧ y.c + y.w ≤ x.walks := by
  simp only [okWalks, within, Bool.and_eq_true, decide_eq_true_eq] at h; omega
theorem isPlan_bd {b : Book} {plan : List Walks} (hb : Bd b) (h : b.isPlan plan = true) {i : Nat} {x : Part} {y : Walks} (hx : b.parts[i]? = some x) (hy : plan[i]? = some y) : 0 ≤ y.c ∧ y.c ≤ 1000 ∧ 0 ≤ y.w ∧ y.w ≤ 1000 := by
  have h1 := okWalks_bd (isPlan_ok h hx hy)
  have h2 := (hb.parts i x hx).2
  omega
theorem after_bd {b : Book} (hb : Bd b) {i : Nat} {x : Part} (hx : b.parts[i]? = some x) {y : Walks} (hw : 0 ≤ y.c ∧ y.c ≤ 1000 ∧ 0 ≤ y.w ∧ y.w ≤ 1000) (hi : Bool) (c v : Int) :
    (min c 0 - 1000000 ≤ b.afterC hi x y.c c ∧ b.afterC hi x y.c c ≤ 1000) ∧ (min v 0 - 1000000 ≤ b.afterW hi x y.w v ∧ b.afterW hi x y.w v ≤ 1000) := by
  have m1 := mulbd ⟨hw.1, hw.2.1⟩ ⟨hb.load.1, hb.load.2.1⟩
  have m2 := mulbd ⟨hw.2.2.1, hw.2.2.2⟩ hb.load.2.2
  have m3 := mulbd ((hb.parts i x hx).1 (!hi)) (hb.burn x.light (!hi))
  have m4 := mulbd ((hb.parts i x hx).1 (!hi)) (hb.drink x.light (!hi))
  have hr := hb.room
  unfold Book.afterC Book.afterW
  omega
theorem run_bd {b : Book} (hb : Bd b) {plan : List Walks} (h : b.isPlan plan = true) (hi : Bool) : ∀ i : Nat, i ≤ 100 →
    (-1000000 * (i : Int) ≤ (b.run hi plan i).1 ∧ (b.run hi plan i).1 ≤ 1000) ∧ (-1000000 * (i : Int) ≤ (b.run hi plan i).2 ∧ (b.run hi plan i).2 ≤ 1000) := by
  intro i
  induction i with
  | zero =>
    intro _
    have h1 := hb.coal; have h2 := hb.water
    cases hi <;> simp only [Book.run, Span.end] <;> simp <;> omega
  | succ i ih =>
    intro hl
    have ih := ih (by omega)
    cases hx : b.parts[i]? with
    | none => simp only [Book.run, hx]; omega
    | some x =>
      cases hy : plan[i]? with
      | none => simp only [Book.run, hx, hy]; omega
      | some y =>
        rw [Book.run_succ hx hy]
        have := after_bd hb hx (isPlan_bd hb h hx hy) hi (b.run hi plan i).1 (b.run hi plan i).2
        simp only
        omega
theorem run_cb {b : Book} (hb : Bd b) {plan : List Walks} (h : b.isPlan plan = true) (hi : Bool) {i : Nat} (hl : i ≤ b.parts.length) :
    -1000000000 ≤ (b.run hi plan i).1 ∧ (b.run hi plan i).1 ≤ 1000000000 ∧ -1000000000 ≤ (b.run hi plan i).2 ∧ (b.run hi plan i).2 ≤ 1000000000 := by
  have := run_bd hb h hi i (by have := hb.len; omega)
  have := hb.len
  omega
theorem within_iff {n lo hi : Int} : within n lo hi = true ↔ lo ≤ n ∧ n ≤ hi := by simp [within]
theorem okSpan_iff {a z lo hi : Int} : okSpan a z lo hi = true ↔ lo ≤ a ∧ a ≤ z ∧ z ≤ hi := by simp [okSpan, and_assoc]
theorem ok_bd {b : Book} (h : b.ok = true) : Bd b := by
  simp only [Book.ok, Book.ok0, Bool.and_eq_true, within_iff, okSpan_iff, decide_eq_true_eq] at h
  obtain ⟨h, hp⟩ := h
  refine ⟨by omega, by omega, by omega, by omega, ?_, ?_, by omega, by omega, ?_⟩
  · intro l e; cases l <;> cases e <;> simp [Book.burn, Span.end] <;> omega
  · intro l e; cases l <;> cases e <;> simp [Book.drink, Span.end] <;> omega
  · intro i x hx
    have := List.all_eq_true.1 hp x (List.mem_of_getElem? hx)
    simp only [Part.ok, Bool.and_eq_true, within_iff, okSpan_iff] at this
    refine ⟨fun e => ?_, by omega, by omega⟩
    cases e <;> simp [Span.end] <;> omega
/-- What the functions that the packages hand out answer: the values, and the error (0: none). -/
def Book.currentR (b : Book) (k : Int) : Span × Int :=
  if b.ok = true then if within k 0 b.tank = true then (if k < b.mark then b.weak else b.full, 0) else (⟨0, 0⟩, 41) else (⟨0, 0⟩, 40)
def Book.failsR (b : Book) (plan : List Walks) : Int × Int :=
  if b.ok = true then if b.isPlan plan = true then if b.failsI plan < 0 then (0, 4) else (b.failsI plan, 0) else (0, 41) else (0, 40)
/-- Does the engine stand, at the least, behind part i? -/
def Book.dead (b : Book) (plan : List Walks) (i : Nat) : Bool := decide ((b.run false plan (i + 1)).1 < 0) || decide ((b.run false plan (i + 1)).2 < 0)
def Book.deadI (b : Book) (plan : List Walks) (k : Nat) : Int := first (b.dead plan) (k + 1) 0
def Book.leftR (b : Book) (plan : List Walks) (k : Int) : Span × Span × Int :=
  if b.ok = true then
    if b.isPlan plan = true ∧ within k 0 ((b.parts.length : Int) - 1) = true then
      if b.deadI plan k.toNat < 0 then
        (⟨(b.run false plan (k.toNat + 1)).1, (b.run true plan (k.toNat + 1)).1⟩, ⟨(b.run false plan (k.toNat + 1)).2, (b.run true plan (k.toNat + 1)).2⟩, 0)
      else (⟨0, 0⟩, ⟨0, 0⟩, 42)
    else (⟨0, 0⟩, ⟨0, 0⟩, 41)
  else (⟨0, 0⟩, ⟨0, 0⟩, 40)
end Go.Eng
