/-
  THE TILL's DATA: boxes as plain Lean, the cells in which Go keeps them, and what the functions reckon.
-/
import Derived.Test.YtcnndpedeofbmaaDoorSz
set_option maxRecDepth 100000
namespace Go.Till
open Go Go.Sx
structure Sp where
  lo : Int
  hi : Int
structure Roll where
  price : Int
  first : Sp
  fin : Sp
structure Bx where
  rolls : List Roll
  free : List Sp
  count : Int
  err : Int
  duty : Int
  share : Int
  guar : Int
theorem Sp.eq {s : Sp} {a z : Int} (h1 : s.lo = a) (h2 : s.hi = z) : s = ⟨a, z⟩ := by cases s; simp_all
def spL (s : Sp) : List Value := [.int .i64 s.lo, .int .i64 s.hi]
def rollL (r : Roll) : List Value := [.int .i64 r.price, .int .i64 r.first.lo, .int .i64 r.first.hi, .int .i64 r.fin.lo, .int .i64 r.fin.hi]
def bxL (b : Bx) (A : Option Addr) (n c : Nat) (A2 : Option Addr) (n2 c2 : Nat) : List Value :=
  [.slice A n c, .slice A2 n2 c2, .int .i64 b.count, .int .i64 b.err, .int .i64 b.duty, .int .i64 b.share, .int .i64 b.guar]
abbrev RollsAt (w : World) (A : Option Addr) (n : Nat) (rs : List Roll) : Prop := SlAt rollL 5 w A n rs
abbrev SpsAt (w : World) (A : Option Addr) (n : Nat) (ss : List Sp) : Prop := SlAt spL 2 w A n ss
abbrev IntsAt (w : World) (A : Option Addr) (n : Nat) (ss : List Int) : Prop := SlAt intL1 1 w A n ss
/-! ### What the functions reckon -/
def within (n lo hi : Int) : Bool := decide (lo ≤ n) && decide (n ≤ hi)
def legal (a z lo hi : Int) : Bool := (decide (lo ≤ a) && decide (a ≤ z)) && decide (z ≤ hi)
def spanned (a z lo hi : Int) : Bool := legal a z lo hi && decide (z - a ≤ 15)
def Roll.ok (r : Roll) : Bool := ((within r.price 1 50 && spanned r.first.lo r.first.hi 0 300) && spanned r.fin.lo r.fin.hi 0 300) && decide (r.first.lo ≤ r.fin.hi)
def freeOk (s : Sp) : Bool := spanned s.lo s.hi 0 50
def Bx.ok0 (b : Bx) (n n2 : Int) : Bool :=
  within n 1 4 && (n2 == n) && within b.count 0 60000 && within b.err 0 200 && within b.duty 0 100 && within b.share 0 100 && within b.guar 0 60000
def Bx.ok (b : Bx) : Bool := (b.ok0 (b.rolls.length : Int) (b.free.length : Int) && b.rolls.all Roll.ok) && b.free.all freeOk
theorem within_iff {n lo hi : Int} : within n lo hi = true ↔ lo ≤ n ∧ n ≤ hi := by simp [within]
theorem legal_iff {a z lo hi : Int} : legal a z lo hi = true ↔ lo ≤ a ∧ a ≤ z ∧ z ≤ hi := by simp [legal, and_assoc]
theorem spanned_iff {a z lo hi : Int} : spanned a z lo hi = true ↔ lo ≤ a ∧ a ≤ z ∧ z ≤ hi ∧ z - a ≤ 15 := by simp [spanned, legal, and_assoc]
/-- How many tickets of a roll can be sold. -/
def Roll.sold (r : Roll) (f : Sp) : Sp := ⟨max 0 (max 0 (r.fin.lo - r.first.hi) - f.hi), r.fin.hi - r.first.lo - f.lo⟩
def Bx.sold (b : Bx) : List Sp := List.zipWith Roll.sold b.rolls b.free
def Sp.len (s : Sp) : Nat := (s.hi - s.lo + 1).toNat
def nums (s : Sp) : List Int := (List.range s.len).map (fun (k : Nat) => s.lo + (k : Int))
/-- Prices and spans of what is sold. -/
abbrev Its := List (Int × Sp)
def its (rs : List Roll) (ss : List Sp) : Its := List.zipWith (fun r s => (r.price, s)) rs ss
def ext (L : List Int) (i : Int × Sp) : List Int := L.flatMap (fun x => (nums i.2).map (fun m => x + m * i.1))
/-- All amounts that can come together, each as often as it can. -/
def sums (L : List Int) (l : Its) : List Int := l.foldl ext L
def right (b : Bx) (t : Int) : Bool := within t (b.count - b.err) (b.count + b.err)
def cnt (g : Int → Bool) (l : Its) (x : Int) : Nat := (sums [x] l).countP g
/-- What is asked of a box between the calculations. -/
structure Wf (b : Bx) (ss : List Sp) : Prop where
  len : ss.length = b.rolls.length
  n4 : b.rolls.length ≤ 4
  price : ∀ (i : Nat) (r : Roll), b.rolls[i]? = some r → 1 ≤ r.price ∧ r.price ≤ 50
  sp : ∀ (i : Nat) (s : Sp), ss[i]? = some s → 0 ≤ s.lo ∧ s.lo ≤ 300 ∧ -1000 ≤ s.hi ∧ s.hi ≤ 300 ∧ s.hi - s.lo ≤ 45
  count : 0 ≤ b.count ∧ b.count ≤ 60000
  err : 0 ≤ b.err ∧ b.err ≤ 200
  duty : 0 ≤ b.duty ∧ b.duty ≤ 100
  share : 0 ≤ b.share ∧ b.share ≤ 100
  guar : 0 ≤ b.guar ∧ b.guar ≤ 60000
theorem all_snoc {α : Type} {xs : List α} {i : Nat} {x : α} {f : α → Bool} (hx : xs[i]? = some x) : (xs.take (i + 1)).all f = ((xs.take i).all f && f x) := by
  rw [List.take_add_one, hx]; simp
theorem take_done {α : Type} {l : List α} {f : α → Bool} {i n : Nat} (hn : l.length = n) (h : ((l.take i).all f && decide ((i : Int) < (n : Int))) = false) : (l.take i).all f = l.all f := by
  cases h1 : (l.take i).all f with
  | true =>
    rw [h1, Bool.true_and, decide_eq_false_iff_not] at h
    rw [← h1, List.take_of_length_le (by omega)]
  | false =>
    symm
    rw [List.all_eq_false] at h1 ⊢
    obtain ⟨x, hx, hf⟩ := h1
    exact ⟨x, List.mem_of_mem_take hx, hf⟩
theorem zip_at {α β : Type} {l : List α} {r : List β} {i : Nat} {x : α} {y : β} (hx : l[i]? = some x) (hy : r[i]? = some y) : (l.zip r)[i]? = some (x, y) :=
  List.getElem?_zip_eq_some.2 ⟨hx, hy⟩
theorem sold_at {b : Bx} {i : Nat} {r : Roll} {f : Sp} (hr : b.rolls[i]? = some r) (hf : b.free[i]? = some f) : b.sold[i]? = some (r.sold f) := by
  simp [Bx.sold, List.getElem?_zipWith, hr, hf]
theorem its_at {rs : List Roll} {ss : List Sp} {i : Nat} {r : Roll} {s : Sp} (hr : rs[i]? = some r) (hs : ss[i]? = some s) : (its rs ss)[i]? = some (r.price, s) := by
  simp [its, List.getElem?_zipWith, hr, hs]
theorem its_drop {rs : List Roll} {ss : List Sp} {i : Nat} {r : Roll} {s : Sp} (hr : rs[i]? = some r) (hs : ss[i]? = some s) : (its rs ss).drop i = (r.price, s) :: (its rs ss).drop (i + 1) := by
  have h := its_at hr hs
  obtain ⟨h1, h2⟩ := List.getElem?_eq_some_iff.1 h
  rw [List.drop_eq_getElem_cons h1, h2]
theorem ok_roll {r : Roll} (h : r.ok = true) : (1 ≤ r.price ∧ r.price ≤ 50) ∧ (0 ≤ r.first.lo ∧ r.first.lo ≤ r.first.hi ∧ r.first.hi ≤ 300 ∧ r.first.hi - r.first.lo ≤ 15) ∧ (0 ≤ r.fin.lo ∧ r.fin.lo ≤ r.fin.hi ∧ r.fin.hi ≤ 300 ∧ r.fin.hi - r.fin.lo ≤ 15) ∧ r.first.lo ≤ r.fin.hi := by
  simpa [Roll.ok, within_iff, spanned_iff, and_assoc] using h
theorem ok_free {s : Sp} (h : freeOk s = true) : 0 ≤ s.lo ∧ s.lo ≤ s.hi ∧ s.hi ≤ 50 ∧ s.hi - s.lo ≤ 15 := spanned_iff.1 h
structure Ok (b : Bx) : Prop where
  n : 1 ≤ b.rolls.length ∧ b.rolls.length ≤ 4
  len : b.free.length = b.rolls.length
  count : 0 ≤ b.count ∧ b.count ≤ 60000
  err : 0 ≤ b.err ∧ b.err ≤ 200
  duty : 0 ≤ b.duty ∧ b.duty ≤ 100
  share : 0 ≤ b.share ∧ b.share ≤ 100
  guar : 0 ≤ b.guar ∧ b.guar ≤ 60000
  roll : ∀ (i : Nat) (r : Roll), b.rolls[i]? = some r → r.ok = true
  free : ∀ (i : Nat) (s : Sp), b.free[i]? = some s → freeOk s = true
theorem ok_iff {b : Bx} : b.ok = true ↔ Ok b := by
  constructor
  · intro h
    simp only [Bx.ok, Bx.ok0, Bool.and_eq_true, within_iff, beq_iff_eq] at h
    obtain ⟨⟨h, hr⟩, hf⟩ := h
    exact ⟨by omega, by omega, by omega, by omega, by omega, by omega, by omega, fun i r hi => List.all_eq_true.1 hr r (List.mem_of_getElem? hi), fun i s hi => List.all_eq_true.1 hf s (List.mem_of_getElem? hi)⟩
  · intro h
    simp only [Bx.ok, Bx.ok0, Bool.and_eq_true, within_iff, beq_iff_eq]
    have h1 := h.n; have h2 := h.len
    refine ⟨⟨⟨⟨⟨⟨⟨⟨by omega, by omega⟩, h.count⟩, h.err⟩, h.duty⟩, h.share⟩, h.guar⟩, ?_⟩, ?_⟩
    · rw [List.all_eq_true]; intro r hr
      obtain ⟨i, hi⟩ := List.mem_iff_getElem?.1 hr
      exact h.roll i r hi
    · rw [List.all_eq_true]; intro r hr
      obtain ⟨i, hi⟩ := List.mem_iff_getElem?.1 hr
      exact h.free i r hi
theorem sold_bd {r : Roll} {f : Sp} (hr : r.ok = true) (hf : freeOk f = true) : 0 ≤ (r.sold f).lo ∧ (r.sold f).lo ≤ 300 ∧ -1000 ≤ (r.sold f).hi ∧ (r.sold f).hi ≤ 300 ∧ (r.sold f).hi - (r.sold f).lo ≤ 45 := by
  have h1 := ok_roll hr; have h2 := ok_free hf
  simp only [Roll.sold]; omega
theorem Ok.wf {b : Bx} (h : Ok b) : Wf b b.sold := by
  refine ⟨?_, h.n.2, fun i r hr => (ok_roll (h.roll i r hr)).1, ?_, h.count, h.err, h.duty, h.share, h.guar⟩
  · have := h.len; simp [Bx.sold]; omega
  · intro i s hs
    simp only [Bx.sold, List.getElem?_zipWith] at hs
    cases hr : b.rolls[i]? with
    | none => simp [hr] at hs
    | some r =>
      cases hf : b.free[i]? with
      | none => simp [hr, hf] at hs
      | some f =>
        simp only [hr, hf, Option.some.injEq] at hs
        subst hs
        exact sold_bd (h.roll i r hr) (h.free i f hf)
theorem Wf.set {b : Bx} {ss : List Sp} (h : Wf b ss) {k : Nat} {s : Sp} (hs : ss[k]? = some s) {n : Int} (hn : s.lo ≤ n ∧ n ≤ s.hi) : Wf b (ss.set k ⟨n, n⟩) := by
  refine ⟨by rw [List.length_set]; exact h.len, h.n4, h.price, ?_, h.count, h.err, h.duty, h.share, h.guar⟩
  intro i t ht
  by_cases e : i = k
  · subst e
    rw [List.getElem?_set_self (List.getElem?_eq_some_iff.1 hs).1, Option.some.injEq] at ht
    subst ht
    have := h.sp i s hs
    simp only; omega
  · rw [List.getElem?_set_ne (fun h => e h.symm)] at ht
    exact h.sp i t ht
/-! ### Amounts -/
theorem sums_append (l : Its) : ∀ (L1 L2 : List Int), sums (L1 ++ L2) l = sums L1 l ++ sums L2 l := by
  induction l with
  | nil => intro L1 L2; rfl
  | cons i l ih => intro L1 L2; simp only [sums, List.foldl_cons] at ih ⊢; rw [ext, List.flatMap_append]; exact ih _ _
theorem sums_nil (l : Its) : sums [] l = [] := by
  induction l with
  | nil => rfl
  | cons i l ih => simp only [sums, List.foldl_cons] at ih ⊢; exact ih
theorem sums_flat (l : Its) : ∀ L : List Int, sums L l = L.flatMap (fun x => sums [x] l) := by
  intro L
  induction L with
  | nil => simp [sums_nil]
  | cons x L ih => rw [show x :: L = [x] ++ L from rfl, sums_append, ih]; simp
theorem sums_cons (i : Int × Sp) (l : Its) (L : List Int) : sums L (i :: l) = sums (ext L i) l := rfl
theorem sums_snoc (l : Its) (i : Int × Sp) (L : List Int) : sums L (l ++ [i]) = ext (sums L l) i := by simp [sums]
theorem sums_two (l l' : Its) (L : List Int) : sums L (l ++ l') = sums (sums L l) l' := by simp [sums]
theorem ext_one (x : Int) (i : Int × Sp) : ext [x] i = (nums i.2).map (fun m => x + m * i.1) := by simp [ext]
theorem sums_shift (l : Its) (c : Int) : ∀ L : List Int, sums (L.map (· + c)) l = (sums L l).map (· + c) := by
  induction l with
  | nil => intro L; rfl
  | cons i l ih =>
    intro L
    rw [sums_cons, sums_cons, ← ih]
    congr 1
    simp only [ext, List.flatMap_map, List.map_flatMap, List.map_map]
    congr 1; funext x; congr 1; funext m
    simp only [Function.comp]; omega
theorem cnt_nil (g : Int → Bool) (x : Int) : cnt g [] x = if g x then 1 else 0 := by simp [cnt, sums, List.countP_cons]
theorem countP_flatMap {α β : Type} (g : β → Bool) (f : α → List β) : ∀ L : List α, (L.flatMap f).countP g = (L.map (fun x => (f x).countP g)).sum := by
  intro L
  induction L with
  | nil => rfl
  | cons x L ih => simp [ih]
theorem countP_sums (g : Int → Bool) (l : Its) (L : List Int) : (sums L l).countP g = (L.map (cnt g l)).sum := by rw [sums_flat, countP_flatMap]; rfl
theorem cnt_cons (g : Int → Bool) (i : Int × Sp) (l : Its) (x : Int) : cnt g (i :: l) x = ((nums i.2).map (fun m => cnt g l (x + m * i.1))).sum := by
  rw [cnt, sums_cons, countP_sums, ext_one, List.map_map]; rfl
theorem nums_len (s : Sp) : (nums s).length = s.len := by simp [nums]
theorem nums_at {s : Sp} {k : Nat} {m : Int} (h : (nums s)[k]? = some m) : m = s.lo + k ∧ k < s.len ∧ s.lo ≤ m ∧ m ≤ s.hi := by
  have h1 := (List.getElem?_eq_some_iff.1 h).1
  rw [nums_len] at h1
  simp only [nums, List.getElem?_map, List.getElem?_range h1, Option.map_some, Option.some.injEq] at h
  have : (k : Int) < s.hi - s.lo + 1 := by unfold Sp.len at h1; omega
  omega
theorem nums_get {s : Sp} {k : Nat} (h : k < s.len) : (nums s)[k]? = some (s.lo + (k : Int)) := by
  simp [nums, List.getElem?_range h]
theorem mem_nums {s : Sp} {m : Int} : m ∈ nums s ↔ s.lo ≤ m ∧ m ≤ s.hi := by
  constructor
  · intro h
    obtain ⟨k, hk⟩ := List.mem_iff_getElem?.1 h
    exact (nums_at hk).2.2
  · intro h
    simp only [nums, List.mem_map, List.mem_range, Sp.len]
    exact ⟨(m - s.lo).toNat, by omega, by omega⟩
theorem nums_one (n : Int) : nums ⟨n, n⟩ = [n] := by
  have : (⟨n, n⟩ : Sp).len = 1 := by simp [Sp.len]
  simp [nums, this]
theorem mem_ext {L : List Int} {i : Int × Sp} {y : Int} : y ∈ ext L i ↔ ∃ x ∈ L, ∃ m, (i.2.lo ≤ m ∧ m ≤ i.2.hi) ∧ y = x + m * i.1 := by
  simp only [ext, List.mem_flatMap, List.mem_map, mem_nums]
  constructor
  · rintro ⟨x, hx, m, hm, rfl⟩; exact ⟨x, hx, m, hm, rfl⟩
  · rintro ⟨x, hx, m, hm, rfl⟩; exact ⟨x, hx, m, hm, rfl⟩
/-- Prices and spans that are small enough. -/
def Small (l : Its) : Prop := ∀ i ∈ l, (1 ≤ i.1 ∧ i.1 ≤ 50) ∧ 0 ≤ i.2.lo ∧ i.2.hi ≤ 300 ∧ i.2.hi - i.2.lo ≤ 45
theorem Wf.small {b : Bx} {ss : List Sp} (h : Wf b ss) : Small (its b.rolls ss) := by
  intro i hi
  obtain ⟨k, hk⟩ := List.mem_iff_getElem?.1 hi
  simp only [its, List.getElem?_zipWith] at hk
  cases hr : b.rolls[k]? with
  | none => simp [hr] at hk
  | some r => cases hs : ss[k]? with
    | none => simp [hr, hs] at hk
    | some s =>
      simp only [hr, hs, Option.some.injEq] at hk
      subst hk
      have := h.sp k s hs
      exact ⟨h.price k r hr, this.1, this.2.2.2.1, this.2.2.2.2⟩
theorem Wf.its_len {b : Bx} {ss : List Sp} (h : Wf b ss) : (its b.rolls ss).length = b.rolls.length := by
  have := h.len; simp [its]; omega
theorem mul_bd {m p : Int} (hm : 0 ≤ m ∧ m ≤ 300) (hp : 1 ≤ p ∧ p ≤ 50) : 0 ≤ m * p ∧ m * p ≤ 15000 :=
  ⟨Int.mul_nonneg (by omega) (by omega), Int.le_trans (Int.mul_le_mul hm.2 hp.2 (by omega) (by omega)) (by omega)⟩
theorem sums_bd {l : Its} (h : Small l) : ∀ (L : List Int) (x y : Int), (∀ z ∈ L, x ≤ z ∧ z ≤ y) → ∀ z ∈ sums L l, x ≤ z ∧ z ≤ y + 15000 * (l.length : Int) := by
  induction l with
  | nil => intro L x y hL z hz; have := hL z hz; simp; exact this
  | cons i l ih =>
    intro L x y hL z hz
    rw [sums_cons] at hz
    have h1 := h i (by simp)
    have := ih (fun j hj => h j (by simp [hj])) (ext L i) x (y + 15000) (fun u hu => by
      obtain ⟨v, hv, m, hm, rfl⟩ := mem_ext.1 hu
      have h2 := hL v hv
      have h3 := mul_bd (m := m) (p := i.1) (by omega) h1.1
      omega) z hz
    simp only [List.length_cons]; omega
theorem Small.drop {l : Its} (h : Small l) (k : Nat) : Small (l.drop k) := fun i hi => h i (List.mem_of_mem_drop hi)
theorem Small.take {l : Its} (h : Small l) (k : Nat) : Small (l.take k) := fun i hi => h i (List.mem_of_mem_take hi)
theorem cnt_over {b : Bx} {l : Its} (h : Small l) {x : Int} (hx : b.count + b.err < x) : cnt (right b) l x = 0 := by
  rw [cnt, List.countP_eq_zero]
  intro z hz
  have := sums_bd h [x] x x (fun z hz => by simp at hz; omega) z hz
  rw [right, within_iff]; omega
theorem sum_le {α : Type} {f : α → Nat} {c : Nat} : ∀ {L : List α}, (∀ x ∈ L, f x ≤ c) → (L.map f).sum ≤ L.length * c := by
  intro L
  induction L with
  | nil => intro _; simp
  | cons x L ih =>
    intro h
    have h1 := h x (by simp)
    have h2 := ih (fun y hy => h y (by simp [hy]))
    simp only [List.map_cons, List.sum_cons, List.length_cons, Nat.add_mul]; omega
theorem cnt_le {g : Int → Bool} {l : Its} (h : Small l) : ∀ x : Int, cnt g l x ≤ 46 ^ l.length := by
  induction l with
  | nil => intro x; rw [cnt_nil]; split <;> simp
  | cons i l ih =>
    intro x
    rw [cnt_cons]
    have h1 := h i (by simp)
    have h2 := sum_le (L := nums i.2) (f := fun m => cnt g l (x + m * i.1)) (c := 46 ^ l.length) (fun m _ => ih (fun j hj => h j (by simp [hj])) _)
    have h3 : (nums i.2).length ≤ 46 := by rw [nums_len]; unfold Sp.len; omega
    refine Nat.le_trans h2 ?_
    rw [List.length_cons, Nat.pow_succ, Nat.mul_comm]
    exact Nat.mul_le_mul_left _ h3
theorem pow46 {n : Nat} (h : n ≤ 4) : 46 ^ n ≤ 4477456 := Nat.le_trans (Nat.pow_le_pow_right (by decide) h) (by decide)
theorem sum_take_succ {α : Type} {L : List α} {f : α → Nat} {j : Nat} {x : α} (h : L[j]? = some x) : ((L.take (j + 1)).map f).sum = ((L.take j).map f).sum + f x := by
  rw [List.take_add_one, h]; simp
theorem sum_take_le {α : Type} (L : List α) (f : α → Nat) (j : Nat) : ((L.take j).map f).sum ≤ (L.map f).sum := by
  have h := List.take_append_drop j L
  have : (L.map f).sum = ((L.take j).map f).sum + ((L.drop j).map f).sum := by rw [← List.sum_append, ← List.map_append, h]
  omega
theorem part_bd {b : Bx} {ss : List Sp} (hwf : Wf b ss) {k : Nat} {r : Roll} {s : Sp} (hr : b.rolls[k]? = some r) (hs : ss[k]? = some s) {a : Int} {i : Nat} {x : Int} (hx : (nums s)[i]? = some x) :
    (((nums s).take i).map (fun x_ => cnt (right b) ((its b.rolls ss).drop (k + 1)) (a + x_ * r.price))).sum + cnt (right b) ((its b.rolls ss).drop (k + 1)) (a + x * r.price) ≤ 4477456 := by
  have h1 := sum_take_succ (f := fun x_ => cnt (right b) ((its b.rolls ss).drop (k + 1)) (a + x_ * r.price)) hx
  have h2 := sum_take_le (nums s) (fun x_ => cnt (right b) ((its b.rolls ss).drop (k + 1)) (a + x_ * r.price)) (i + 1)
  have h3 := cnt_le (g := right b) (hwf.small.drop k) a
  rw [its_drop hr hs, cnt_cons, ← its_drop hr hs] at h3
  have h4 := pow46 (n := ((its b.rolls ss).drop k).length) (by rw [List.length_drop, hwf.its_len]; have := hwf.n4; omega)
  simp only at h1 h2 h3 h4
  omega
/-- Once an amount is too great, so are the later ones. -/
theorem sum_break {b : Bx} {i : Int × Sp} {l : Its} (h : Small (i :: l)) {x : Int} {j : Nat} {m : Int} (hm : (nums i.2)[j]? = some m) (hx : b.count + b.err < x + m * i.1) :
    (((nums i.2).take j).map (fun m => cnt (right b) l (x + m * i.1))).sum = cnt (right b) (i :: l) x := by
  rw [cnt_cons]
  conv => rhs; rw [← List.take_append_drop j (nums i.2)]
  rw [List.map_append, List.sum_append]
  have h1 := h i (by simp)
  have : (((nums i.2).drop j).map (fun m => cnt (right b) l (x + m * i.1))).sum = 0 := by
    have h0 : ∀ m' ∈ (nums i.2).drop j, cnt (right b) l (x + m' * i.1) = 0 := by
      intro m' hm'
      obtain ⟨k, hk⟩ := List.mem_iff_getElem?.1 hm'
      rw [List.getElem?_drop] at hk
      have e1 := (nums_at hk).1; have e2 := (nums_at hm).1
      refine cnt_over (fun j hj => h j (by simp [hj])) ?_
      have : m * i.1 ≤ m' * i.1 := Int.mul_le_mul_of_nonneg_right (by omega) (by omega)
      omega
    have := sum_le (L := (nums i.2).drop j) (f := fun m => cnt (right b) l (x + m * i.1)) (c := 0) (fun m' hm' => by rw [h0 m' hm']; exact Nat.le_refl _)
    omega
  omega
end Go.Till
