/-
  THE REFERENCE's SEARCH for the fewest walks, in plain Lean; it finds the best plan.
-/
import Derived.Test.YtdbcedmofoakmaaDoorEn
set_option maxRecDepth 100000
namespace Go.Eng
open Go Go.Sx
/-- One pair is tried: 'rest' goes on behind it. -/
def Book.fewY (b : Book) (p : Part) (rest : Int → Int → List Walks → List Walks × Int → List Walks × Int) (c v : Int) (pre : List Walks) (acc : List Walks × Int) (y : Walks) : List Walks × Int :=
  if b.may p (b.afterC false p y.c c) (b.afterW false p y.w v) = true then acc else rest (b.afterC false p y.c c) (b.afterW false p y.w v) (pre ++ [y]) acc
/-- The pairs with so much coal, the first n of them. -/
def Book.fewW (b : Book) (p : Part) (rest : Int → Int → List Walks → List Walks × Int → List Walks × Int) (c v : Int) (pre : List Walks) (x : Nat) (acc : List Walks × Int) : Nat → List Walks × Int
  | 0 => acc
  | n + 1 => b.fewY p rest c v pre (b.fewW p rest c v pre x acc n) ⟨(x : Int), (n : Int)⟩
def Book.fewC (b : Book) (p : Part) (rest : Int → Int → List Walks → List Walks × Int → List Walks × Int) (c v : Int) (pre : List Walks) (acc : List Walks × Int) : Nat → List Walks × Int
  | 0 => acc
  | x + 1 => b.fewW p rest c v pre x (b.fewC p rest c v pre acc x) (p.walks.toNat + 1 - x)
def Book.few (b : Book) : List Part → Int → Int → List Walks → List Walks × Int → List Walks × Int
  | [], _, _, pre, acc => if acc.2 ≤ sumW pre then acc else (pre, sumW pre)
  | p :: ps, c, v, pre, acc => if acc.2 ≤ sumW pre then acc else b.fewC p (b.few ps) c v pre acc (p.walks.toNat + 1)
/-- What the search answers, where the best plan from here is res. -/
def ans (res : Option (List Walks × Int)) (pre : List Walks) (acc : List Walks × Int) : List Walks × Int := match res with
  | none => acc
  | some (pl, k) => if sumW pre + k < acc.2 then (pre ++ pl, sumW pre + k) else acc
theorem fewY_ans {b : Book} {p : Part} {rest : Int → Int → List Walks → List Walks × Int → List Walks × Int} {best : Int → Int → Option (List Walks × Int)} (hr : ∀ c v pre acc, rest c v pre acc = ans (best c v) pre acc) {c v : Int} {pre : List Walks} {so : Option (List Walks × Int)} {acc : List Walks × Int} {y : Walks} (hy : y.c + y.w ≤ p.walks) :
    b.fewY p rest c v pre (ans so pre acc) y = ans (b.try1 p best c v so y) pre acc := by
  unfold Book.fewY Book.try1
  rw [if_neg (show ¬ p.walks < y.c + y.w by omega)]
  split
  · rfl
  · rw [hr]
    cases best (b.afterC false p y.c c) (b.afterW false p y.w v) with
    | none => rfl
    | some q =>
      obtain ⟨pl, k⟩ := q
      have hs : sumW (pre ++ [y]) = sumW pre + (y.c + y.w) := by rw [sumW_append]; simp [sumW]
      cases so with
      | none =>
        simp only [ans, hs, List.append_assoc, List.singleton_append]
        rw [show sumW pre + (y.c + y.w) + k = sumW pre + (y.c + y.w + k) from by omega]
      | some q' =>
        obtain ⟨pl', k'⟩ := q'
        simp only [ans, hs, List.append_assoc, List.singleton_append]
        rw [show sumW pre + (y.c + y.w) + k = sumW pre + (y.c + y.w + k) from by omega]
        by_cases h1 : sumW pre + k' < acc.2 <;> by_cases h2 : y.c + y.w + k < k' <;> simp only [h1, h2, if_true, if_false] <;> (repeat' split) <;> first | rfl | omega
theorem pairOf_block {W : Int} {n : Nat} (hn : (n : Int) = W) {x j : Nat} (hj : j < n + 1) : pairOf W (x * (n + 1) + j) = ⟨(x : Int), (j : Int)⟩ := by
  have e : (((x * (n + 1) + j : Nat)) : Int) = (x : Int) * (W + 1) + (j : Int) := by rw [← hn]; simp [Int.natCast_add, Int.natCast_mul]
  have h0 : 0 ≤ (x : Int) * (W + 1) + (j : Int) := Int.add_nonneg (Int.mul_nonneg (by omega) (by omega)) (by omega)
  simp only [pairOf, e, Walks.mk.injEq]
  constructor
  · rw [Int.add_comm, Int.add_mul_ediv_right _ _ (by omega), Int.ediv_eq_zero_of_lt (by omega) (by omega)]; omega
  · rw [Int.tmod_eq_emod_of_nonneg h0, Int.add_comm, Int.add_mul_emod_self_right, Int.emod_eq_of_lt (by omega) (by omega)]
theorem fewW_ans {b : Book} {p : Part} {rest : Int → Int → List Walks → List Walks × Int → List Walks × Int} {best : Int → Int → Option (List Walks × Int)} (hr : ∀ c v pre acc, rest c v pre acc = ans (best c v) pre acc) {c v : Int} {pre : List Walks} {acc : List Walks × Int} {n : Nat} (hn : (n : Int) = p.walks) {x : Nat} (hx : x ≤ n) : ∀ j : Nat, j ≤ n + 1 →
    b.fewW p rest c v pre x (ans (b.bestN p best c v (x * (n + 1))) pre acc) (min j (n + 1 - x)) = ans (b.bestN p best c v (x * (n + 1) + j)) pre acc := by
  intro j
  induction j with
  | zero => intro _; rw [Nat.zero_min]; rfl
  | succ j ih =>
    intro hj
    have ih := ih (by omega)
    have hp := pairOf_block hn (x := x) (j := j) (by omega)
    rw [show x * (n + 1) + (j + 1) = (x * (n + 1) + j) + 1 from rfl, Book.bestN, hp]
    by_cases hk : j < n + 1 - x
    · rw [show min (j + 1) (n + 1 - x) = j + 1 from by omega]
      rw [show min j (n + 1 - x) = j from by omega] at ih
      rw [Book.fewW, ih]
      exact fewY_ans hr (by simp only; omega)
    · rw [show min (j + 1) (n + 1 - x) = min j (n + 1 - x) from by omega, ih, try1_wide (by simp only; omega)]
theorem fewC_ans {b : Book} {p : Part} {rest : Int → Int → List Walks → List Walks × Int → List Walks × Int} {best : Int → Int → Option (List Walks × Int)} (hr : ∀ c v pre acc, rest c v pre acc = ans (best c v) pre acc) {c v : Int} {pre : List Walks} {acc : List Walks × Int} {n : Nat} (hn : (n : Int) = p.walks) : ∀ x : Nat, x ≤ n + 1 →
    b.fewC p rest c v pre acc x = ans (b.bestN p best c v (x * (n + 1))) pre acc := by
  intro x
  induction x with
  | zero => intro _; rw [Nat.zero_mul]; rfl
  | succ x ih =>
    intro hx
    rw [Book.fewC, ih (by omega), show p.walks.toNat = n from by omega]
    have := fewW_ans (b := b) hr (c := c) (v := v) (pre := pre) (acc := acc) hn (x := x) (by omega) (n + 1) (Nat.le_refl _)
    rw [show min (n + 1) (n + 1 - x) = n + 1 - x from by omega] at this
    rw [this, Nat.add_mul, Nat.one_mul]
theorem bestN_pos {b : Book} {p : Part} {rest : Int → Int → Option (List Walks × Int)} (hp : 0 ≤ p.walks) (hr : ∀ c v pl k, rest c v = some (pl, k) → 0 ≤ k) {c v : Int} : ∀ (n : Nat) (pl : List Walks) (k : Int), b.bestN p rest c v n = some (pl, k) → 0 ≤ k := by
  intro n
  induction n with
  | zero => intro pl k h; cases h
  | succ n ih =>
    intro pl k h
    have hpos := pair_pos hp n
    rw [Book.bestN] at h
    generalize pairOf p.walks n = y at h hpos
    unfold Book.try1 at h
    split at h
    · exact ih pl k h
    · split at h
      · exact ih pl k h
      · cases hx : rest (b.afterC false p y.c c) (b.afterW false p y.w v) with
        | none => rw [hx] at h; exact ih pl k h
        | some q =>
          obtain ⟨pl1, k1⟩ := q
          rw [hx] at h
          have h1 := hr _ _ _ _ hx
          cases ha : b.bestN p rest c v n with
          | none => rw [ha] at h; simp only [Option.some.injEq, Prod.mk.injEq] at h; omega
          | some q' =>
            obtain ⟨pl2, k2⟩ := q'
            rw [ha] at h
            have h2 := ih _ _ ha
            simp only at h
            split at h <;> simp only [Option.some.injEq, Prod.mk.injEq] at h <;> omega
theorem best_pos {b : Book} : ∀ (ps : List Part), (∀ p ∈ ps, 0 ≤ p.walks) → ∀ (c v : Int) (pl : List Walks) (k : Int), b.best ps c v = some (pl, k) → 0 ≤ k := by
  intro ps
  induction ps with
  | nil => intro _ c v pl k h; simp only [Book.best, Option.some.injEq, Prod.mk.injEq] at h; omega
  | cons p ps ih => intro hw c v pl k h; exact bestN_pos (hw p (by simp)) (ih (fun q hq => hw q (by simp [hq]))) _ pl k h
/-- THE SEARCH FINDS THE BEST PLAN. -/
theorem few_best {b : Book} : ∀ (ps : List Part), (∀ p ∈ ps, 0 ≤ p.walks) → ∀ (c v : Int) (pre : List Walks) (acc : List Walks × Int), b.few ps c v pre acc = ans (b.best ps c v) pre acc := by
  intro ps
  induction ps with
  | nil =>
    intro _ c v pre acc
    simp only [Book.few, Book.best, ans, Int.add_zero, List.append_nil]
    split <;> split <;> first | rfl | omega
  | cons p ps ih =>
    intro hw c v pre acc
    have ih := ih (fun q hq => hw q (by simp [hq]))
    have hp := hw p (by simp)
    rw [Book.few]
    split
    · rename_i h
      cases hb : b.best (p :: ps) c v with
      | none => rfl
      | some q =>
        obtain ⟨pl, k⟩ := q
        have := best_pos (p :: ps) hw c v pl k hb
        simp only [ans]
        rw [if_neg (by omega)]
    · have hn : ((p.walks.toNat : Nat) : Int) = p.walks := Int.toNat_of_nonneg hp
      rw [fewC_ans ih hn _ (Nat.le_refl _), Book.best]
      congr 2
      have h2 := rounds_eq (x := p) hp
      rw [← hn] at h2
      have h3 : (((p.walks.toNat + 1) * (p.walks.toNat + 1) : Nat) : Int) = ((p.walks.toNat : Int) + 1) * ((p.walks.toNat : Int) + 1) := by simp [Int.natCast_mul]
      exact Int.ofNat_inj.1 (h3.trans h2.symm)
/-- A plan stands in the blocks of G (or is empty). -/
def PlIn (G : List (Nat × Option Obj)) (A : Option Addr) (n c : Nat) (pl : List Walks) : Prop := n = pl.length ∧ ∃ bb o, Sx.Own walksL 2 64 A c pl bb o ∧ (pl ≠ [] → (bb, o) ∈ G ∧ ∃ x, o = some x)
theorem PlIn.mono {G G' : List (Nat × Option Obj)} {A : Option Addr} {n c : Nat} {pl : List Walks} (h : PlIn G A n c pl) (hg : ∀ p ∈ G, p ∈ G') : PlIn G' A n c pl := by
  obtain ⟨h1, bb, o, h2, h3⟩ := h
  exact ⟨h1, bb, o, h2, fun hp => ⟨hg _ (h3 hp).1, (h3 hp).2⟩⟩
/-- The search's ghost. -/
structure FG where
  k : Nat
  A : Option Addr
  n : Nat
  c : Nat
  pl : List Walks
  t : Int
  G : List (Nat × Option Obj)
/-- What a call of the search hands back. -/
def fewPost (W : World) (G : List (Nat × Option Obj)) (res : List Walks × Int) (v : Value) (B' : List (Nat × Option Obj)) : Prop :=
  (∀ p ∈ G, p ∈ B') ∧ allSome B' ∧ (∀ p ∈ B', W.heap.size ≤ p.1) ∧ ∃ A n c, v = .tuple ⟨[.slice A n c, .int .i64 res.2]⟩ ∧ PlIn B' A n c res.1
theorem PlIn.mem {G : List (Nat × Option Obj)} {A : Option Addr} {n c : Nat} {pl : List Walks} (h : PlIn G A n c pl)
    {N : Nat} {D : List Deferred} {T : List (Nat × Value)} {B : List (Nat × Option Obj)} {M : List Nat} {w0 : World} {a : Act} {w : World} (hs : Sx N D T B M w0 a w) (hG : ∀ p ∈ G, p ∈ B) : PlanAt w A n pl := by
  obtain ⟨h1, bb, o, h2, h3⟩ := h
  subst h1
  exact h2.atMem hs (fun hp => hG _ (h3 hp).1)
theorem reads_flat' {α : Type} {enc : α → List Value} {sz : Nat} (henc : ∀ y, (enc y).length = sz) {ys : List α} : Reads enc sz (ys.flatMap enc) ys := by
  have := reads_flat henc [] (ys := ys)
  rwa [List.append_nil] at this
/-- What stands in a chain of two appends. -/
structure ApX (pre : List Walks) (y : Walks) where
  A1 : Option Addr
  c1 : Nat
  b1 : Nat
  o1 : Option Obj
  h1 : Sx.Own walksL 2 64 A1 c1 pre b1 o1
  A2 : Option Addr
  c2 : Nat
  b2 : Nat
  o2 : Option Obj
  h2 : Sx.Own walksL 2 64 A2 c2 (pre ++ [y]) b2 o2
theorem own0 (l : List Walks) : Sx.Own walksL 2 64 (some ⟨0, 0, none⟩) l.length l 0 (some (.cells ⟨l.flatMap walksL⟩ 64 (0, 0))) :=
  .inr ⟨rfl, Nat.le_refl _, _, rfl, reads_flat' (enc := walksL) (sz := 2) (fun _ => rfl), by rw [flat_len (enc := walksL) (sz := 2) (fun _ => rfl)]; exact Nat.le_refl _⟩
def ApX.zero (pre : List Walks) (y : Walks) : ApX pre y := ⟨_, _, _, _, own0 pre, _, _, _, _, own0 (pre ++ [y])⟩
theorem few_le {b : Book} {ps : List Part} {c v : Int} {pre : List Walks} {bp : List Walks} {bk : Int} (h : bk ≤ sumW pre) : b.few ps c v pre (bp, bk) = (bp, bk) := by
  cases ps <;> simp [Book.few, h]
theorem few_nil {b : Book} {i : Nat} {c v : Int} {pre : List Walks} {bp : List Walks} {bk : Int} (hi : b.parts.length ≤ i) (h : ¬ bk ≤ sumW pre) : b.few (b.parts.drop i) c v pre (bp, bk) = (pre, sumW pre) := by
  rw [List.drop_eq_nil_of_le hi]; simp [Book.few, h]
theorem few_drop {b : Book} {i : Nat} {x : Part} (hx : b.parts[i]? = some x) {c v : Int} {pre : List Walks} {bp : List Walks} {bk : Int} (h : ¬ bk ≤ sumW pre) :
    b.few (b.parts.drop i) c v pre (bp, bk) = b.fewC x (b.few (b.parts.drop (i + 1))) c v pre (bp, bk) (x.walks.toNat + 1) := by
  obtain ⟨hl, he⟩ := List.getElem?_eq_some_iff.1 hx
  rw [List.drop_eq_getElem_cons hl, he]; simp [Book.few, h]
theorem SmallP.snoc {pre : List Walks} {y : Walks} (h : SmallP pre) (hl : pre.length < 100) (hy : 0 ≤ y.c ∧ y.c ≤ 1000 ∧ 0 ≤ y.w ∧ y.w ≤ 1000) : SmallP (pre ++ [y]) := by
  refine ⟨by simp; omega, fun i z hz => ?_⟩
  rcases Nat.lt_or_ge i pre.length with h' | h'
  · rw [List.getElem?_append_left h'] at hz; exact h.2 i z hz
  · rw [List.getElem?_append_right h'] at hz
    have hi1 : i - pre.length < 1 := by have := (List.getElem?_eq_some_iff.1 hz).1; simpa using this
    rw [show i - pre.length = 0 by omega] at hz
    simp only [List.getElem?_cons_zero, Option.some.injEq] at hz
    subst hz; exact hy
theorem bestN_le {b : Book} {p : Part} {rest : Int → Int → Option (List Walks × Int)} {m : Int} (hr : ∀ c v pl k, rest c v = some (pl, k) → k ≤ m) {c v : Int} : ∀ (n : Nat) (pl : List Walks) (k : Int), b.bestN p rest c v n = some (pl, k) → k ≤ p.walks + m := by
  intro n
  induction n with
  | zero => intro pl k h; cases h
  | succ n ih =>
    intro pl k h
    rw [Book.bestN] at h
    generalize pairOf p.walks n = y at h
    unfold Book.try1 at h
    split at h
    · exact ih pl k h
    · split at h
      · exact ih pl k h
      · cases hx : rest (b.afterC false p y.c c) (b.afterW false p y.w v) with
        | none => rw [hx] at h; exact ih pl k h
        | some q =>
          obtain ⟨pl1, k1⟩ := q
          rw [hx] at h
          have h1 := hr _ _ _ _ hx
          cases ha : b.bestN p rest c v n with
          | none => rw [ha] at h; simp only [Option.some.injEq, Prod.mk.injEq] at h; omega
          | some q' =>
            obtain ⟨pl2, k2⟩ := q'
            rw [ha] at h
            have h2 := ih _ _ ha
            simp only at h
            split at h <;> simp only [Option.some.injEq, Prod.mk.injEq] at h <;> omega
theorem best_le {b : Book} {m : Int} : ∀ (ps : List Part), (∀ p ∈ ps, p.walks ≤ m) → ∀ (c v : Int) (pl : List Walks) (k : Int), b.best ps c v = some (pl, k) → k ≤ m * (ps.length : Int) := by
  intro ps
  induction ps with
  | nil => intro _ c v pl k h; simp only [Book.best, Option.some.injEq, Prod.mk.injEq] at h; simp; omega
  | cons p ps ih =>
    intro hw c v pl k h
    have h1 := bestN_le (ih (fun q hq => hw q (by simp [hq]))) _ pl k h
    have h2 := hw p (by simp)
    rw [List.length_cons, Int.natCast_add, Int.mul_add]
    omega
/-- What the search finds from the evening's begin. -/
theorem few_plan {b : Book} (hok : b.ok = true) : b.few b.parts b.coal.lo b.water.lo [] ([], 99) = match b.best b.parts b.coal.lo b.water.lo with | none => ([], 99) | some q => q := by
  have hb := ok_bd hok
  rw [few_best _ (fun p hp => by
    obtain ⟨i, hi⟩ := List.mem_iff_getElem?.1 hp
    exact (hb.parts i p hi).2.1)]
  cases h : b.best b.parts b.coal.lo b.water.lo with
  | none => rfl
  | some q =>
    obtain ⟨pl, k⟩ := q
    have h5 : ∀ p ∈ b.parts, p.walks ≤ 5 := fun p hp => by
      simp only [Book.ok, Bool.and_eq_true] at hok
      have := List.all_eq_true.1 hok.2 p hp
      simp only [Part.ok, Bool.and_eq_true, within_iff] at this
      omega
    have h6 := best_le _ h5 _ _ _ _ h
    have h7 : b.parts.length ≤ 5 := by
      simp only [Book.ok, Book.ok0, Bool.and_eq_true, within_iff] at hok
      omega
    simp only [ans, sumW, Int.zero_add, List.nil_append]
    rw [if_pos (by omega)]
theorem few_lt {b : Book} (hok : b.ok = true) {pl : List Walks} {k : Int} (h : b.best b.parts b.coal.lo b.water.lo = some (pl, k)) : k < 99 := by
  have h5 : ∀ p ∈ b.parts, p.walks ≤ 5 := fun p hp => by
    simp only [Book.ok, Bool.and_eq_true] at hok
    have := List.all_eq_true.1 hok.2 p hp
    simp only [Part.ok, Bool.and_eq_true, within_iff] at this
    omega
  have h6 := best_le _ h5 _ _ _ _ h
  have h7 : b.parts.length ≤ 5 := by
    simp only [Book.ok, Book.ok0, Bool.and_eq_true, within_iff] at hok
    omega
  omega
theorem plin_nil (G : List (Nat × Option Obj)) : PlIn G none 0 0 [] := ⟨rfl, 0, none, .inl ⟨rfl, rfl⟩, fun h => absurd rfl h⟩
theorem nil_at (w : World) : PlanAt w none 0 [] := ⟨rfl, fun i x h => by simp at h⟩
theorem planR_len {b : Book} {pl : List Walks} {e : Int} (h : b.planR = (some pl, e)) : pl.length ≤ 140737488351232 := by
  unfold Book.planR at h
  split at h
  · rename_i hok
    have hb := ok_bd hok
    split at h
    · cases h
    · rename_i hbest
      simp only [Prod.mk.injEq, Option.some.injEq] at h
      have := best_len _ _ _ _ _ hbest
      have := hb.len
      rw [← h.1]; omega
  · cases h
theorem plansV_none {P : Program} {f : FuncId} {args : List Value} {w : World} {R : Option (List Walks) × Int} {e : Int} (hR : R = (none, e)) (h : CallsB P f args w (plansV R)) : CallsV P f args w (.tuple ⟨[.slice none 0 0, .int .i64 e]⟩) := by
  subst hR; exact h
theorem plansV_some {P : Program} {f : FuncId} {args : List Value} {w : World} {R : Option (List Walks) × Int} {pl : List Walks} {e : Int} (hR : R = (some pl, e)) (h : CallsB P f args w (plansV R)) :
    CallsB P f args w (fun v bs => ∃ A c bb o, v = .tuple ⟨[.slice A pl.length c, .int .i64 e]⟩ ∧ Sx.Own walksL 2 64 A c pl bb o ∧ bs = [(bb, o)]) := by
  subst hR; exact h
end Go.Eng
