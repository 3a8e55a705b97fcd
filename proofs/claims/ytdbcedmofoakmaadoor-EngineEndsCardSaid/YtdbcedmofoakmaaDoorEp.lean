/-
  THE ENGINE's PLAN, in plain Lean: the best plan behind a part; what a value, a map says of it.
-/
import Derived.Test.YtdbcedmofoakmaaDoorEm
import Derived.Test.YtdbcedmofoakmaaDoorSg
set_option maxRecDepth 100000
namespace Go.Eng
open Go Go.Sx
/-- The k-th pair of walks, for one who can walk W times. -/
def pairOf (W : Int) (k : Nat) : Walks := ⟨(k : Int) / (W + 1), ((k : Int) : Int).tmod (W + 1)⟩
/-- One pair of walks is tried. -/
def Book.try1 (b : Book) (p : Part) (rest : Int → Int → Option (List Walks × Int)) (c v : Int) (acc : Option (List Walks × Int)) (y : Walks) : Option (List Walks × Int) :=
  if p.walks < y.c + y.w then acc else
    if b.may p (b.afterC false p y.c c) (b.afterW false p y.w v) = true then acc else
      match rest (b.afterC false p y.c c) (b.afterW false p y.w v) with
      | none => acc
      | some (pl, k) => match acc with
        | none => some (y :: pl, y.c + y.w + k)
        | some (pl', k') => if y.c + y.w + k < k' then some (y :: pl, y.c + y.w + k) else some (pl', k')
def Book.bestN (b : Book) (p : Part) (rest : Int → Int → Option (List Walks × Int)) (c v : Int) : Nat → Option (List Walks × Int)
  | 0 => none
  | n + 1 => b.try1 p rest c v (b.bestN p rest c v n) (pairOf p.walks n)
def rounds (p : Part) : Nat := ((p.walks + 1) * (p.walks + 1)).toNat
/-- The plan of the fewest walks for these parts, the first of them; none: none will do. -/
def Book.best (b : Book) : List Part → Int → Int → Option (List Walks × Int)
  | [], _, _ => some ([], 0)
  | p :: ps, c, v => b.bestN p (b.best ps) c v (rounds p)
/-- What the best so far looks like in memory: slice, length, walks. -/
def Bst (res : Option (List Walks × Int)) (A : Option Addr) (n c : Nat) (t : Int) (G : List (Nat × Option Obj)) : Prop := match res with
  | none => A = none ∧ n = 0 ∧ c = 0 ∧ t = -1
  | some (pl, k) => n = pl.length ∧ t = k ∧ 0 ≤ k ∧ k ≤ 1000 * pl.length ∧ ∃ bb o, Sx.Own walksL 2 64 A c pl bb o ∧ (pl ≠ [] → (bb, o) ∈ G ∧ ∃ x, o = some x)
def BstV (res : Option (List Walks × Int)) (v : Value) (G : List (Nat × Option Obj)) : Prop := ∃ A n c t, v = .agg ⟨[.slice A n c, .int .i64 t]⟩ ∧ Bst res A n c t G
theorem Bst.mono {res : Option (List Walks × Int)} {A : Option Addr} {n c : Nat} {t : Int} {G G' : List (Nat × Option Obj)} (h : Bst res A n c t G) (hg : ∀ p ∈ G, p ∈ G') : Bst res A n c t G' := by
  cases res with
  | none => exact h
  | some q =>
    obtain ⟨pl, k⟩ := q
    obtain ⟨h1, h2, h3, h4, bb, o, h5, h6⟩ := h
    exact ⟨h1, h2, h3, h4, bb, o, h5, fun hp => ⟨hg _ (h6 hp).1, (h6 hp).2⟩⟩
theorem BstV.mono {res : Option (List Walks × Int)} {v : Value} {G G' : List (Nat × Option Obj)} (h : BstV res v G) (hg : ∀ p ∈ G, p ∈ G') : BstV res v G' := by
  obtain ⟨A, n, c, t, h1, h2⟩ := h
  exact ⟨A, n, c, t, h1, h2.mono hg⟩
/-- The map's keys: part, coal, water. -/
def keyV (q : Nat × Int × Int) : Value := .agg ⟨[.int .i64 (q.1 : Int), .int .i64 q.2.1, .int .i64 q.2.2]⟩
def keyEq (q r : Nat × Int × Int) : Bool := (((q.1 : Int) == (r.1 : Int)) && ((q.2.1 == r.2.1) && (q.2.2 == r.2.2)))
theorem keyEq_eq {q r : Nat × Int × Int} (h : keyEq q r = true) : q = r := by
  obtain ⟨a, b, c⟩ := q
  obtain ⟨x, y, z⟩ := r
  simp only [keyEq, Bool.and_eq_true, beq_iff_eq] at h
  obtain ⟨h1, h2, h3⟩ := h
  have : a = x := by omega
  subst this h2 h3; rfl
def Book.memo (b : Book) (G : List (Nat × Option Obj)) (q : Nat × Int × Int) (v : Value) : Prop := BstV (b.best (b.parts.drop q.1) q.2.1 q.2.2) v G
theorem memo_mono {b : Book} {G G' : List (Nat × Option Obj)} {es : Array MapEntry} (h : Ents keyV (b.memo G) es) (hg : ∀ p ∈ G, p ∈ G') : Ents keyV (b.memo G') es := fun e he => by
  obtain ⟨k, h1, h2⟩ := h e he
  exact ⟨k, h1, h2.mono hg⟩
/-- The blocks that plan's calls share: the map, the three boxes that the closure holds, the plans that are made. -/
def planC (b : Book) (A : Option Addr) (n cp m t1 t2 t3 : Nat) (es : Array MapEntry) (clk : Nat) (G : List (Nat × Option Obj)) : List (Nat × Option Obj) :=
  (m, some (.map es clk)) :: (t1, some (.cells ⟨bookL b A n cp⟩ 75 (0, 0))) :: (t2, some (.cells ⟨[.map (some m)]⟩ 113 (0, 0))) ::
    (t3, some (.cells ⟨[.func (.func 78) #[] ⟨[.pointer (some ⟨t1, 0, none⟩), .pointer (some ⟨t2, 0, none⟩), .pointer (some ⟨t3, 0, none⟩)]⟩]⟩ 114 (0, 0))) :: G
def allSome (G : List (Nat × Option Obj)) : Prop := ∀ p ∈ G, ∃ o, p.2 = some o
theorem planC_some {b : Book} {A : Option Addr} {n cp m t1 t2 t3 : Nat} {es : Array MapEntry} {clk : Nat} {G : List (Nat × Option Obj)} (h : allSome G) : allSome (planC b A n cp m t1 t2 t3 es clk G) := by
  intro p hp
  simp only [planC, List.mem_cons] at hp
  rcases hp with rfl | rfl | rfl | rfl | hp
  · exact ⟨_, rfl⟩
  · exact ⟨_, rfl⟩
  · exact ⟨_, rfl⟩
  · exact ⟨_, rfl⟩
  · exact h p hp
/-- What a call of the closure hands back. -/
def planPost (b : Book) (A : Option Addr) (n cp m t1 t2 t3 : Nat) (W : World) (G : List (Nat × Option Obj)) (res : Option (List Walks × Int)) (v : Value) (B' : List (Nat × Option Obj)) : Prop :=
  ∃ es clk G', B' = planC b A n cp m t1 t2 t3 es clk G' ∧ (∀ p ∈ G, p ∈ G') ∧ allSome G' ∧ (∀ p ∈ G', W.heap.size ≤ p.1) ∧ Ents keyV (b.memo G') es ∧ BstV res v G'
theorem _root_.Go.Sx.Kp.via {M : List Nat} {W w0 w : World} (h : Kp [] W w0) (k : Kp M w0 w) (hM : ∀ q ∈ M, W.heap.size ≤ q) : Kp [] W w :=
  ⟨k.os.trans h.os, k.tape.trans h.tape, k.output.trans h.output, Nat.le_trans h.size k.size, fun q hq _ => (k.block q (by have := h.size; omega) (fun hm => by have := hM q hm; omega)).trans (h.block q hq (by simp))⟩
theorem best_drop {b : Book} {i : Nat} {x : Part} (hx : b.parts[i]? = some x) (c v : Int) : b.best (b.parts.drop i) c v = b.bestN x (b.best (b.parts.drop (i + 1))) c v (rounds x) := by
  obtain ⟨hl, he⟩ := List.getElem?_eq_some_iff.1 hx
  rw [List.drop_eq_getElem_cons hl, he]; rfl
theorem best_nil {b : Book} {i : Nat} (h : b.parts.length ≤ i) (c v : Int) : b.best (b.parts.drop i) c v = some ([], 0) := by
  rw [List.drop_eq_nil_of_le h]; rfl
/-- The loop's ghost. -/
structure PG where
  k : Nat
  A : Option Addr
  n : Nat
  c : Nat
  t : Int
  es : Array MapEntry
  clk : Nat
  G : List (Nat × Option Obj)
theorem pairOf_bd {W : Int} (h : 0 ≤ W ∧ W ≤ 1000) {k : Nat} (hk : (k : Int) < (W + 1) * (W + 1)) {y : Walks} (hy : pairOf W k = y) : 0 ≤ y.c ∧ y.c ≤ 1000 ∧ 0 ≤ y.w ∧ y.w ≤ 1000 := by
  subst hy
  have h1 : (k : Int) / (W + 1) < W + 1 := Int.ediv_lt_of_lt_mul (by omega) hk
  have h2 : 0 ≤ (k : Int) / (W + 1) := Int.ediv_nonneg (by omega) (by omega)
  have h3 : (k : Int).tmod (W + 1) = (k : Int) % (W + 1) := Int.tmod_eq_emod_of_nonneg (by omega)
  have h4 := Int.emod_nonneg (k : Int) (show W + 1 ≠ 0 by omega)
  have h5 := Int.emod_lt_of_pos (k : Int) (show 0 < W + 1 by omega)
  simp only [pairOf]
  omega
theorem rounds_eq {x : Part} (h : 0 ≤ x.walks) : ((rounds x : Nat) : Int) = (x.walks + 1) * (x.walks + 1) :=
  Int.toNat_of_nonneg (Int.mul_nonneg (by omega) (by omega))
theorem try1_wide {b : Book} {p : Part} {rest : Int → Int → Option (List Walks × Int)} {c v : Int} {acc : Option (List Walks × Int)} {y : Walks} (h : p.walks < y.c + y.w) : b.try1 p rest c v acc y = acc := by
  unfold Book.try1; rw [if_pos h]
theorem try1_may {b : Book} {p : Part} {rest : Int → Int → Option (List Walks × Int)} {c v : Int} {acc : Option (List Walks × Int)} {y : Walks} (h : b.may p (b.afterC false p y.c c) (b.afterW false p y.w v) = true) : b.try1 p rest c v acc y = acc := by
  unfold Book.try1; split <;> first | rfl | rw [if_pos h]
theorem try1_none {b : Book} {p : Part} {rest : Int → Int → Option (List Walks × Int)} {c v : Int} {acc : Option (List Walks × Int)} {y : Walks} (h : rest (b.afterC false p y.c c) (b.afterW false p y.w v) = none) : b.try1 p rest c v acc y = acc := by
  unfold Book.try1; rw [h]; split <;> first | rfl | (split <;> rfl)
theorem bst_keep {b : Book} {p : Part} {rest : Int → Int → Option (List Walks × Int)} {c v : Int} {acc : Option (List Walks × Int)} {y : Walks} {A : Option Addr} {n cc : Nat} {t kk : Int} {G : List (Nat × Option Obj)} {pl : List Walks}
    (h : Bst acc A n cc t G) (hr : rest (b.afterC false p y.c c) (b.afterW false p y.w v) = some (pl, kk)) (hc : ((t == -1) || decide (y.c + y.w + kk < t)) = false) : b.try1 p rest c v acc y = acc := by
  simp only [Bool.or_eq_false_iff, beq_eq_false_iff_ne, ne_eq, decide_eq_false_iff_not] at hc
  unfold Book.try1
  rw [hr]
  split
  · rfl
  · split
    · rfl
    · cases acc with
      | none => exact absurd h.2.2.2 hc.1
      | some q =>
        obtain ⟨pl', k'⟩ := q
        obtain ⟨-, h2, -⟩ := h
        simp only
        rw [if_neg (by omega)]
theorem bst_take {b : Book} {p : Part} {rest : Int → Int → Option (List Walks × Int)} {c v : Int} {acc : Option (List Walks × Int)} {y : Walks} {A : Option Addr} {n cc : Nat} {t kk : Int} {G : List (Nat × Option Obj)} {pl : List Walks}
    (h : Bst acc A n cc t G) (hw : ¬ p.walks < y.c + y.w) (hm : b.may p (b.afterC false p y.c c) (b.afterW false p y.w v) = false) (hr : rest (b.afterC false p y.c c) (b.afterW false p y.w v) = some (pl, kk)) (hc : ((t == -1) || decide (y.c + y.w + kk < t)) = true) :
    b.try1 p rest c v acc y = some (y :: pl, y.c + y.w + kk) := by
  simp only [Bool.or_eq_true, beq_iff_eq, decide_eq_true_eq] at hc
  unfold Book.try1
  rw [if_neg hw, if_neg (by rw [hm]; decide), hr]
  cases acc with
  | none => rfl
  | some q =>
    obtain ⟨pl', k'⟩ := q
    obtain ⟨-, h2, h3, -⟩ := h
    simp only
    rw [if_pos (by omega)]
theorem try1_len {b : Book} {p : Part} {rest : Int → Int → Option (List Walks × Int)} {c v : Int} {acc : Option (List Walks × Int)} {y : Walks} {L : Nat} (hr : ∀ c v pl k, rest c v = some (pl, k) → pl.length = L) (ha : ∀ pl k, acc = some (pl, k) → pl.length = L + 1) :
    ∀ pl k, b.try1 p rest c v acc y = some (pl, k) → pl.length = L + 1 := by
  intro pl k h
  unfold Book.try1 at h
  split at h
  · exact ha pl k h
  · split at h
    · exact ha pl k h
    · cases hx : rest (b.afterC false p y.c c) (b.afterW false p y.w v) with
      | none => rw [hx] at h; exact ha pl k h
      | some q =>
        obtain ⟨pl1, k1⟩ := q
        rw [hx] at h
        have hl := hr _ _ _ _ hx
        cases acc with
        | none => simp only [Option.some.injEq, Prod.mk.injEq] at h; rw [← h.1, List.length_cons, hl]
        | some q' =>
          obtain ⟨pl2, k2⟩ := q'
          simp only at h
          split at h
          · simp only [Option.some.injEq, Prod.mk.injEq] at h; rw [← h.1, List.length_cons, hl]
          · simp only [Option.some.injEq, Prod.mk.injEq] at h; rw [← h.1]; exact ha pl2 k2 rfl
theorem best_len {b : Book} : ∀ (ps : List Part) (c v : Int) (pl : List Walks) (k : Int), b.best ps c v = some (pl, k) → pl.length = ps.length := by
  intro ps
  induction ps with
  | nil => intro c v pl k h; simp only [Book.best, Option.some.injEq, Prod.mk.injEq] at h; rw [← h.1]; rfl
  | cons p ps ih =>
    intro c v pl k h
    have : ∀ n pl k, b.bestN p (b.best ps) c v n = some (pl, k) → pl.length = ps.length + 1 := by
      intro n
      induction n with
      | zero => intro pl k h; cases h
      | succ n ihn => exact try1_len ih ihn
    exact this _ pl k h
/-- What 'Plan' answers. -/
def Book.planR (b : Book) : Option (List Walks) × Int :=
  if b.ok = true then match b.best b.parts b.coal.lo b.water.lo with
    | none => (none, 4)
    | some (pl, _) => (some pl, 0)
  else (none, 40)
def plansV (r : Option (List Walks) × Int) (v : Value) (bs : List (Nat × Option Obj)) : Prop := match r with
  | (none, e) => v = .tuple ⟨[.slice none 0 0, .int .i64 e]⟩ ∧ bs = []
  | (some pl, e) => ∃ A c bb o, v = .tuple ⟨[.slice A pl.length c, .int .i64 e]⟩ ∧ Sx.Own walksL 2 64 A c pl bb o ∧ bs = [(bb, o)]
theorem ok_ne {b : Book} (h : b.ok = true) : 0 < b.parts.length := by
  simp only [Book.ok, Book.ok0, Bool.and_eq_true, within_iff] at h
  omega
/-- The evening with its first k parts; with so much coal at first. -/
def Book.head (b : Book) (k : Nat) : Book := { b with parts := b.parts.take k }
def Book.withCoal (b : Book) (k : Int) : Book := { b with coal := ⟨k, k⟩ }
def Book.can (b : Book) : Bool := (b.best b.parts b.coal.lo b.water.lo).isSome
/-- The most parts, at most k, that have a plan. -/
def Book.most (b : Book) : Nat → Nat
  | 0 => 0
  | k + 1 => if (b.head (k + 1)).can = true then k + 1 else b.most k
def Book.partsR (b : Book) : Int × Int := if b.ok = true then ((b.most b.parts.length : Nat), 0) else (0, 40)
def Book.coalR (b : Book) : Int × Int := if b.ok = true then if first (fun k => (b.withCoal k).can) (b.bunker.toNat + 1) 0 < 0 then (0, 4) else (first (fun k => (b.withCoal k).can) (b.bunker.toNat + 1) 0, 0) else (0, 40)
theorem head_bd {b : Book} (h : Bd b) (k : Nat) : Bd (b.head k) :=
  ⟨h.coal, h.water, h.room, h.load, h.burn, h.drink, by have := h.len; simp only [Book.head, List.length_take]; omega, h.wk, fun i x hx => h.parts i x (by
    simp only [Book.head, List.getElem?_take] at hx
    split at hx
    · exact hx
    · cases hx)⟩
theorem coal_bd {b : Book} (h : Bd b) {k : Int} (hk : 0 ≤ k ∧ k ≤ 1000) : Bd (b.withCoal k) :=
  ⟨⟨hk.1, hk.2, hk.1, hk.2⟩, h.water, h.room, h.load, h.burn, h.drink, h.len, h.wk, h.parts⟩
theorem head_at {b : Book} {w : World} {A : Option Addr} {n : Nat} (h : PartsAt w A n b.parts) {k : Nat} (hk : k ≤ n) : PartsAt w A k (b.head k).parts :=
  ⟨by have := h.len; simp only [Book.head, List.length_take]; omega, fun i x hx => h.el i x (by
    simp only [Book.head, List.getElem?_take] at hx
    split at hx
    · exact hx
    · cases hx)⟩
theorem can_none {b : Book} (h : b.best b.parts b.coal.lo b.water.lo = none) : b.can = false := by rw [Book.can, h]; rfl
theorem can_some {b : Book} {q : List Walks × Int} (h : b.best b.parts b.coal.lo b.water.lo = some q) : b.can = true := by rw [Book.can, h]; rfl
theorem most_yes {b : Book} {i : Nat} (h : 0 < i) (hc : (b.head i).can = true) : b.most i = i := by
  obtain ⟨j, rfl⟩ : ∃ j, i = j + 1 := ⟨i - 1, by omega⟩
  rw [Book.most, if_pos hc]
theorem most_no {b : Book} {i : Nat} (h : 0 < i) (hc : (b.head i).can = false) : b.most i = b.most (i - 1) := by
  obtain ⟨j, rfl⟩ : ∃ j, i = j + 1 := ⟨i - 1, by omega⟩
  rw [Book.most, if_neg (by rw [hc]; decide)]; rfl
/-- The evening whose part k may last till z. -/
def Part.upto (x : Part) (z : Int) : Part := { x with mi := ⟨x.mi.lo, z⟩ }
def Book.upto (b : Book) (k : Nat) (x : Part) (z : Int) : Book := { b with parts := b.parts.set k (x.upto z) }
/-- The most minutes, less than m, by which part k can be longer; -1: none. -/
def Book.longest (b : Book) (k : Nat) (x : Part) : Nat → Int
  | 0 => -1
  | m + 1 => if (b.upto k x (x.mi.hi + (m : Int))).can = true then (m : Int) else b.longest k x m
def Book.longerR (b : Book) (k : Int) : Int × Int :=
  if b.ok = true then
    if within k 0 ((b.parts.length : Int) - 1) = true then match b.parts[k.toNat]? with
      | some x => if b.longest k.toNat x 61 < 0 then (0, 4) else (b.longest k.toNat x 61, 0)
      | none => (0, 41)
    else (0, 41)
  else (0, 40)
theorem upto_bd {b : Book} (h : Bd b) {k : Nat} {x : Part} (hx : b.parts[k]? = some x) {z : Int} (hz : 0 ≤ z ∧ z ≤ 1000) : Bd (b.upto k x z) :=
  ⟨h.coal, h.water, h.room, h.load, h.burn, h.drink, by simpa [Book.upto] using h.len, h.wk, fun i y hy => by
    simp only [Book.upto] at hy
    by_cases hi : k = i
    · subst hi
      rw [List.getElem?_set_self (List.getElem?_eq_some_iff.1 hx).1, Option.some.injEq] at hy
      subst hy
      have := h.parts k x hx
      refine ⟨fun e => ?_, this.2⟩
      cases e
      · exact this.1 false
      · exact hz
    · rw [List.getElem?_set_ne hi] at hy; exact h.parts i y hy⟩
/-- The loop's ghost in Longer. -/
structure LG where
  j : Nat
  z : Int
  o : Option Obj
theorem upto_self {b : Book} {k : Nat} {x : Part} (hx : b.parts[k]? = some x) : b.parts.set k (x.upto x.mi.hi) = b.parts := by
  obtain ⟨h, he⟩ := List.getElem?_eq_some_iff.1 hx
  rw [show x.upto x.mi.hi = x from rfl, ← he, List.set_getElem_self]
theorem longest_yes {b : Book} {k j : Nat} {x : Part} (hj : 0 < j) (h : (b.upto k x (x.mi.hi + ((j : Int) - 1))).can = true) : b.longest k x j = (j : Int) - 1 := by
  obtain ⟨m, rfl⟩ : ∃ m, j = m + 1 := ⟨j - 1, by omega⟩
  have e : (((m + 1 : Nat) : Int) - 1) = (m : Int) := by omega
  rw [e] at h ⊢
  rw [Book.longest, if_pos h]
theorem longest_no {b : Book} {k j : Nat} {x : Part} (hj : 0 < j) (h : (b.upto k x (x.mi.hi + ((j : Int) - 1))).can = false) : b.longest k x j = b.longest k x (j - 1) := by
  obtain ⟨m, rfl⟩ : ∃ m, j = m + 1 := ⟨j - 1, by omega⟩
  have e : (((m + 1 : Nat) : Int) - 1) = (m : Int) := by omega
  rw [e] at h
  rw [Book.longest, if_neg (by rw [h]; decide)]; rfl
theorem ok_hi {b : Book} (h : b.ok = true) {i : Nat} {x : Part} (hx : b.parts[i]? = some x) : x.mi.hi ≤ 60 := by
  simp only [Book.ok, Bool.and_eq_true] at h
  have := List.all_eq_true.1 h.2 x (List.mem_of_getElem? hx)
  simp only [Part.ok, Bool.and_eq_true, within_iff, okSpan_iff] at this
  omega
/-- How many walks a plan has. -/
def sumW : List Walks → Int
  | [] => 0
  | y :: l => (y.c + y.w) + sumW l
theorem sumW_append (l r : List Walks) : sumW (l ++ r) = sumW l + sumW r := by
  induction l with
  | nil => simp [sumW]
  | cons y l ih => simp only [List.cons_append, sumW, ih]; omega
theorem sumW_snoc {l : List Walks} {i : Nat} {y : Walks} (h : l[i]? = some y) : sumW (l.take (i + 1)) = sumW (l.take i) + (y.c + y.w) := by
  rw [List.take_add_one, h, sumW_append]; simp [sumW]
/-- A plan whose numbers are small. -/
def SmallP (l : List Walks) : Prop := l.length ≤ 100 ∧ ∀ (i : Nat) (y : Walks), l[i]? = some y → 0 ≤ y.c ∧ y.c ≤ 1000 ∧ 0 ≤ y.w ∧ y.w ≤ 1000
theorem sumW_bd {l : List Walks} (h : SmallP l) : ∀ i : Nat, i ≤ l.length → 0 ≤ sumW (l.take i) ∧ sumW (l.take i) ≤ 2000 * (i : Int) := by
  intro i
  induction i with
  | zero => intro _; simp [sumW]
  | succ i ih =>
    intro hi
    have ih := ih (by omega)
    have hy := h.2 i l[i] (List.getElem?_eq_getElem (by omega))
    rw [sumW_snoc (List.getElem?_eq_getElem (by omega))]
    omega
def sameW (y z : Walks) : Bool := (y.c == z.c) && (y.w == z.w)
def samePl (l r : List Walks) : Bool := (l.length == r.length) && (l.zip r).all (fun q => sameW q.1 q.2)
theorem samePl_eq {l r : List Walks} : samePl l r = true ↔ l = r := by
  induction l generalizing r with
  | nil => cases r <;> simp [samePl]
  | cons y l ih => cases r with
    | nil => simp [samePl]
    | cons z r =>
      have := ih (r := r)
      obtain ⟨a, b⟩ := y
      obtain ⟨c, d⟩ := z
      simp only [samePl, sameW, List.length_cons, List.zip_cons_cons, List.all_cons, Bool.and_eq_true, beq_iff_eq, List.cons.injEq, Walks.mk.injEq] at this ⊢
      rw [← this]
      constructor
      · rintro ⟨h1, ⟨h2, h3⟩, h4⟩; exact ⟨⟨h2, h3⟩, by omega, h4⟩
      · rintro ⟨⟨h2, h3⟩, h1, h4⟩; exact ⟨by omega, ⟨h2, h3⟩, h4⟩
/-- Does it do to walk with all that one can carry: first the coal, then the water? -/
def Book.tryC (b : Book) (p : Part) (rest : Int → Int → Bool) (c v : Int) (j : Nat) : Bool :=
  !b.may p (b.afterC false p (j : Int) c) (b.afterW false p (p.walks - (j : Int)) v) && rest (b.afterC false p (j : Int) c) (b.afterW false p (p.walks - (j : Int)) v)
def Book.canL (b : Book) : List Part → Int → Int → Bool
  | [], _, _ => true
  | p :: ps, c, v => decide (0 ≤ first (b.tryC p (b.canL ps) c v) (p.walks.toNat + 1) 0)
theorem canL_drop {b : Book} {i : Nat} {x : Part} (hx : b.parts[i]? = some x) (c v : Int) : b.canL (b.parts.drop i) c v = decide (0 ≤ first (b.tryC x (b.canL (b.parts.drop (i + 1))) c v) (x.walks.toNat + 1) 0) := by
  obtain ⟨hl, he⟩ := List.getElem?_eq_some_iff.1 hx
  rw [List.drop_eq_getElem_cons hl, he]; rfl
theorem canL_nil {b : Book} {i : Nat} (h : b.parts.length ≤ i) (c v : Int) : b.canL (b.parts.drop i) c v = true := by
  rw [List.drop_eq_nil_of_le h]; rfl
end Go.Eng
