/-
  PLAIN LAWS of the engine: what is easier needs no more; longer evenings.
-/
import Derived.Test.YtdbcedmofoakmaaDoorEg2
set_option maxRecDepth 100000
namespace Go.Eng
open Go Go.Sx
/-- Two lists, element by element. -/
inductive All2 {α β : Type} (R : α → β → Prop) : List α → List β → Prop
  | nil : All2 R [] []
  | cons {x : α} {y : β} {l : List α} {m : List β} (h : R x y) (t : All2 R l m) : All2 R (x :: l) (y :: m)
/-- Evening d asks no more of the engine than b, minute by minute. -/
structure Ez (d b : Book) : Prop where
  bunker : b.bunker ≤ d.bunker
  tank : b.tank ≤ d.tank
  scoop : b.scoop ≤ d.scoop
  pail : b.pail ≤ d.pail
  burn : ∀ l, (d.burn l).hi ≤ (b.burn l).hi
  drink : ∀ l, (d.drink l).hi ≤ (b.drink l).hi
  lamp : d.lamp ≤ b.lamp
  mark : d.mark ≤ b.mark
  full : d.full.lo = b.full.lo
  weak : d.weak.lo = b.weak.lo
/-- Part p asks no more than q. -/
structure Pz (p q : Part) : Prop where
  light : p.light = q.light
  walks : q.walks ≤ p.walks
  hi : p.mi.hi ≤ q.mi.hi
theorem Ez.refl (b : Book) : Ez b b := ⟨Int.le_refl _, Int.le_refl _, Int.le_refl _, Int.le_refl _, fun _ => Int.le_refl _, fun _ => Int.le_refl _, Int.le_refl _, Int.le_refl _, rfl, rfl⟩
theorem Pz.refl (p : Part) : Pz p p := ⟨rfl, Int.le_refl _, Int.le_refl _⟩
theorem afterC_ez {d b : Book} (h : Ez d b) {p q : Part} (hp : Pz p q) {x x' c c' : Int} (hx : 0 ≤ x) (hxx : x ≤ x') (hs : 0 ≤ d.scoop) (hc : c ≤ c') (hq : 0 ≤ p.mi.hi) (hb : 0 ≤ (b.burn q.light).hi) : b.afterC false q x c ≤ d.afterC false p x' c' := by
  have h1 : x * b.scoop ≤ x' * d.scoop := Int.le_trans (Int.mul_le_mul_of_nonneg_left h.scoop hx) (Int.mul_le_mul_of_nonneg_right hxx hs)
  have h2 : p.mi.hi * (d.burn p.light).hi ≤ q.mi.hi * (b.burn q.light).hi := by
    rw [hp.light]
    exact Int.le_trans (Int.mul_le_mul_of_nonneg_left (h.burn q.light) hq) (Int.mul_le_mul_of_nonneg_right hp.hi hb)
  have h3 := h.bunker
  simp only [Book.afterC, Span.end, Bool.not_false, if_true]
  omega
theorem afterW_ez {d b : Book} (h : Ez d b) {p q : Part} (hp : Pz p q) {x x' c c' : Int} (hx : 0 ≤ x) (hxx : x ≤ x') (hs : 0 ≤ d.pail) (hc : c ≤ c') (hq : 0 ≤ p.mi.hi) (hb : 0 ≤ (b.drink q.light).hi) : b.afterW false q x c ≤ d.afterW false p x' c' := by
  have h1 : x * b.pail ≤ x' * d.pail := Int.le_trans (Int.mul_le_mul_of_nonneg_left h.pail hx) (Int.mul_le_mul_of_nonneg_right hxx hs)
  have h2 : p.mi.hi * (d.drink p.light).hi ≤ q.mi.hi * (b.drink q.light).hi := by
    rw [hp.light]
    exact Int.le_trans (Int.mul_le_mul_of_nonneg_left (h.drink q.light) hq) (Int.mul_le_mul_of_nonneg_right hp.hi hb)
  have h3 := h.tank
  simp only [Book.afterW, Span.end, Bool.not_false, if_true]
  omega
theorem may_ez {d b : Book} (h : Ez d b) (hwk : b.weak.lo ≤ b.full.lo) {p q : Part} (hp : Pz p q) {c c' v v' : Int} (hc : c ≤ c') (hv : v ≤ v') (hm : b.may q c v = false) : d.may p c' v' = false := by
  unfold Book.may at hm ⊢
  rw [hp.light]
  have h1 := h.lamp; have h2 := h.mark; have h3 := h.full; have h4 := h.weak
  generalize q.light = l at hm ⊢
  rw [Bool.eq_false_iff] at hm ⊢
  intro h'
  apply hm
  cases l
  · simp at h' ⊢; omega
  · by_cases e1 : v < b.mark <;> by_cases e2 : v' < d.mark <;> simp [e1, e2] at h' ⊢ <;> omega
/-- What a book's numbers must be for this. -/
structure Nz (b : Book) : Prop where
  scoop : 0 ≤ b.scoop
  pail : 0 ≤ b.pail
  burn : ∀ l, 0 ≤ (b.burn l).hi
  drink : ∀ l, 0 ≤ (b.drink l).hi
  wk : b.weak.lo ≤ b.full.lo
theorem Bd.nz {b : Book} (h : Bd b) : Nz b := ⟨h.load.1, h.load.2.2.1, fun l => (h.burn l true).1, fun l => (h.drink l true).1, h.wk⟩
theorem canL_ez {d b : Book} (h : Ez d b) (hd : Nz d) (hb : Nz b) : ∀ (ps qs : List Part), All2 Pz ps qs → (∀ p ∈ ps, 0 ≤ p.mi.hi) → (∀ q ∈ qs, 0 ≤ q.walks) → ∀ (c c' v v' : Int), c ≤ c' → v ≤ v' → b.canL qs c v = true → d.canL ps c' v' = true := by
  intro ps qs hf
  induction hf with
  | nil => intro _ _ c c' v v' _ _ _; rfl
  | @cons p q ps qs hp hf ih =>
    intro hm hqs c c' v v' hc hv hcan
    have hm1 := hm p (by simp)
    have hq0 := hqs q (by simp)
    have ih := ih (fun x hx => hm x (by simp [hx])) (fun x hx => hqs x (by simp [hx]))
    rw [canL_iff] at hcan ⊢
    obtain ⟨j, hj, ht⟩ := hcan
    have hw := hp.walks
    refine ⟨j, by omega, ?_⟩
    simp only [Book.tryC, Bool.and_eq_true, Bool.not_eq_true'] at ht ⊢
    have hneg : 0 ≤ q.walks - (j : Int) := by omega
    have h1 := afterC_ez h hp (x := (j : Int)) (x' := (j : Int)) (by omega) (Int.le_refl _) hd.scoop hc hm1 (hb.burn _)
    have h2 := afterW_ez h hp (x := q.walks - (j : Int)) (x' := p.walks - (j : Int)) hneg (by omega) hd.pail hv hm1 (hb.drink _)
    exact ⟨may_ez h hb.wk hp h1 h2 ht.1, ih _ _ _ _ h1 h2 ht.2⟩
theorem pz_refl : ∀ l : List Part, All2 Pz l l
  | [] => .nil
  | p :: l => .cons (Pz.refl p) (pz_refl l)
theorem pz_set {p q : Part} (h : Pz p q) : ∀ (l : List Part) (k : Nat), All2 Pz (l.set k p) (l.set k q)
  | [], _ => .nil
  | _ :: l, 0 => .cons h (pz_refl l)
  | x :: l, k + 1 => .cons (Pz.refl x) (pz_set h l k)
theorem bd_hi {b : Book} (hb : Bd b) : ∀ p ∈ b.parts, 0 ≤ p.mi.hi := fun p hp => by
  obtain ⟨i, hi⟩ := List.mem_iff_getElem?.1 hp
  exact ((hb.parts i p hi).1 true).1
theorem bd_walks {b : Book} (hb : Bd b) : ∀ p ∈ b.parts, 0 ≤ p.walks := fun p hp => by
  obtain ⟨i, hi⟩ := List.mem_iff_getElem?.1 hp
  exact (hb.parts i p hi).2.1
theorem upto_canL {b : Book} (hb : Bd b) {k : Nat} {x : Part} (hx : b.parts[k]? = some x) {z : Int} (hz : 0 ≤ z ∧ z ≤ 1000) : (b.upto k x z).can = b.canL (b.parts.set k (x.upto z)) b.coal.lo b.water.lo := by
  rw [can_eq (upto_bd hb hx hz)]
  exact canL_parts _ _ _
theorem upto_mono {b : Book} (hb : Bd b) {k : Nat} {x : Part} (hx : b.parts[k]? = some x) {y z : Int} (hy : 0 ≤ y) (hyz : y ≤ z) (hz : z ≤ 1000) (h : (b.upto k x z).can = true) : (b.upto k x y).can = true := by
  rw [upto_canL hb hx ⟨by omega, hz⟩] at h
  rw [upto_canL hb hx ⟨hy, by omega⟩]
  exact canL_ez (Ez.refl b) hb.nz hb.nz (b.parts.set k (x.upto y)) (b.parts.set k (x.upto z)) (pz_set (p := x.upto y) (q := x.upto z) ⟨rfl, Int.le_refl _, hyz⟩ _ _) (bd_hi (upto_bd hb hx (z := y) ⟨hy, by omega⟩)) (bd_walks (upto_bd hb hx (z := z) ⟨by omega, hz⟩)) _ _ _ _ (Int.le_refl _) (Int.le_refl _) h
theorem upto_self' {b : Book} {k : Nat} {x : Part} (hx : b.parts[k]? = some x) : b.upto k x x.mi.hi = b := by
  unfold Book.upto; rw [upto_self hx]
theorem upto_ok {b : Book} (hok : b.ok = true) {k : Nat} {x : Part} (hx : b.parts[k]? = some x) {z : Int} (hz : x.mi.lo ≤ z ∧ z ≤ 60) : (b.upto k x z).ok = true := by
  have hx1 := ok_part hok hx
  simp only [Book.ok, Bool.and_eq_true, List.all_eq_true] at hok ⊢
  have e : (b.upto k x z).parts.length = b.parts.length := by simp only [Book.upto, List.length_set]
  refine ⟨by rw [e]; exact hok.1, fun p hp => ?_⟩
  rcases List.mem_or_eq_of_mem_set hp with h | h
  · exact hok.2 p h
  · subst h
    simp only [okSpan_iff, within_iff] at hx1
    simp only [Part.ok, Part.upto, Bool.and_eq_true, okSpan_iff, within_iff]
    omega
theorem longest_cases {b : Book} {k : Nat} {x : Part} : ∀ m : Nat, (b.longest k x m = -1 ∧ ∀ j : Nat, j < m → (b.upto k x (x.mi.hi + (j : Int))).can = false) ∨
    (∃ j : Nat, j < m ∧ b.longest k x m = (j : Int) ∧ (b.upto k x (x.mi.hi + (j : Int))).can = true ∧ ∀ i : Nat, j < i → i < m → (b.upto k x (x.mi.hi + (i : Int))).can = false) := by
  intro m
  induction m with
  | zero => exact .inl ⟨rfl, fun j h => absurd h (Nat.not_lt_zero _)⟩
  | succ m ih =>
    cases hc : (b.upto k x (x.mi.hi + (m : Int))).can with
    | true => exact .inr ⟨m, Nat.lt_succ_self _, by rw [Book.longest, if_pos hc], hc, fun i h1 h2 => by omega⟩
    | false =>
      have e : b.longest k x (m + 1) = b.longest k x m := by rw [Book.longest, if_neg (by rw [hc]; decide)]
      rcases ih with ⟨h1, h2⟩ | ⟨j, h1, h2, h3, h4⟩
      · refine .inl ⟨by rw [e, h1], fun j hj => ?_⟩
        rcases Nat.lt_or_ge j m with h | h
        · exact h2 j h
        · have : j = m := by omega
          subst this; exact hc
      · refine .inr ⟨j, by omega, by rw [e, h2], h3, fun i hi1 hi2 => ?_⟩
        rcases Nat.lt_or_ge i m with h | h
        · exact h4 i hi1 h
        · have : i = m := by omega
          subst this; exact hc
/-- How much longer a part can be. -/
structure LongAt (b : Book) (q : Nat) (x : Part) (z : Nat) : Prop where
  le : z ≤ 60
  yes : ∀ j : Int, 0 ≤ j → j ≤ (z : Int) → (b.upto q x (x.mi.hi + j)).can = true
  no : z < 60 → (b.upto q x (x.mi.hi + ((z : Int) + 1))).can = false
theorem long_cases {b : Book} (hok : b.ok = true) {q : Nat} {x : Part} (hx : b.parts[q]? = some x) : (b.can = false ∧ b.longerR (q : Int) = (0, 4)) ∨ (b.can = true ∧ ∃ z : Nat, b.longerR (q : Int) = ((z : Int), 0) ∧ LongAt b q x z) := by
  have hb := ok_bd hok
  have hql := (List.getElem?_eq_some_iff.1 hx).1
  have hx1 := ok_part hok hx
  simp only [okSpan_iff, within_iff] at hx1
  have hw : within (q : Int) 0 ((b.parts.length : Int) - 1) = true := within_iff.2 (by omega)
  have hR : b.longerR (q : Int) = if b.longest q x 61 < 0 then (0, 4) else (b.longest q x 61, 0) := by
    unfold Book.longerR
    rw [if_pos hok, if_pos hw]
    simp only [Int.toNat_natCast, hx]
  have h0 := upto_self' hx
  rcases longest_cases (b := b) (k := q) (x := x) 61 with ⟨h1, h2⟩ | ⟨z, h1, h2, h3, h4⟩
  · refine .inl ⟨?_, by rw [hR, h1]; rfl⟩
    have := h2 0 (by omega)
    simp only [Int.natCast_zero, Int.add_zero] at this
    rw [h0] at this; exact this
  · refine .inr ⟨?_, z, by rw [hR, h2, if_neg (by omega)], by omega, fun j hj1 hj2 => upto_mono hb hx (by omega) (by omega : x.mi.hi + j ≤ x.mi.hi + (z : Int)) (by omega) h3, fun hz => ?_⟩
    · have := upto_mono hb hx (y := x.mi.hi) (by omega) (by omega : x.mi.hi ≤ x.mi.hi + (z : Int)) (by omega) h3
      rw [h0] at this; exact this
    · have := h4 (z + 1) (by omega) (by omega)
      rw [Int.natCast_add] at this; exact this
end Go.Eng
