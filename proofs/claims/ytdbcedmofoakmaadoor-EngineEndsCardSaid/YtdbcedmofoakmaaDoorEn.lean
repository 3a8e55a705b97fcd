/-
  THE ENGINE, PLAIN LAWS: more coal, more water are never worse; 'can' says whether there is a best plan.
-/
import Derived.Test.YtdbcedmofoakmaaDoorEp
set_option maxRecDepth 100000
namespace Go.Eng
open Go Go.Sx
theorem first_iff {f : Nat → Bool} : ∀ (n i : Nat), 0 ≤ first f n i ↔ ∃ j, i ≤ j ∧ j < i + n ∧ f j = true := by
  intro n
  induction n with
  | zero => intro i; simp only [first]; constructor
            · intro h; omega
            · rintro ⟨j, h1, h2, -⟩; omega
  | succ n ih =>
    intro i
    rw [first]
    split
    · rename_i h
      constructor
      · intro _; exact ⟨i, Nat.le_refl _, by omega, h⟩
      · intro _; omega
    · rename_i h
      rw [ih]
      constructor
      · rintro ⟨j, h1, h2, h3⟩; exact ⟨j, by omega, by omega, h3⟩
      · rintro ⟨j, h1, h2, h3⟩
        rcases Nat.eq_or_lt_of_le h1 with e | e
        · subst e; exact absurd h3 h
        · exact ⟨j, e, by omega, h3⟩
theorem afterC_mono {b : Book} {hi : Bool} {p : Part} {x x' c c' : Int} (hx : x ≤ x') (hs : 0 ≤ b.scoop) (hc : c ≤ c') : b.afterC hi p x c ≤ b.afterC hi p x' c' := by
  have := Int.mul_le_mul_of_nonneg_right hx hs
  unfold Book.afterC; omega
theorem afterW_mono {b : Book} {hi : Bool} {p : Part} {x x' v v' : Int} (hx : x ≤ x') (hs : 0 ≤ b.pail) (hv : v ≤ v') : b.afterW hi p x v ≤ b.afterW hi p x' v' := by
  have := Int.mul_le_mul_of_nonneg_right hx hs
  unfold Book.afterW; omega
theorem may_mono {b : Book} (hwk : b.weak.lo ≤ b.full.lo) {p : Part} {c c' v v' : Int} (hc : c ≤ c') (hv : v ≤ v') (h : b.may p c v = false) : b.may p c' v' = false := by
  unfold Book.may at h ⊢
  generalize p.light = l at h ⊢
  rw [Bool.eq_false_iff] at h ⊢
  intro h'
  apply h
  cases l
  · simp at h' ⊢; omega
  · by_cases h1 : v < b.mark <;> by_cases h2 : v' < b.mark <;> simp [h1, h2] at h' ⊢ <;> omega
theorem canL_iff {b : Book} {p : Part} {ps : List Part} {c v : Int} : b.canL (p :: ps) c v = true ↔ ∃ j : Nat, j < p.walks.toNat + 1 ∧ b.tryC p (b.canL ps) c v j = true := by
  rw [Book.canL, decide_eq_true_eq, first_iff]
  constructor
  · rintro ⟨j, -, h2, h3⟩; exact ⟨j, by omega, h3⟩
  · rintro ⟨j, h2, h3⟩; exact ⟨j, Nat.zero_le _, by omega, h3⟩
theorem canL_mono {b : Book} (hb : Bd b) : ∀ (ps : List Part) (c c' v v' : Int), c ≤ c' → v ≤ v' → b.canL ps c v = true → b.canL ps c' v' = true := by
  intro ps
  induction ps with
  | nil => intro c c' v v' _ _ _; rfl
  | cons p ps ih =>
    intro c c' v v' hc hv h
    rw [canL_iff] at h ⊢
    obtain ⟨j, hj, ht⟩ := h
    refine ⟨j, hj, ?_⟩
    have h1 := afterC_mono (b := b) (hi := false) (p := p) (Int.le_refl (j : Int)) hb.load.1 hc
    have h2 := afterW_mono (b := b) (hi := false) (p := p) (Int.le_refl (p.walks - (j : Int))) hb.load.2.2.1 hv
    simp only [Book.tryC, Bool.and_eq_true, Bool.not_eq_true'] at ht ⊢
    exact ⟨may_mono hb.wk h1 h2 ht.1, ih _ _ _ _ h1 h2 ht.2⟩
theorem try1_some {b : Book} {p : Part} {rest : Int → Int → Option (List Walks × Int)} {c v : Int} {acc : Option (List Walks × Int)} {y : Walks} :
    (b.try1 p rest c v acc y).isSome = true ↔ acc.isSome = true ∨ (y.c + y.w ≤ p.walks ∧ b.may p (b.afterC false p y.c c) (b.afterW false p y.w v) = false ∧ (rest (b.afterC false p y.c c) (b.afterW false p y.w v)).isSome = true) := by
  unfold Book.try1
  split
  · rename_i h; constructor
    · exact .inl
    · rintro (h' | ⟨h', -⟩); exact h'; omega
  · rename_i h
    split
    · rename_i h2; constructor
      · exact .inl
      · rintro (h' | ⟨-, h', -⟩); exact h'; rw [h2] at h'; cases h'
    · rename_i h2
      have h2' : b.may p (b.afterC false p y.c c) (b.afterW false p y.w v) = false := by simpa using h2
      cases hr : rest (b.afterC false p y.c c) (b.afterW false p y.w v) with
      | none => simp
      | some q =>
        obtain ⟨pl, k⟩ := q
        constructor
        · intro _; exact .inr ⟨by omega, h2', rfl⟩
        · intro _
          cases acc with
          | none => rfl
          | some q' => obtain ⟨pl', k'⟩ := q'; simp only; split <;> rfl
theorem bestN_some {b : Book} {p : Part} {rest : Int → Int → Option (List Walks × Int)} {c v : Int} : ∀ n : Nat, (b.bestN p rest c v n).isSome = true ↔
    ∃ k, k < n ∧ (pairOf p.walks k).c + (pairOf p.walks k).w ≤ p.walks ∧ b.may p (b.afterC false p (pairOf p.walks k).c c) (b.afterW false p (pairOf p.walks k).w v) = false ∧ (rest (b.afterC false p (pairOf p.walks k).c c) (b.afterW false p (pairOf p.walks k).w v)).isSome = true := by
  intro n
  induction n with
  | zero => constructor
            · intro h; cases h
            · rintro ⟨k, h, -⟩; omega
  | succ n ih =>
    rw [Book.bestN, try1_some, ih]
    constructor
    · rintro (⟨k, h1, h2⟩ | h)
      · exact ⟨k, by omega, h2⟩
      · exact ⟨n, by omega, h⟩
    · rintro ⟨k, h1, h2⟩
      rcases Nat.lt_or_ge k n with h | h
      · exact .inl ⟨k, h, h2⟩
      · have e : k = n := by omega
        subst e; exact .inr h2
theorem pair_at {W : Int} (h : 0 ≤ W) {x y : Int} (hx : 0 ≤ x) (hy : 0 ≤ y) (hxy : x + y ≤ W) : ∃ k : Nat, k < ((W + 1) * (W + 1)).toNat ∧ pairOf W k = ⟨x, y⟩ := by
  have hk0 : 0 ≤ x * (W + 1) + y := Int.add_nonneg (Int.mul_nonneg hx (by omega)) hy
  refine ⟨(x * (W + 1) + y).toNat, ?_, ?_⟩
  · have h1 : x * (W + 1) ≤ W * (W + 1) := Int.mul_le_mul_of_nonneg_right (by omega) (by omega)
    have h2 : (W + 1) * (W + 1) = W * (W + 1) + (W + 1) := by rw [Int.add_mul]; omega
    have h3 : x = W → y = 0 := by omega
    rw [Int.toNat_lt_toNat (by rw [h2]; have := Int.mul_nonneg h (show 0 ≤ W + 1 by omega); omega)]
    rw [h2]; omega
  · have e : (((x * (W + 1) + y).toNat : Nat) : Int) = x * (W + 1) + y := Int.toNat_of_nonneg hk0
    simp only [pairOf, e, Walks.mk.injEq]
    constructor
    · rw [Int.add_comm, Int.add_mul_ediv_right _ _ (by omega), Int.ediv_eq_zero_of_lt hy (by omega)]; omega
    · rw [Int.tmod_eq_emod_of_nonneg hk0, Int.add_comm, Int.add_mul_emod_self_right, Int.emod_eq_of_lt hy (by omega)]
theorem pair_pos {W : Int} (h : 0 ≤ W) (k : Nat) : 0 ≤ (pairOf W k).c ∧ 0 ≤ (pairOf W k).w :=
  ⟨Int.ediv_nonneg (by omega) (by omega), Int.tmod_nonneg _ (by omega)⟩
theorem can_best {b : Book} (hb : Bd b) : ∀ (ps : List Part), (∀ p ∈ ps, 0 ≤ p.walks) → ∀ c v : Int, (b.best ps c v).isSome = true ↔ b.canL ps c v = true := by
  intro ps
  induction ps with
  | nil => intro _ c v; simp [Book.best, Book.canL]
  | cons p ps ih =>
    intro hw c v
    have ih := ih (fun q hq => hw q (by simp [hq]))
    have hp := hw p (by simp)
    rw [Book.best, bestN_some, canL_iff]
    constructor
    · rintro ⟨k, hk, hsum, hmay, hrest⟩
      have hpos := pair_pos hp k
      rw [ih] at hrest
      have hj : (((pairOf p.walks k).c.toNat : Nat) : Int) = (pairOf p.walks k).c := Int.toNat_of_nonneg hpos.1
      refine ⟨(pairOf p.walks k).c.toNat, by omega, ?_⟩
      have h1 := afterC_mono (b := b) (hi := false) (p := p) (Int.le_refl (pairOf p.walks k).c) hb.load.1 (Int.le_refl c)
      have h2 := afterW_mono (b := b) (hi := false) (p := p) (show (pairOf p.walks k).w ≤ p.walks - (pairOf p.walks k).c by omega) hb.load.2.2.1 (Int.le_refl v)
      simp only [Book.tryC, Bool.and_eq_true, Bool.not_eq_true', hj]
      exact ⟨may_mono hb.wk h1 h2 hmay, canL_mono hb ps _ _ _ _ h1 h2 hrest⟩
    · rintro ⟨j, hj, ht⟩
      simp only [Book.tryC, Bool.and_eq_true, Bool.not_eq_true'] at ht
      obtain ⟨k, hk, he⟩ := pair_at (W := p.walks) hp (x := (j : Int)) (y := p.walks - (j : Int)) (by omega) (by omega) (by omega)
      refine ⟨k, hk, ?_⟩
      rw [he]
      exact ⟨by simp only; omega, ht.1, (ih _ _).2 ht.2⟩
theorem can_eq {b : Book} (hb : Bd b) : b.can = b.canL b.parts b.coal.lo b.water.lo := by
  rw [Bool.eq_iff_iff, Book.can]
  exact can_best hb b.parts (fun p hp => by
    obtain ⟨i, hi⟩ := List.mem_iff_getElem?.1 hp
    exact (hb.parts i p hi).2.1) _ _
end Go.Eng
