/-
  PLAIN LAWS of the engine: plans that are enough; the plan that is told is the first of the fewest walks.
-/
import Derived.Test.YtdbcedmofoakmaaDoorEh2
set_option maxRecDepth 100000
namespace Go.Eng
open Go Go.Sx
/-- Walks for these parts that are allowed, with which no part can fail. -/
def Book.good (b : Book) : List Part → List Walks → Int → Int → Bool
  | [], [], _, _ => true
  | p :: ps, y :: ys, c, v => okWalks p y && (!b.may p (b.afterC false p y.c c) (b.afterW false p y.w v) && b.good ps ys (b.afterC false p y.c c) (b.afterW false p y.w v))
  | _, _, _, _ => false
/-- One list of numbers stands before another one. -/
def beforeL : List Int → List Int → Bool
  | a :: as, c :: cs => if a = c then beforeL as cs else decide (a < c)
  | as, cs => decide (as.length < cs.length)
def rowL : List Walks → List Int
  | [] => []
  | y :: l => y.c :: y.w :: rowL l
theorem good_len {b : Book} : ∀ (ps : List Part) (ys : List Walks) (c v : Int), b.good ps ys c v = true → ys.length = ps.length := by
  intro ps
  induction ps with
  | nil => intro ys c v h; cases ys with
    | nil => rfl
    | cons y ys => cases h
  | cons p ps ih => intro ys c v h; cases ys with
    | nil => cases h
    | cons y ys =>
      simp only [Book.good, Bool.and_eq_true] at h
      rw [List.length_cons, List.length_cons, ih ys _ _ h.2.2]
theorem good_ok {b : Book} : ∀ (ps : List Part) (ys : List Walks) (c v : Int), b.good ps ys c v = true → (ys.zip ps).all (fun q => okWalks q.2 q.1) = true := by
  intro ps
  induction ps with
  | nil => intro ys c v h; cases ys with
    | nil => rfl
    | cons y ys => cases h
  | cons p ps ih => intro ys c v h; cases ys with
    | nil => cases h
    | cons y ys =>
      simp only [Book.good, Bool.and_eq_true] at h
      simp only [List.zip_cons_cons, List.all_cons, Bool.and_eq_true]
      exact ⟨h.1, ih ys _ _ h.2.2⟩
theorem good_isPlan {b : Book} {pl : List Walks} {c v : Int} (h : b.good b.parts pl c v = true) : b.isPlan pl = true := by
  simp only [Book.isPlan, Bool.and_eq_true, beq_iff_eq]
  exact ⟨good_len _ _ _ _ h, good_ok _ _ _ _ h⟩
theorem okWalks_iff {p : Part} {y : Walks} : okWalks p y = true ↔ 0 ≤ y.c ∧ y.c ≤ p.walks ∧ 0 ≤ y.w ∧ y.w ≤ p.walks - y.c := by
  simp only [okWalks, Bool.and_eq_true, within_iff, and_assoc]
/-- The best plan is good, and has as many walks as is told. -/
theorem bestN_good {b : Book} {p : Part} {ps : List Part} {rest : Int → Int → Option (List Walks × Int)} (hp : 0 ≤ p.walks) (hr : ∀ c v pl k, rest c v = some (pl, k) → b.good ps pl c v = true ∧ k = sumW pl) {c v : Int} :
    ∀ (n : Nat) (pl : List Walks) (k : Int), b.bestN p rest c v n = some (pl, k) → b.good (p :: ps) pl c v = true ∧ k = sumW pl := by
  intro n
  induction n with
  | zero => intro pl k h; cases h
  | succ n ih =>
    intro pl k h
    have hpos := pair_pos hp n
    rw [Book.bestN] at h
    generalize pairOf p.walks n = y at h hpos
    unfold Book.try1 at h
    split at h
    · exact ih pl k h
    · rename_i hw
      split at h
      · exact ih pl k h
      · rename_i hm
        cases hx : rest (b.afterC false p y.c c) (b.afterW false p y.w v) with
        | none => rw [hx] at h; exact ih pl k h
        | some q =>
          obtain ⟨pl1, k1⟩ := q
          rw [hx] at h
          have h1 := hr _ _ _ _ hx
          have hnew : b.good (p :: ps) (y :: pl1) c v = true ∧ y.c + y.w + k1 = sumW (y :: pl1) := by
            refine ⟨?_, by simp only [sumW]; omega⟩
            simp only [Book.good, Bool.and_eq_true, Bool.not_eq_true']
            exact ⟨okWalks_iff.2 (by omega), by simpa using hm, h1.1⟩
          cases ha : b.bestN p rest c v n with
          | none =>
            rw [ha] at h; simp only [Option.some.injEq, Prod.mk.injEq] at h
            obtain ⟨rfl, rfl⟩ := h
            exact hnew
          | some q' =>
            obtain ⟨pl2, k2⟩ := q'
            rw [ha] at h
            simp only at h
            split at h <;> simp only [Option.some.injEq, Prod.mk.injEq] at h <;> obtain ⟨rfl, rfl⟩ := h
            · exact hnew
            · exact ih _ _ ha
theorem best_good {b : Book} : ∀ (ps : List Part), (∀ p ∈ ps, 0 ≤ p.walks) → ∀ (c v : Int) (pl : List Walks) (k : Int), b.best ps c v = some (pl, k) → b.good ps pl c v = true ∧ k = sumW pl := by
  intro ps
  induction ps with
  | nil => intro _ c v pl k h; simp only [Book.best, Option.some.injEq, Prod.mk.injEq] at h; obtain ⟨rfl, rfl⟩ := h; exact ⟨rfl, rfl⟩
  | cons p ps ih => intro hw c v pl k h; exact bestN_good (hw p (by simp)) (ih (fun q hq => hw q (by simp [hq]))) _ pl k h
/-- What the best of the first n pairs is. -/
def BestAt (b : Book) (p : Part) (rest : Int → Int → Option (List Walks × Int)) (c v : Int) (j : Nat) (pl : List Walks) (k : Int) : Prop :=
  (pairOf p.walks j).c + (pairOf p.walks j).w ≤ p.walks ∧ b.may p (b.afterC false p (pairOf p.walks j).c c) (b.afterW false p (pairOf p.walks j).w v) = false ∧
    ∃ pl1 k1, rest (b.afterC false p (pairOf p.walks j).c c) (b.afterW false p (pairOf p.walks j).w v) = some (pl1, k1) ∧ pl = pairOf p.walks j :: pl1 ∧ k = (pairOf p.walks j).c + (pairOf p.walks j).w + k1
theorem bestN_min {b : Book} {p : Part} {rest : Int → Int → Option (List Walks × Int)} {c v : Int} : ∀ (n j : Nat) (pl : List Walks) (k : Int), j < n → BestAt b p rest c v j pl k →
    ∃ j0 pl0 k0, b.bestN p rest c v n = some (pl0, k0) ∧ BestAt b p rest c v j0 pl0 k0 ∧ (k0 < k ∨ (k0 = k ∧ j0 ≤ j)) := by
  intro n
  induction n with
  | zero => intro j pl k h; exact absurd h (Nat.not_lt_zero _)
  | succ n ih =>
    intro j pl k hj hB
    -- what the new pair does
    have hstep : (∃ pl1 k1, BestAt b p rest c v n pl1 k1) ∨ (¬ (∃ pl1 k1, BestAt b p rest c v n pl1 k1) ∧ b.bestN p rest c v (n + 1) = b.bestN p rest c v n) := by
      rcases Classical.em (∃ pl1 k1, BestAt b p rest c v n pl1 k1) with h | h
      · exact .inl h
      · refine .inr ⟨h, ?_⟩
        rw [Book.bestN]
        unfold Book.try1
        split
        · rfl
        · rename_i h1
          split
          · rfl
          · rename_i h2
            cases hx : rest (b.afterC false p (pairOf p.walks n).c c) (b.afterW false p (pairOf p.walks n).w v) with
            | none => rfl
            | some q => exact absurd ⟨_, _, by omega, by simpa using h2, q.1, q.2, hx, rfl, rfl⟩ h
    have hsucc : ∀ pl1 k1, BestAt b p rest c v n pl1 k1 → b.bestN p rest c v (n + 1) = match b.bestN p rest c v n with | none => some (pl1, k1) | some (pl', k') => if k1 < k' then some (pl1, k1) else some (pl', k') := by
      rintro pl1 k1 ⟨h1, h2, pl2, k2, h3, rfl, rfl⟩
      rw [Book.bestN]
      unfold Book.try1
      rw [if_neg (by omega), if_neg (by rw [h2]; decide), h3]
      cases b.bestN p rest c v n <;> rfl
    rcases Nat.lt_or_ge j n with h | h
    · obtain ⟨j0, pl0, k0, h1, h2, h3⟩ := ih j pl k h hB
      rcases hstep with ⟨pl1, k1, hN⟩ | ⟨_, he⟩
      · rw [hsucc _ _ hN, h1]
        simp only
        split
        · exact ⟨n, pl1, k1, rfl, hN, by omega⟩
        · exact ⟨j0, pl0, k0, rfl, h2, h3⟩
      · exact ⟨j0, pl0, k0, by rw [he]; exact h1, h2, h3⟩
    · obtain rfl : j = n := by omega
      rw [hsucc _ _ hB]
      cases ha : b.bestN p rest c v j with
      | none => exact ⟨j, pl, k, rfl, hB, .inr ⟨rfl, Nat.le_refl _⟩⟩
      | some q =>
        obtain ⟨pl', k'⟩ := q
        simp only
        -- what was best before stands at some pair
        have hat : ∃ j0, j0 < j ∧ BestAt b p rest c v j0 pl' k' := by
          clear ih hB hsucc hstep hj
          induction j generalizing pl' k' with
          | zero => cases ha
          | succ j ihj =>
            rw [Book.bestN] at ha
            unfold Book.try1 at ha
            split at ha
            · obtain ⟨j0, h1, h2⟩ := ihj (Nat.le_refl _) _ _ ha
              exact ⟨j0, by omega, h2⟩
            · rename_i hw
              split at ha
              · obtain ⟨j0, h1, h2⟩ := ihj (Nat.le_refl _) _ _ ha
                exact ⟨j0, by omega, h2⟩
              · rename_i hm
                cases hx : rest (b.afterC false p (pairOf p.walks j).c c) (b.afterW false p (pairOf p.walks j).w v) with
                | none =>
                  rw [hx] at ha
                  obtain ⟨j0, h1, h2⟩ := ihj (Nat.le_refl _) _ _ ha
                  exact ⟨j0, by omega, h2⟩
                | some q =>
                  rw [hx] at ha
                  have hN : BestAt b p rest c v j (pairOf p.walks j :: q.1) ((pairOf p.walks j).c + (pairOf p.walks j).w + q.2) := ⟨by omega, by simpa using hm, q.1, q.2, hx, rfl, rfl⟩
                  cases hb : b.bestN p rest c v j with
                  | none =>
                    rw [hb] at ha; simp only [Option.some.injEq, Prod.mk.injEq] at ha
                    obtain ⟨rfl, rfl⟩ := ha
                    exact ⟨j, Nat.lt_succ_self _, hN⟩
                  | some q' =>
                    rw [hb] at ha
                    simp only at ha
                    split at ha <;> simp only [Option.some.injEq, Prod.mk.injEq] at ha <;> obtain ⟨rfl, rfl⟩ := ha
                    · exact ⟨j, Nat.lt_succ_self _, hN⟩
                    · obtain ⟨j0, h1, h2⟩ := ihj (Nat.le_refl _) _ _ hb
                      exact ⟨j0, by omega, h2⟩
        obtain ⟨j0, hj0, hB0⟩ := hat
        split
        · exact ⟨j, pl, k, rfl, hB, .inr ⟨rfl, Nat.le_refl _⟩⟩
        · exact ⟨j0, pl', k', rfl, hB0, by omega⟩
theorem pair_lt {W : Int} (hW : 0 ≤ W) {i j : Nat} (h : i < j) : (pairOf W i).c < (pairOf W j).c ∨ ((pairOf W i).c = (pairOf W j).c ∧ (pairOf W i).w < (pairOf W j).w) := by
  have e1 := Int.emod_add_mul_ediv (i : Int) (W + 1)
  have e2 := Int.emod_add_mul_ediv (j : Int) (W + 1)
  have b1 := Int.emod_lt_of_pos (i : Int) (show 0 < W + 1 by omega)
  have b2 := Int.emod_lt_of_pos (j : Int) (show 0 < W + 1 by omega)
  have b3 := Int.emod_nonneg (i : Int) (show W + 1 ≠ 0 by omega)
  have b4 := Int.emod_nonneg (j : Int) (show W + 1 ≠ 0 by omega)
  have hle : (i : Int) / (W + 1) ≤ (j : Int) / (W + 1) := Int.ediv_le_ediv (by omega) (by omega)
  simp only [pairOf, Int.tmod_eq_emod_of_nonneg (show (0 : Int) ≤ (i : Int) by omega), Int.tmod_eq_emod_of_nonneg (show (0 : Int) ≤ (j : Int) by omega)]
  rcases Int.lt_or_eq_of_le hle with h1 | h1
  · exact .inl h1
  · refine .inr ⟨h1, ?_⟩
    rw [h1] at e1
    omega
/-- NO PLAN THAT IS ENOUGH HAS FEWER WALKS, OR AS MANY AND STANDS BEFORE IT. -/
theorem best_min {b : Book} : ∀ (ps : List Part), (∀ p ∈ ps, 0 ≤ p.walks) → ∀ (c v : Int) (q : List Walks), b.good ps q c v = true → ∃ pl k, b.best ps c v = some (pl, k) ∧ (k < sumW q ∨ (k = sumW q ∧ beforeL (rowL q) (rowL pl) = false)) := by
  intro ps
  induction ps with
  | nil =>
    intro _ c v q h
    cases q with
    | nil => exact ⟨[], 0, rfl, .inr ⟨rfl, rfl⟩⟩
    | cons y q => cases h
  | cons p ps ih =>
    intro hw c v q h
    have hp := hw p (by simp)
    have ih := ih (fun x hx => hw x (by simp [hx]))
    cases q with
    | nil => cases h
    | cons y q =>
      simp only [Book.good, Bool.and_eq_true, Bool.not_eq_true'] at h
      obtain ⟨h1, h2, h3⟩ := h
      have hy := okWalks_iff.1 h1
      obtain ⟨pl1, k1, h4, h5⟩ := ih _ _ q h3
      obtain ⟨j, hj, he⟩ := pair_at (W := p.walks) hp (x := y.c) (y := y.w) hy.1 hy.2.2.1 (by omega)
      have he' : pairOf p.walks j = y := by rw [he]
      have hB : BestAt b p (b.best ps) c v j (y :: pl1) (y.c + y.w + k1) := by
        refine ⟨by rw [he']; omega, by rw [he']; exact h2, pl1, k1, by rw [he']; exact h4, by rw [he'], by rw [he']⟩
      obtain ⟨j0, pl0, k0, h6, h7, h8⟩ := bestN_min (rounds p) j _ _ hj hB
      refine ⟨pl0, k0, h6, ?_⟩
      simp only [sumW]
      rcases h8 with h8 | ⟨h8, h9⟩
      · exact .inl (by omega)
      · rcases h5 with h5 | ⟨h5, h10⟩
        · exact .inl (by omega)
        · refine .inr ⟨by omega, ?_⟩
          obtain ⟨-, -, pl2, k2, h11, rfl, -⟩ := h7
          rcases Nat.lt_or_eq_of_le h9 with h12 | h12
          · have h13 := pair_lt hp h12
            rw [he'] at h13
            simp only [rowL, beforeL]
            split
            · rename_i e
              split
              · rename_i e2; omega
              · simp; omega
            · simp; omega
          · subst h12
            rw [he'] at h11 ⊢
            rw [h4] at h11
            simp only [Option.some.injEq, Prod.mk.injEq] at h11
            rw [← h11.1]
            simp only [rowL, beforeL, if_true]
            exact h10
/-! ### What is left, and what is good -/
theorem good_drop {b : Book} {plan : List Walks} (hpl : b.isPlan plan = true) : ∀ (d i : Nat), i + d = b.parts.length → (b.good (b.parts.drop i) (plan.drop i) (b.run false plan i).1 (b.run false plan i).2 = true ↔ ∀ j, i ≤ j → j < plan.length → b.mayAt plan j = false) := by
  have hlen := isPlan_len hpl
  intro d
  induction d with
  | zero =>
    intro i h
    rw [List.drop_eq_nil_of_le (by omega), List.drop_eq_nil_of_le (by omega)]
    exact ⟨fun _ j h1 h2 => by omega, fun _ => rfl⟩
  | succ d ih =>
    intro i h
    have hi : i < b.parts.length := by omega
    have hx : b.parts[i]? = some b.parts[i] := List.getElem?_eq_getElem hi
    have hy : plan[i]? = some plan[i] := List.getElem?_eq_getElem (by omega)
    have ih := ih (i + 1) (by omega)
    rw [Book.run_succ hx hy] at ih
    rw [List.drop_eq_getElem_cons hi, List.drop_eq_getElem_cons (show i < plan.length by omega)]
    simp only [Book.good, Bool.and_eq_true, Bool.not_eq_true', ih]
    have hm : b.mayAt plan i = b.may b.parts[i] (b.afterC false b.parts[i] plan[i].c (b.run false plan i).1) (b.afterW false b.parts[i] plan[i].w (b.run false plan i).2) := by
      simp only [Book.mayAt, hx, Book.run_succ hx hy]
    rw [← hm]
    constructor
    · rintro ⟨-, h1, h2⟩ j hj1 hj2
      rcases Nat.eq_or_lt_of_le hj1 with e | e
      · subst e; exact h1
      · exact h2 j e hj2
    · intro h1
      exact ⟨isPlan_ok hpl hx hy, h1 i (Nat.le_refl _) (by omega), fun j hj1 hj2 => h1 j (by omega) hj2⟩
theorem failsI_good {b : Book} {plan : List Walks} (hpl : b.isPlan plan = true) : b.failsI plan < 0 ↔ b.good b.parts plan b.coal.lo b.water.lo = true := by
  have h := good_drop hpl b.parts.length 0 (by omega)
  simp only [List.drop_zero] at h
  have e : (b.run false plan 0) = (b.coal.lo, b.water.lo) := rfl
  rw [e] at h
  rw [h, Book.failsI]
  constructor
  · intro h1 j _ h2; exact first_none h1 (Nat.zero_le _) (by omega)
  · intro h1
    rcases Int.lt_or_le (first (b.mayAt plan) plan.length 0) 0 with h2 | h2
    · exact h2
    · obtain ⟨j, h3, h4, h5⟩ := (first_iff _ _).1 h2
      rw [h1 j (Nat.zero_le _) (by omega)] at h5; cases h5
theorem failsR_good {b : Book} (hok : b.ok = true) {plan : List Walks} (h : b.good b.parts plan b.coal.lo b.water.lo = true) : b.failsR plan = (0, 4) := by
  have hpl := good_isPlan h
  unfold Book.failsR
  rw [if_pos hok, if_pos hpl, if_pos ((failsI_good hpl).2 h)]
theorem failsR_bad {b : Book} (hok : b.ok = true) {plan : List Walks} (hpl : b.isPlan plan = true) (h : b.good b.parts plan b.coal.lo b.water.lo = false) : (b.failsR plan).2 = 0 := by
  unfold Book.failsR
  rw [if_pos hok, if_pos hpl, if_neg (fun h1 => by rw [(failsI_good hpl).1 h1] at h; cases h)]
theorem planR_none {b : Book} (hok : b.ok = true) {e : Int} (h : b.planR = (none, e)) : e = 4 ∧ ∀ q, b.good b.parts q b.coal.lo b.water.lo = false := by
  have hb := ok_bd hok
  unfold Book.planR at h
  rw [if_pos hok] at h
  cases hbest : b.best b.parts b.coal.lo b.water.lo with
  | none =>
    rw [hbest] at h
    simp only [Prod.mk.injEq, true_and] at h
    refine ⟨h.symm, fun q => ?_⟩
    cases hg : b.good b.parts q b.coal.lo b.water.lo with
    | false => rfl
    | true =>
      obtain ⟨pl, k, h1, -⟩ := best_min _ (bd_walks hb) _ _ _ hg
      rw [hbest] at h1; cases h1
  | some q => rw [hbest] at h; cases h
theorem planR_some {b : Book} (hok : b.ok = true) {pl : List Walks} {e : Int} (h : b.planR = (some pl, e)) : e = 0 ∧ b.good b.parts pl b.coal.lo b.water.lo = true ∧ ∀ q, b.good b.parts q b.coal.lo b.water.lo = true → sumW pl < sumW q ∨ (sumW pl = sumW q ∧ beforeL (rowL q) (rowL pl) = false) := by
  have hb := ok_bd hok
  unfold Book.planR at h
  rw [if_pos hok] at h
  cases hbest : b.best b.parts b.coal.lo b.water.lo with
  | none => rw [hbest] at h; cases h
  | some r =>
    obtain ⟨pl0, k⟩ := r
    rw [hbest] at h
    simp only [Prod.mk.injEq, Option.some.injEq] at h
    obtain ⟨rfl, h⟩ := h
    have h1 := best_good _ (bd_walks hb) _ _ _ _ hbest
    refine ⟨h.symm, h1.1, fun q hq => ?_⟩
    obtain ⟨pl2, k2, h2, h3⟩ := best_min _ (bd_walks hb) _ _ _ hq
    rw [hbest] at h2
    simp only [Option.some.injEq, Prod.mk.injEq] at h2
    obtain ⟨rfl, rfl⟩ := h2
    rw [← h1.2]; exact h3
/-- More walks are never worse, nor is an easier evening. -/
def Yz (y z : Walks) : Prop := y.c ≤ z.c ∧ y.w ≤ z.w
theorem good_ez {d b : Book} (h : Ez d b) (hd : Nz d) (hb : Nz b) : ∀ (ps qs : List Part), All2 Pz ps qs → (∀ p ∈ ps, 0 ≤ p.mi.hi) → ∀ (ys zs : List Walks), All2 Yz ys zs → (zs.zip ps).all (fun q => okWalks q.2 q.1) = true → ∀ (c c' v v' : Int), c ≤ c' → v ≤ v' → b.good qs ys c v = true → d.good ps zs c' v' = true := by
  intro ps qs hf
  induction hf with
  | nil =>
    intro _ ys zs hyz _ c c' v v' _ _ hg
    cases hyz with
    | nil => rfl
    | cons _ _ => cases hg
  | @cons p q ps qs hp hf ih =>
    intro hm ys zs hyz hall c c' v v' hc hv hg
    cases hyz with
    | nil => cases hg
    | @cons y z ys zs h1 h2 =>
      simp only [List.zip_cons_cons, List.all_cons, Bool.and_eq_true] at hall
      simp only [Book.good, Bool.and_eq_true, Bool.not_eq_true'] at hg ⊢
      have hy := okWalks_iff.1 hg.1
      have k1 := afterC_ez h hp hy.1 h1.1 hd.scoop hc (hm p (by simp)) (hb.burn _)
      have k2 := afterW_ez h hp hy.2.2.1 h1.2 hd.pail hv (hm p (by simp)) (hb.drink _)
      exact ⟨hall.1, may_ez h hb.wk hp k1 k2 hg.2.1, ih (fun x hx => hm x (by simp [hx])) _ _ h2 hall.2 _ _ _ _ k1 k2 hg.2.2⟩
theorem yz_refl : ∀ l : List Walks, All2 Yz l l
  | [] => .nil
  | _ :: l => .cons ⟨Int.le_refl _, Int.le_refl _⟩ (yz_refl l)
theorem yz_set {z : Walks} : ∀ (l : List Walks) (k : Nat) {y : Walks}, l[k]? = some y → Yz y z → All2 Yz l (l.set k z)
  | [], _, _, h, _ => by simp at h
  | _ :: l, 0, _, h, hz => by simp only [List.getElem?_cons_zero, Option.some.injEq] at h; subst h; exact .cons hz (yz_refl l)
  | _ :: l, k + 1, _, h, hz => .cons ⟨Int.le_refl _, Int.le_refl _⟩ (yz_set l k (by simpa using h) hz)
theorem set_ok {l : List Walks} {ps : List Part} (hall : (l.zip ps).all (fun q => okWalks q.2 q.1) = true) {k : Nat} {p : Part} {z : Walks} (hp : ps[k]? = some p) (hz : okWalks p z = true) : ((l.set k z).zip ps).all (fun q => okWalks q.2 q.1) = true := by
  rw [List.all_eq_true] at hall ⊢
  rintro ⟨y, q⟩ hq
  obtain ⟨i, hi⟩ := List.mem_iff_getElem?.1 hq
  rw [List.getElem?_zip_eq_some] at hi
  by_cases e : k = i
  · subst e
    have h1 := hi.1
    rw [List.getElem?_set] at h1
    simp only [if_true] at h1
    split at h1
    · simp only [Option.some.injEq] at h1
      have h2 := hi.2
      rw [hp] at h2
      simp only [Option.some.injEq] at h2
      subst h1 h2; exact hz
    · cases h1
  · have h1 := hi.1
    rw [List.getElem?_set_ne e] at h1
    exact hall (y, q) (List.mem_of_getElem? (List.getElem?_zip_eq_some.2 ⟨h1, hi.2⟩))
theorem good_more {b : Book} (hb : Bd b) {pl : List Walks} (h : b.good b.parts pl b.coal.lo b.water.lo = true) {k : Nat} {y z : Walks} {p : Part} (hy : pl[k]? = some y) (hp : b.parts[k]? = some p) (hz : Yz y z) (hok : okWalks p z = true) :
    b.good b.parts (pl.set k z) b.coal.lo b.water.lo = true :=
  good_ez (Ez.refl b) hb.nz hb.nz _ _ (pz_refl _) (bd_hi hb) _ _ (yz_set pl k hy hz) (set_ok (good_ok _ _ _ _ h) hp hok) _ _ _ _ (Int.le_refl _) (Int.le_refl _) h
end Go.Eng
