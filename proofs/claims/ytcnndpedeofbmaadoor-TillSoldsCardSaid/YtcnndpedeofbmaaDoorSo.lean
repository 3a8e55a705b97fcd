/-
  REGIONS THAT DRAW THEIR ORDER, and in whose head stores into one block stand, each behind the one before it.
-/
import Derived.Test.YtcnndpedeofbmaaDoorSx
set_option maxRecDepth 100000
namespace Go.Sx
open Go
section
variable {N : Nat} {D : List Deferred} {M : List Nat} {w0 : World} {P : Program} {r : Option Nat} {Q : Exit → Act → World → Prop}
theorem Sx.perm {T : List (Nat × Value)} {B B' : List (Nat × Option Obj)} {a : Act} {w : World} (hp : B'.Perm B) (hs : Sx N D T B M w0 a w) : Sx N D T B' M w0 a w :=
  ⟨hs.size, hs.defers, hs.tmp, fun p h => hs.blk p (hp.mem_iff.1 h),
    (hp.symm.pairwise_iff (fun {x y} h => by rcases h with h | h | h; exact .inr (.inl h); exact .inl h; exact .inr (.inr (fun e => h e.symm)))).1 hs.apart, hs.kp⟩
def dropAt {α : Type} : List α → Nat → List α
  | [], _ => []
  | _ :: l, 0 => l
  | x :: l, n + 1 => x :: dropAt l n
theorem dropAt_perm {α : Type} {x : α} : ∀ {l : List α} {i : Nat}, nth l i = some x → (x :: dropAt l i).Perm l := by
  intro l
  induction l with
  | nil => intro i h; cases h
  | cons y l ih =>
    intro i h
    cases i with
    | zero => simp only [nth, Option.some.injEq] at h; subst h; exact List.Perm.refl _
    | succ i => exact (List.Perm.swap _ _ _).trans ((ih h).cons _)
/-- A block is set to the front. -/
theorem Sx.front {T : List (Nat × Value)} {B : List (Nat × Option Obj)} {a : Act} {w : World} (hs : Sx N D T B M w0 a w) (i : Nat) {p : Nat × Option Obj} (h : nth B i = some p) : Sx N D T (p :: dropAt B i) M w0 a w :=
  hs.perm (dropAt_perm h)
/-- What is told when so many of the special operations are done: x is what the run chose. -/
structure Spec where
  X : Type
  T : Nat → X → List (Nat × Value)
  B : Nat → X → List (Nat × Option Obj)
def isS (sp : List Nat) (j : Nat) : Bool := sp.any (fun i => Nat.beq i j)
def rank (sp : List Nat) (k : Nat) : Nat := ((List.range k).filter (isS sp)).length
/-- What a special operation must show. -/
def ObS (N : Nat) (D : List Deferred) (M : List Nat) (w0 : World) (P : Program) (r : Option Nat) (Q : Exit → Act → World → Prop) (ops : Array Oper) (Φ : List Op1) (T0 : List (Nat × Value)) (B0 : List (Nat × Option Obj)) (S : Spec) (n k : Nat) (e : Op1) : Prop :=
  ∀ (T : List (Nat × Value)) (B : List (Nat × Option Obj)) (a : Act) (w : World) (K : Act → World → Prop) (x : S.X), (∀ p ∈ T0, p ∈ T) → (∀ p ∈ B0, p ∈ B) →
    Deps Φ T B e.nd (fresh e.d T = true → Sx N D (S.T n x ++ T) (S.B n x ++ B) M w0 a w → (∀ x' a' w', Sx N D (S.T (n + 1) x' ++ T) (S.B (n + 1) x' ++ B) M w0 a' w' → K a' w') → wpOpIn (Fx r) 0 P ops Q k K a w)
def ObsS (N : Nat) (D : List Deferred) (M : List Nat) (w0 : World) (P : Program) (r : Option Nat) (Q : Exit → Act → World → Prop) (ops : Array Oper) (Φ : List Op1) (T0 : List (Nat × Value)) (B0 : List (Nat × Option Obj)) (sp : List Nat) (S : Spec) : Nat → Nat → List Op1 → Prop
  | _, _, [] => True
  | n, k, e :: l => match isS sp k with
    | false => Ob N D M w0 P r Q ops Φ T0 B0 k e ∧ ObsS N D M w0 P r Q ops Φ T0 B0 sp S n (k + 1) l
    | true => ObS N D M w0 P r Q ops Φ T0 B0 S n k e ∧ ObsS N D M w0 P r Q ops Φ T0 B0 sp S (n + 1) (k + 1) l
def EachS (sp : List Nat) : Nat → List Op1 → (List (Nat × Value) → List (Nat × Option Obj) → Prop) → Prop
  | _, [], C => C [] []
  | k, e :: l, C => match isS sp k with
    | false => ∀ v bs, e.φ v bs → EachS sp (k + 1) l (fun T B => C ((e.d, v) :: T) (bs ++ B))
    | true => EachS sp (k + 1) l C
def headS (ops : Array Oper) (sp : List Nat) (T0 : List (Nat × Value)) : List Nat → Nat → List Op1 → Bool
  | _, _, [] => true
  | pre, k, e :: l => ((ops[k]?).map (fun o => o.after.all (fun x => !Region.binds .any x || Nat.blt x.on k))).getD false && e.nd.all (fun j => edge ops k j && !isS sp j) && l.all (fun e' => !Nat.beq e.d e'.d) && fresh e.d T0 &&
    match isS sp k with
    | false => headS ops sp T0 pre (k + 1) l
    | true => (pre.head?.map (fun j => edge ops k j)).getD true && headS ops sp T0 (k :: pre) (k + 1) l
structure HeadSt (ops : Array Oper) (sp : List Nat) (T0 : List (Nat × Value)) (k : Nat) (e : Op1) : Prop where
  op : ∃ o, ops[k]? = some o ∧ ∀ x ∈ o.after, Region.binds .any x = true → x.on < k
  nd : ∀ j ∈ e.nd, edge ops k j = true ∧ isS sp j = false
  fr : fresh e.d T0 = true
theorem headS_nth {ops : Array Oper} {sp : List Nat} {T0 : List (Nat × Value)} : ∀ {l : List Op1} {pre : List Nat} {k j : Nat} {e : Op1}, headS ops sp T0 pre k l = true → nth l j = some e → HeadSt ops sp T0 (k + j) e := by
  intro l
  induction l with
  | nil => intro pre k j e _ h; cases h
  | cons x l ih =>
    intro pre k j e h hj
    simp only [headS, Bool.and_eq_true] at h
    obtain ⟨⟨⟨⟨h3, h4⟩, _⟩, h5⟩, h6⟩ := h
    cases j with
    | zero =>
      simp only [nth, Option.some.injEq] at hj
      subst hj
      refine ⟨?_, ?_, ?_⟩
      · cases ho : ops[k]? with
        | none => rw [ho] at h3; cases h3
        | some o =>
          rw [ho] at h3
          simp only [Option.map_some, Option.getD_some, Array.all_eq_true_iff_forall_mem] at h3
          refine ⟨o, rfl, fun y hy hb => ?_⟩
          have := h3 y hy
          rw [hb] at this
          simpa using this
      · intro j hj
        have := List.all_eq_true.1 h4 j hj
        simpa using this
      · exact h5
    | succ j =>
      rw [show k + (j + 1) = k + 1 + j from by omega]
      cases hb : isS sp k with
      | false => rw [hb] at h6; exact ih h6 hj
      | true => rw [hb] at h6; simp only [Bool.and_eq_true] at h6; exact ih h6.2 hj
theorem headS_ne {ops : Array Oper} {sp : List Nat} {T0 : List (Nat × Value)} : ∀ {l : List Op1} {pre : List Nat} {k i j : Nat} {e e' : Op1}, headS ops sp T0 pre k l = true → nth l i = some e → nth l j = some e' → i < j → e.d ≠ e'.d := by
  intro l
  induction l with
  | nil => intro pre k i j e e' _ h; cases h
  | cons x l ih =>
    intro pre k i j e e' h hi hj hlt
    simp only [headS, Bool.and_eq_true] at h
    obtain ⟨⟨⟨_, h5⟩, _⟩, h6⟩ := h
    cases j with
    | zero => omega
    | succ j => cases i with
      | zero =>
        simp only [nth, Option.some.injEq] at hi
        subst hi
        simp only [List.all_eq_true, Bool.not_eq_true'] at h5
        have := h5 e' (mem_nth hj)
        intro he
        rw [he] at this
        simp at this
      | succ i =>
        cases hb : isS sp k with
        | false => rw [hb] at h6; exact ih h6 hi hj (by omega)
        | true => rw [hb] at h6; simp only [Bool.and_eq_true] at h6; exact ih h6.2 hi hj (by omega)
theorem last_sp {f : Nat → Bool} {a : Nat} (ha : f a = true) : ∀ b, a < b → ∃ p, a ≤ p ∧ p < b ∧ f p = true ∧ ∀ m, p < m → m < b → f m = false := by
  intro b
  induction b with
  | zero => intro h; omega
  | succ b ih =>
    intro h
    cases hf : f b with
    | true => exact ⟨b, by omega, by omega, hf, fun m h1 h2 => by omega⟩
    | false =>
      have hne : a ≠ b := fun e => by rw [e, hf] at ha; cases ha
      obtain ⟨p, h1, h2, h3, h4⟩ := ih (by omega)
      refine ⟨p, h1, by omega, h3, fun m hm1 hm2 => ?_⟩
      rcases Nat.lt_or_ge m b with h5 | h5
      · exact h4 m hm1 h5
      · rw [show m = b by omega]; exact hf
/-- A special operation stands behind the last of those before it. -/
theorem headS_st {ops : Array Oper} {sp : List Nat} {T0 : List (Nat × Value)} : ∀ {l : List Op1} {pre : List Nat} {k j : Nat} {e : Op1}, headS ops sp T0 pre k l = true → nth l j = some e → isS sp (k + j) = true →
    (∀ i, pre.head? = some i → (∀ m, m < j → isS sp (k + m) = false) → edge ops (k + j) i = true) ∧ ∀ i, i < j → isS sp (k + i) = true → (∀ m, i < m → m < j → isS sp (k + m) = false) → edge ops (k + j) (k + i) = true := by
  intro l
  induction l with
  | nil => intro pre k j e _ h; cases h
  | cons x l ih =>
    intro pre k j e h hj hst
    simp only [headS, Bool.and_eq_true] at h
    obtain ⟨⟨⟨_, h5⟩, _⟩, h6⟩ := h
    cases j with
    | zero =>
      rw [Nat.add_zero] at hst
      rw [hst] at h6
      simp only [Bool.and_eq_true] at h6
      refine ⟨fun i hi _ => ?_, fun i hi _ => by omega⟩
      have h7 := h6.1
      rw [hi] at h7
      exact h7
    | succ j =>
      rw [show k + (j + 1) = k + 1 + j from by omega] at hst ⊢
      have sh : ∀ m, k + (m + 1) = k + 1 + m := fun m => by omega
      cases hb : isS sp k with
      | false =>
        rw [hb] at h6
        have := ih h6 hj hst
        refine ⟨fun i hi h => this.1 i hi (fun m hm => by rw [← sh]; exact h (m + 1) (by omega)), fun i hi hn h => ?_⟩
        cases i with
        | zero => rw [Nat.add_zero] at hn; rw [hn] at hb; cases hb
        | succ i => rw [sh i] at hn ⊢; exact this.2 i (by omega) hn (fun m h1 h2 => by rw [← sh]; exact h (m + 1) (by omega) (by omega))
      | true =>
        rw [hb] at h6; simp only [Bool.and_eq_true] at h6
        have := ih h6.2 hj hst
        refine ⟨fun i _ h => ?_, fun i hi hn h => ?_⟩
        · have := h 0 (by omega)
          rw [Nat.add_zero, hb] at this; cases this
        · cases i with
          | zero => exact this.1 k rfl (fun m hm => by rw [← sh]; exact h (m + 1) (by omega) (by omega))
          | succ i => rw [sh i] at hn ⊢; exact this.2 i (by omega) hn (fun m h1 h2 => by rw [← sh]; exact h (m + 1) (by omega) (by omega))
/-- How many of the special operations stand from k on, before k + j. -/
def rankF (sp : List Nat) (k j : Nat) : Nat := ((List.range' k j).filter (isS sp)).length
theorem obsS_nth {ops : Array Oper} {Φ0 : List Op1} {T0 : List (Nat × Value)} {B0 : List (Nat × Option Obj)} {sp : List Nat} {S : Spec} : ∀ {l : List Op1} {n k j : Nat} {e : Op1}, ObsS N D M w0 P r Q ops Φ0 T0 B0 sp S n k l → nth l j = some e →
    (isS sp (k + j) = false → Ob N D M w0 P r Q ops Φ0 T0 B0 (k + j) e) ∧ (isS sp (k + j) = true → ObS N D M w0 P r Q ops Φ0 T0 B0 S (n + rankF sp k j) (k + j) e) := by
  intro l
  induction l with
  | nil => intro n k j e _ h; cases h
  | cons x l ih =>
    intro n k j e h hj
    cases hb : isS sp k with
    | false =>
      simp only [ObsS, hb] at h
      cases j with
      | zero =>
        simp only [nth, Option.some.injEq] at hj; subst hj
        exact ⟨fun _ => h.1, fun hs => by rw [Nat.add_zero, hb] at hs; cases hs⟩
      | succ j =>
        have hr : rankF sp k (j + 1) = rankF sp (k + 1) j := by simp [rankF, List.range'_succ, hb]
        rw [show k + (j + 1) = k + 1 + j from by omega, hr]; exact ih h.2 hj
    | true =>
      simp only [ObsS, hb] at h
      cases j with
      | zero =>
        simp only [nth, Option.some.injEq] at hj; subst hj
        exact ⟨fun hx => (by rw [Nat.add_zero, hb] at hx; cases hx), fun _ => by simpa [rankF] using h.1⟩
      | succ j =>
        have hr : n + rankF sp k (j + 1) = n + 1 + rankF sp (k + 1) j := by simp [rankF, List.range'_succ, hb]; omega
        rw [show k + (j + 1) = k + 1 + j from by omega, hr]; exact ih h.2 hj
def outTS (sp : List Nat) (ρ : Nat → Value × List (Nat × Option Obj)) : Nat → List Op1 → List (Nat × Value)
  | _, [] => []
  | k, e :: l => match isS sp k with
    | false => (e.d, (ρ k).1) :: outTS sp ρ (k + 1) l
    | true => outTS sp ρ (k + 1) l
def outBS (sp : List Nat) (ρ : Nat → Value × List (Nat × Option Obj)) : Nat → List Op1 → List (Nat × Option Obj)
  | _, [] => []
  | k, _ :: l => match isS sp k with
    | false => (ρ k).2 ++ outBS sp ρ (k + 1) l
    | true => outBS sp ρ (k + 1) l
theorem eachS_use {sp : List Nat} (ρ : Nat → Value × List (Nat × Option Obj)) : ∀ {Φ : List Op1} {k : Nat} {C : List (Nat × Value) → List (Nat × Option Obj) → Prop}, EachS sp k Φ C →
    (∀ j e, nth Φ j = some e → isS sp (k + j) = false → e.φ (ρ (k + j)).1 (ρ (k + j)).2) → C (outTS sp ρ k Φ) (outBS sp ρ k Φ) := by
  intro Φ
  induction Φ with
  | nil => intro k C h _; exact h
  | cons e l ih =>
    intro k C h hφ
    have hr : ∀ j e', nth l j = some e' → isS sp (k + 1 + j) = false → e'.φ (ρ (k + 1 + j)).1 (ρ (k + 1 + j)).2 := fun j e' hj hb => by
      rw [show k + 1 + j = k + (j + 1) from by omega] at hb ⊢; exact hφ (j + 1) e' hj hb
    cases hb : isS sp k with
    | false =>
      simp only [EachS, hb] at h
      simp only [outTS, outBS, hb]
      exact ih (k := k + 1) (h _ _ (hφ 0 e rfl hb)) hr
    | true =>
      simp only [EachS, hb] at h
      simp only [outTS, outBS, hb]
      exact ih (k := k + 1) h hr
theorem outTS_mem {sp : List Nat} (ρ : Nat → Value × List (Nat × Option Obj)) : ∀ {Φ : List Op1} {k : Nat} {p : Nat × Value}, p ∈ outTS sp ρ k Φ → ∃ j e, nth Φ j = some e ∧ isS sp (k + j) = false ∧ p = (e.d, (ρ (k + j)).1) := by
  intro Φ
  induction Φ with
  | nil => intro k p hp; cases hp
  | cons e l ih =>
    intro k p hp
    have next : p ∈ outTS sp ρ (k + 1) l → ∃ j e', nth (e :: l) j = some e' ∧ isS sp (k + j) = false ∧ p = (e'.d, (ρ (k + j)).1) := fun h => by
      obtain ⟨j, e', h1, h2, h3⟩ := ih h
      exact ⟨j + 1, e', h1, by rw [show k + (j + 1) = k + 1 + j from by omega]; exact h2, by rw [h3, show k + 1 + j = k + (j + 1) from by omega]⟩
    cases hb : isS sp k with
    | false =>
      simp only [outTS, hb] at hp
      rcases List.mem_cons.1 hp with rfl | hp
      · exact ⟨0, e, rfl, hb, rfl⟩
      · exact next hp
    | true =>
      simp only [outTS, hb] at hp
      exact next hp
/-- The blocks of an operation that is listed: none of a special one. -/
def bsOf (sp : List Nat) (x : Nat × Value × List (Nat × Option Obj)) : List (Nat × Option Obj) := bif isS sp x.1 then [] else x.2.2
theorem outBS_range {sp : List Nat} (ρ : Nat → Value × List (Nat × Option Obj)) : ∀ (Ψ : List Op1) (k : Nat), outBS sp ρ k Ψ = (List.range' k Ψ.length).flatMap (fun j => bsOf sp (j, ρ j)) := by
  intro Ψ
  induction Ψ with
  | nil => intro k; rfl
  | cons e l ih =>
    intro k
    rw [List.length_cons, List.range'_succ, List.flatMap_cons, ← ih (k + 1)]
    simp only [bsOf, outBS]
    cases isS sp k <;> rfl
/-- How many of the listed are special. -/
def cnt (sp : List Nat) (L : List (Nat × Value × List (Nat × Option Obj))) : Nat := ((L.map (·.1)).filter (isS sp)).length
/-- What a listed operation tells of its place. -/
def tOf (sp : List Nat) (Φ : List Op1) (x : Nat × Value × List (Nat × Option Obj)) : Option (Nat × Value) := bif isS sp x.1 then none else (nth Φ x.1).map (fun e => (e.d, x.2.1))
/-- What the special ones tell is of their own places. -/
def Own1 (Φ : List Op1) (sp : List Nat) (S : Spec) : Prop := ∀ n x, (S.T n x).all (fun p => sp.any (fun j => ((nth Φ j).map (fun e => Nat.beq e.d p.1)).getD false)) = true
theorem headS_any {ops : Array Oper} {Φ : List Op1} {T0 : List (Nat × Value)} {B0 : List (Nat × Option Obj)} {sp : List Nat} {S : Spec} (hh : headS ops sp T0 [] 0 Φ = true) (hown : Own1 Φ sp S) (ht : tailOkP ops Φ.length = true)
    (ho : ObsS N D M w0 P r Q ops Φ T0 B0 sp S 0 0 Φ)
    (k : EachS sp 0 Φ (fun T B => ∀ x a' w', Sx N D (S.T (rank sp Φ.length) x ++ (T ++ T0)) (S.B (rank sp Φ.length) x ++ (B ++ B0)) M w0 a' w' → tailWp P r Q ops (ops.size - Φ.length) Φ.length a' w')) :
    ∀ (U : List Nat) (u : Nat) (L : List (Nat × Value × List (Nat × Option Obj))) (listed : Array Bool) (a : Act) (w : World) (x : S.X), U.length = u →
      (L.map (·.1) ++ U).Perm (List.range' 0 Φ.length) → (∀ x ∈ L, ∃ e, nth Φ x.1 = some e ∧ (isS sp x.1 = false → e.φ x.2.1 x.2.2)) →
      Sx N D (S.T (cnt sp L) x ++ (L.filterMap (tOf sp Φ) ++ T0)) (S.B (cnt sp L) x ++ (L.flatMap (bsOf sp) ++ B0)) M w0 a w →
      listed.size = ops.size → (∀ j, j < ops.size → (listed.getD j true = true ↔ j ∈ L.map (·.1))) → (∀ k j, listed.getD k true = true → k < ops.size → edge ops k j = true → listed.getD j false = true) →
      (∀ j ∈ L.map (·.1), isS sp j = true → ∀ i, i < j → isS sp i = true → i ∈ L.map (·.1)) →
      wpAnyIn (Fx r) 0 P .any ops Q (u + (ops.size - Φ.length)) listed a w := by
  have hmn : Φ.length ≤ ops.size := by
    simp only [tailOkP, Bool.and_eq_true] at ht
    exact Nat.le_of_ble_eq_true ht.1
  intro U u
  induction u generalizing U with
  | zero =>
    intro L listed a w xs hU hp hφ hs hsz hl hcl hst
    clear hst hcl
    have hU' : U = [] := List.eq_nil_of_length_eq_zero hU
    subst hU'
    rw [List.append_nil] at hp
    have hnd : (L.map (·.1)).Nodup := hp.nodup_iff.2 (List.nodup_range' ..)
    have hlisted : listed = upto Φ.length ops.size := by
      apply Array.ext_getElem?
      intro i
      by_cases hi : i < ops.size
      · rw [upto_get _ _ _ hi]
        have h1 := hl i hi
        have h2 : i ∈ L.map (·.1) ↔ i < Φ.length := by rw [hp.mem_iff]; simp [List.mem_range']
        have hi' : i < listed.size := by omega
        rw [Array.getD_eq_getD_getElem?, Array.getElem?_eq_getElem hi', Option.getD_some, h2] at h1
        rw [Array.getElem?_eq_getElem hi']
        congr 1
        rw [Bool.eq_iff_iff, h1]
        simp [Nat.blt_eq]
      · rw [Array.getElem?_eq_none (by omega), Array.getElem?_eq_none (by rw [upto_size]; omega)]
    rw [hlisted, Nat.zero_add]
    refine tail_anyP ht _ _ _ a w (Nat.le_refl _) (Nat.le_refl _) (by omega) ?_
    let ρ : Nat → Value × List (Nat × Option Obj) := fun j => ((L.find? (fun x => x.1 == j)).map (·.2)).getD (undef, [])
    have hρ : ∀ x ∈ L, ρ x.1 = x.2 := by
      intro x hx
      have : L.find? (fun y => y.1 == x.1) = some x := by
        clear hs hl hlisted hp hφ
        induction L with
        | nil => cases hx
        | cons y L ih =>
          simp only [List.map_cons, List.nodup_cons] at hnd
          rcases List.mem_cons.1 hx with rfl | hx
          · simp
          · have hne : y.1 ≠ x.1 := fun e => hnd.1 (by rw [e]; exact List.mem_map_of_mem hx)
            rw [List.find?_cons_of_neg (by simpa using hne)]
            exact ih hnd.2 hx
      simp only [ρ, this, Option.map_some, Option.getD_some]
    have hall : ∀ j e, nth Φ j = some e → ∃ x ∈ L, x.1 = j := by
      intro j e hj
      have hjl := nth_lt hj
      have : j ∈ L.map (·.1) := hp.mem_iff.2 (by simp [List.mem_range', hjl])
      obtain ⟨x, hx, rfl⟩ := List.mem_map.1 this
      exact ⟨x, hx, rfl⟩
    have hfin := eachS_use ρ (k := 0) k (fun j e hj hb => by
      obtain ⟨x, hx, rfl⟩ := hall j e hj
      obtain ⟨e', he', hφ'⟩ := hφ x hx
      rw [hj] at he'
      simp only [Option.some.injEq] at he'
      subst he'
      rw [Nat.zero_add] at hb; rw [Nat.zero_add, hρ x hx]; exact hφ' hb)
    have hcnt : cnt sp L = rank sp Φ.length := by
      rw [cnt, rank, List.range_eq_range']
      exact (hp.filter _).length_eq
    rw [hcnt] at hs
    refine hfin xs a w ?_
    refine Sx.perm ?_ (hs.tmps (T' := S.T (rank sp Φ.length) xs ++ (outTS sp ρ 0 Φ ++ T0)) ?_)
    · refine List.Perm.append_left _ (List.Perm.append_right _ ?_)
      rw [outBS_range ρ Φ 0]
      refine (List.Perm.flatMap_right _ hp.symm).trans ?_
      rw [List.flatMap_map]
      have hcong : ∀ l : List (Nat × Value × List (Nat × Option Obj)), (∀ x ∈ l, ρ x.1 = x.2) → l.flatMap (fun x => bsOf sp (x.1, ρ x.1)) = l.flatMap (bsOf sp) := by
        intro l
        induction l with
        | nil => intro _; rfl
        | cons y l ih => intro h; simp only [List.flatMap_cons]; rw [h y (by simp), ih (fun x hx => h x (by simp [hx]))]
      rw [hcong L hρ]
    · intro p hp'
      rcases List.mem_append.1 hp' with hp' | hp'
      · exact List.mem_append_left _ hp'
      rcases List.mem_append.1 hp' with hp' | hp'
      · obtain ⟨j, e, hj, hb, rfl⟩ := outTS_mem ρ hp'
        obtain ⟨x, hx, rfl⟩ := hall j e hj
        rw [Nat.zero_add] at hb
        refine List.mem_append_right _ (List.mem_append_left _ (List.mem_filterMap.2 ⟨x, hx, ?_⟩))
        rw [tOf, hj, Nat.zero_add, hρ x hx, hb]; rfl
      · exact List.mem_append_right _ (List.mem_append_right _ hp')
  | succ u ih =>
    intro L listed a w xs hU hp hφ hs hsz hl hcl hst
    have hUne : U ≠ [] := by intro e; rw [e] at hU; simp at hU
    have hmem : ∀ j, j < Φ.length → j ∈ L.map (·.1) ∨ j ∈ U := fun j hj => by
      have : j ∈ L.map (·.1) ++ U := hp.mem_iff.2 (by simp [List.mem_range', hj])
      exact List.mem_append.1 this
    have hUlt : ∀ j ∈ U, j < Φ.length := fun j hj => by
      have : j ∈ List.range' 0 Φ.length := hp.mem_iff.1 (List.mem_append_right _ hj)
      simpa [List.mem_range'] using this
    have hnd : (L.map (·.1) ++ U).Nodup := hp.nodup_iff.2 (List.nodup_range' ..)
    have hdis : ∀ j ∈ U, j ∉ L.map (·.1) := fun j hj hx => (List.nodup_append.1 hnd).2.2 j hx j hj rfl
    rw [show u + 1 + (ops.size - Φ.length) = (u + (ops.size - Φ.length)) + 1 from by omega]
    refine ⟨fun hemp => ?_, fun i hi => ?_⟩
    · -- the least that is not listed is ready
      exfalso
      obtain ⟨i, hi, hmin⟩ := least hUne
      have hilt := hUlt i hi
      obtain ⟨e, he⟩ := nth_of_lt hilt
      have hat := headS_nth hh he
      rw [Nat.zero_add] at hat
      obtain ⟨o, hoi, hbe⟩ := hat.op
      have : i ∈ Region.ready .any ops listed := by
        simp only [Region.ready, List.mem_filter, List.mem_range, Bool.and_eq_true]
        refine ⟨by omega, ?_, ?_⟩
        · have := (hl i (by omega)).1
          cases hb : listed.getD i true with
          | false => rfl
          | true => exact absurd (this hb) (hdis i hi)
        · rw [hoi]
          simp only [Option.map_some, Option.getD_some, Array.all_eq_true_iff_forall_mem]
          intro x hx
          cases hb : Region.binds .any x with
          | false => rfl
          | true =>
            have hlt := hbe x hx hb
            have hxn : x.on < ops.size := by omega
            have hin : x.on ∈ L.map (·.1) := by
              rcases hmem x.on (by omega) with h | h
              · exact h
              · have := hmin _ h; omega
            have h1 := (hl x.on hxn).2 hin
            rw [Array.getD_eq_getD_getElem?, Array.getElem?_eq_getElem (by omega), Option.getD_some] at h1 ⊢
            simp [h1]
      rw [hemp] at this
      cases this
    · -- whichever is ready
      have hin : i < ops.size ∧ listed.getD i true = false := by
        simp only [Region.ready, List.mem_filter, List.mem_range, Bool.and_eq_true, Bool.not_eq_true'] at hi
        exact ⟨hi.1, hi.2.1⟩
      have hnl : i ∉ L.map (·.1) := fun h => by rw [(hl i hin.1).2 h] at hin; cases hin.2
      have hilt : i < Φ.length := by
        rcases Nat.lt_or_ge i Φ.length with h | h
        · exact h
        · exfalso
          simp only [tailOkP, Bool.and_eq_true, List.all_eq_true] at ht
          obtain ⟨j, hj⟩ : ∃ j, j ∈ U := List.exists_mem_of_ne_nil _ hUne
          have h1 := (ht.2 i (by simp only [List.mem_range']; exact ⟨i - Φ.length, by omega, by omega⟩)).1 j (by have := hUlt j hj; simp; omega)
          have h2 := reach_spec hcl _ _ _ (fun k hk => edge_spec hk hi) h1
          have hjn : j < ops.size := by have := hUlt j hj; omega
          refine hdis j hj ((hl j hjn).1 ?_)
          rw [Array.getD_eq_getD_getElem?, Array.getElem?_eq_getElem (by omega), Option.getD_some] at h2 ⊢
          exact h2
      have hiU : i ∈ U := (hmem i hilt).resolve_left hnl
      obtain ⟨e, he⟩ := nth_of_lt hilt
      have hat := headS_nth hh he
      have hob := obsS_nth ho he
      rw [Nat.zero_add] at hat
      rw [Nat.zero_add, Nat.zero_add] at hob
      obtain ⟨U1, U2, rfl⟩ := List.append_of_mem hiU
      have hedge : ∀ j, edge ops i j = true → j ∈ L.map (·.1) := fun j hj => by
        have h1 := edge_spec hj hi
        have hjn : j < ops.size := by
          rcases Nat.lt_or_ge j ops.size with h | h
          · exact h
          · rw [Array.getD_eq_getD_getElem?, Array.getElem?_eq_none (by omega)] at h1; cases h1
        refine (hl j hjn).1 ?_
        rw [Array.getD_eq_getD_getElem?, Array.getElem?_eq_getElem (by omega), Option.getD_some] at h1 ⊢
        exact h1
      have hdeps : ∀ j ∈ e.nd, ∃ e' v bs, nth Φ j = some e' ∧ e'.φ v bs ∧ (e'.d, v) ∈ L.filterMap (tOf sp Φ) ++ T0 ∧ ∀ p ∈ bs, p ∈ L.flatMap (bsOf sp) ++ B0 := by
        intro j hj
        obtain ⟨hje, hyb⟩ := hat.nd j hj
        obtain ⟨x, hx, rfl⟩ := List.mem_map.1 (hedge j hje)
        obtain ⟨y, hy, hφ'⟩ := hφ x hx
        exact ⟨y, x.2.1, x.2.2, hy, hφ' hyb, List.mem_append_left _ (List.mem_filterMap.2 ⟨x, hx, by rw [tOf, hy, hyb]; rfl⟩),
          fun p hp => List.mem_append_left _ (List.mem_flatMap.2 ⟨x, hx, by rw [bsOf, hyb]; exact hp⟩)⟩
      have hpn : ∀ v : Value, ∀ bs : List (Nat × Option Obj), (((i, v, bs) :: L).map (·.1) ++ (U1 ++ U2)).Perm (List.range' 0 Φ.length) := fun v bs => by
        refine List.Perm.trans ?_ hp
        simp only [List.map_cons, List.cons_append]
        rw [← List.append_assoc, ← List.append_assoc]
        exact List.perm_middle.symm
      have hln : ∀ v : Value, ∀ bs : List (Nat × Option Obj), ∀ j, j < ops.size → ((listed.setIfInBounds i true).getD j true = true ↔ j ∈ ((i, v, bs) :: L).map (·.1)) := by
        intro v bs j hj
        simp only [List.map_cons, List.mem_cons]
        by_cases hji : i = j
        · subst hji
          simp [Array.getD_eq_getD_getElem?, Array.getElem?_setIfInBounds_self_of_lt (show i < listed.size by omega)]
        · rw [Array.getD_eq_getD_getElem?, Array.getElem?_setIfInBounds_ne hji, ← Array.getD_eq_getD_getElem?, hl j hj]
          exact ⟨.inr, fun h => h.resolve_left (fun e => hji e.symm)⟩
      have hfr : fresh e.d (L.filterMap (tOf sp Φ) ++ T0) = true := by
        refine fresh_of (fun p hp' => ?_)
        rcases List.mem_append.1 hp' with hp' | hp'
        · obtain ⟨x, hx, hxe⟩ := List.mem_filterMap.1 hp'
          obtain ⟨e', he', _⟩ := hφ x hx
          cases hb' : isS sp x.1 with
          | true => rw [tOf, hb'] at hxe; cases hxe
          | false =>
            rw [tOf, hb', he'] at hxe
            simp only [cond_false, Option.map_some, Option.some.injEq] at hxe
            subst hxe
            have hne : x.1 ≠ i := fun e => hnl (by rw [← e]; exact List.mem_map_of_mem hx)
            rcases Nat.lt_or_gt_of_ne hne with h | h
            · exact headS_ne hh he' he h
            · exact fun e => headS_ne hh he he' h e.symm
        · exact fresh_ne hat.fr p hp'
      cases hb : isS sp i with
      | false =>
        have hfr' : fresh e.d (S.T (cnt sp L) xs ++ (L.filterMap (tOf sp Φ) ++ T0)) = true := by
          refine fresh_of (fun p hp' => ?_)
          rcases List.mem_append.1 hp' with hp' | hp'
          · have h1 := List.all_eq_true.1 (hown (cnt sp L) xs) p hp'
            obtain ⟨j, hj, hje⟩ := List.any_eq_true.1 h1
            cases hn : nth Φ j with
            | none => rw [hn] at hje; cases hje
            | some e' =>
              rw [hn] at hje
              have hd : e'.d = p.1 := Nat.eq_of_beq_eq_true hje
              rw [← hd]
              have hji : j ≠ i := fun e => by
                subst e
                have : isS sp j = true := List.any_eq_true.2 ⟨j, hj, by simp⟩
                rw [this] at hb; cases hb
              rcases Nat.lt_or_gt_of_ne hji with h | h
              · exact headS_ne hh hn he h
              · exact fun e => headS_ne hh he hn h e.symm
          · exact fresh_ne hfr p hp'
        have hob1 := hob.1 hb
        refine deps_use (hob1 (S.T (cnt sp L) xs ++ (L.filterMap (tOf sp Φ) ++ T0)) (S.B (cnt sp L) xs ++ (L.flatMap (bsOf sp) ++ B0)) a w _ (fun p hp => List.mem_append_right _ (List.mem_append_right _ hp)) (fun p hp => List.mem_append_right _ (List.mem_append_right _ hp)))
          (fun j hj => by obtain ⟨e', v, bs, h1, h2, h3, h4⟩ := hdeps j hj; exact ⟨e', v, bs, h1, h2, List.mem_append_right _ h3, fun p hp => List.mem_append_right _ (h4 p hp)⟩) hfr' hs ?_
        intro v bs a' w' hv hs'
        refine ih (U1 ++ U2) ((i, v, bs) :: L) (listed.setIfInBounds i true) a' w' xs (by simp at hU ⊢; omega) (hpn v bs) ?_ ?_ (by simpa using hsz) (hln v bs) (closed_set hcl hi) ?_
        · intro x hx
          rcases List.mem_cons.1 hx with rfl | hx
          · exact ⟨e, he, fun _ => hv⟩
          · exact hφ x hx
        · have h1 : cnt sp ((i, v, bs) :: L) = cnt sp L := by simp [cnt, hb]
          have h2 : ((i, v, bs) :: L).filterMap (tOf sp Φ) = (e.d, v) :: L.filterMap (tOf sp Φ) := by simp [tOf, he, hb]
          have h3 : ((i, v, bs) :: L).flatMap (bsOf sp) = bs ++ L.flatMap (bsOf sp) := by simp [bsOf, hb]
          rw [h1, h2, h3]
          refine Sx.perm ?_ (hs'.tmps (fun p hp => ?_))
          · simp only [List.append_assoc]
            rw [← List.append_assoc, ← List.append_assoc bs]
            exact List.Perm.append_right _ List.perm_append_comm
          · simp only [List.mem_append, List.mem_cons] at hp ⊢
            rcases hp with hp | hp | hp
            · exact .inr (.inl hp)
            · rcases hp with hp | hp
              · exact .inl hp
              · exact .inr (.inr (.inl hp))
            · exact .inr (.inr (.inr hp))
        · intro j hj hjs i' hi' his
          simp only [List.map_cons, List.mem_cons] at hj ⊢
          rcases hj with rfl | hj
          · rw [hb] at hjs; cases hjs
          · exact .inr (hst j hj hjs i' hi' his)
      | true =>
        have hbef := (headS_st hh he (by rw [Nat.zero_add]; exact hb)).2
        have hbefore : ∀ i', i' < i → isS sp i' = true → i' ∈ L.map (·.1) := fun i' hi' his => by
          obtain ⟨p, h1, h2, h3, h4⟩ := last_sp his i hi'
          have := hbef p h2 (by rw [Nat.zero_add]; exact h3) (fun m a b => by rw [Nat.zero_add]; exact h4 m a b)
          rw [Nat.zero_add, Nat.zero_add] at this
          have hpl := hedge p this
          rcases Nat.eq_or_lt_of_le h1 with rfl | h5
          · exact hpl
          · exact hst p hpl h3 i' h5 his
        have hrank : rankF sp 0 i = cnt sp L := by
          rw [rankF, cnt, ← List.range_eq_range']
          refine List.Perm.length_eq ?_
          refine (List.perm_ext_iff_of_nodup (List.nodup_range.sublist List.filter_sublist) ((List.nodup_append.1 hnd).1.sublist List.filter_sublist)).2 (fun j => ?_)
          simp only [List.mem_filter, List.mem_range]
          constructor
          · exact fun ⟨h1, h2⟩ => ⟨hbefore j h1 h2, h2⟩
          · intro ⟨h1, h2⟩
            refine ⟨?_, h2⟩
            rcases Nat.lt_or_ge j i with h | h
            · exact h
            · exfalso
              have hne : i ≠ j := fun e => hnl (by rw [e]; exact h1)
              exact hnl (hst j h1 h2 i (by omega) hb)
        have hob2 := hob.2 hb
        rw [hrank] at hob2
        refine deps_use (hob2 (L.filterMap (tOf sp Φ) ++ T0) (L.flatMap (bsOf sp) ++ B0) a w _ xs (fun p hp => List.mem_append_right _ hp) (fun p hp => List.mem_append_right _ hp)) hdeps hfr hs ?_
        intro x' a' w' hs'
        refine ih (U1 ++ U2) ((i, undef, []) :: L) (listed.setIfInBounds i true) a' w' x' (by simp at hU ⊢; omega) (hpn _ _) ?_ ?_ (by simpa using hsz) (hln _ _) (closed_set hcl hi) ?_
        · intro x hx
          rcases List.mem_cons.1 hx with rfl | hx
          · exact ⟨e, he, fun h => by rw [hb] at h; cases h⟩
          · exact hφ x hx
        · have h1 : cnt sp ((i, undef, []) :: L) = cnt sp L + 1 := by simp [cnt, hb]
          have h2 : ((i, undef, []) :: L).filterMap (tOf sp Φ) = L.filterMap (tOf sp Φ) := by simp [tOf, hb]
          have h3 : ((i, undef, []) :: L).flatMap (bsOf sp) = L.flatMap (bsOf sp) := by simp [bsOf, hb]
          rw [h1, h2, h3]
          exact hs'
        · intro j hj hjs i' hi' his
          simp only [List.map_cons, List.mem_cons] at hj ⊢
          rcases hj with rfl | hj
          · exact .inr (hbefore i' hi' his)
          · exact .inr (hst j hj hjs i' hi' his)
theorem cd_drawSP1 {id : Nat} {l : List Oper} {a : Act} {w : World} {T0 : List (Nat × Value)} {B0 : List (Nat × Option Obj)} (hm : P.follows .mixedOrders = true) (sp : List Nat) (S : Spec) (x0 : S.X) (hs : Sx N D (S.T 0 x0 ++ T0) (S.B 0 x0 ++ B0) M w0 a w) (Φ : List Op1)
    (hh : headS l.toArray sp T0 [] 0 Φ = true) (hown : Own1 Φ sp S) (ht : tailOkP l.toArray Φ.length = true)
    (h : ObsS N D M w0 P r Q l.toArray Φ T0 B0 sp S 0 0 Φ ∧
      EachS sp 0 Φ (fun T B => ∀ x a' w', Sx N D (S.T (rank sp Φ.length) x ++ (T ++ T0)) (S.B (rank sp Φ.length) x ++ (B ++ B0)) M w0 a' w' → tailWp P r Q l.toArray (l.length - Φ.length) Φ.length a' w')) :
    (Code.region id l.toArray true).wpIn (Fx r) 0 P Q a w := by
  obtain ⟨h1, h2⟩ := h
  have hmn : Φ.length ≤ l.length := by
    simp only [tailOkP, Bool.and_eq_true] at ht
    have := Nat.le_of_ble_eq_true ht.1
    simpa using this
  refine wpIn_region_any hm ?_
  have := headS_any (r := r) (Q := Q) hh hown ht h1 (by rw [List.size_toArray]; exact h2) (List.range' 0 Φ.length) Φ.length [] (Array.replicate l.toArray.size false) a { w with drawn := w.drawn + 1 } x0 (by simp) (by simp) (by simp) (hs.drawn _) (by simp)
    (fun j hj => by simp only [List.size_toArray] at hj; simp [Array.getD_eq_getD_getElem?, hj]) (fun k j hk hks => by simp only [List.size_toArray] at hks; simp [Array.getD_eq_getD_getElem?, hks] at hk) (by simp)
  rw [show Φ.length + (l.toArray.size - Φ.length) = l.toArray.size from by simp; omega] at this
  exact this
theorem cd_drawS1 {id : Nat} {l : List Oper} {a : Act} {w : World} {T0 : List (Nat × Value)} {B0 : List (Nat × Option Obj)} (hm : P.follows .mixedOrders = true) (sp : List Nat) (S : Spec) (x0 : S.X) (hs : Sx N D (S.T 0 x0 ++ T0) (S.B 0 x0 ++ B0) M w0 a w) (Φ : List Op1)
    (hh : headS l.toArray sp T0 [] 0 Φ = true) (hown : Own1 Φ sp S) (ht : tailOk l.toArray Φ.length = true)
    (h : ObsS N D M w0 P r Q l.toArray Φ T0 B0 sp S 0 0 Φ ∧
      EachS sp 0 Φ (fun T B => ∀ x a' w', Sx N D (S.T (rank sp Φ.length) x ++ (T ++ T0)) (S.B (rank sp Φ.length) x ++ (B ++ B0)) M w0 a' w' → wpListIn (Fx r) 0 P l.toArray Q (dropN Φ.length l) a' w')) :
    (Code.region id l.toArray true).wpIn (Fx r) 0 P Q a w := by
  obtain ⟨h1, h2⟩ := h
  have hmn : Φ.length ≤ l.length := by
    simp only [tailOk, Bool.and_eq_true] at ht
    have := Nat.le_of_ble_eq_true ht.1
    simpa using this
  have he : ∀ a' w', wpListIn (Fx r) 0 P l.toArray Q (dropN Φ.length l) a' w' → wpOpsIn (Fx r) 0 P l.toArray Q (List.range' Φ.length (l.toArray.size - Φ.length)) a' w' := by
    intro a' w' h
    have := wpOpsIn_eq_wpListIn (F := Fx r) (n := 0) (P := P) (ops := l.toArray) (Q := Q) (dropN Φ.length l) Φ.length (by intro j; rw [dropN_drop]; simp)
    rw [dropN_drop, List.length_drop] at this
    rw [dropN_drop] at h
    simp only [List.size_toArray]
    rw [this]; exact h
  have gen : ∀ (Ψ : List Op1) (k : Nat) (C C' : List (Nat × Value) → List (Nat × Option Obj) → Prop), (∀ T B, C T B → C' T B) → EachS sp k Ψ C → EachS sp k Ψ C' := by
    intro Ψ
    induction Ψ with
    | nil => intro k C C' h hC; exact h _ _ hC
    | cons e Ψ ih =>
      intro k C C' h hC
      simp only [EachS] at hC ⊢
      cases hb : isS sp k with
      | false => simp only [hb] at hC ⊢; intro v bs hv; exact ih _ _ _ (fun T B hx => h _ _ hx) (hC v bs hv)
      | true => simp only [hb] at hC ⊢; exact ih _ _ _ h hC
  refine cd_drawSP1 hm sp S x0 hs Φ hh hown (tailOk.gen ht) ⟨h1, gen Φ 0 _ _ (fun T B h x a' w' hs' => tailWp_of ht _ _ _ _ (Nat.le_refl _) (by simp; omega) ?_) h2⟩
  have := he a' w' (h x a' w' hs')
  rwa [List.size_toArray] at this
theorem cd_drawSP {id : Nat} {y : Code} {l : List Oper} {a : Act} {w : World} {T0 : List (Nat × Value)} {B0 : List (Nat × Option Obj)} (hm : P.follows .mixedOrders = true) (sp : List Nat) (S : Spec) (x0 : S.X) (hs : Sx N D (S.T 0 x0 ++ T0) (S.B 0 x0 ++ B0) M w0 a w) (Φ : List Op1)
    (hh : headS l.toArray sp T0 [] 0 Φ = true) (hown : Own1 Φ sp S) (ht : tailOkP l.toArray Φ.length = true)
    (h : ∀ K : Act → World → Prop, (∀ a w, y.wpIn (Fx r) 0 P Q a w → K a w) →
      ObsS N D M w0 P r (Exit.then K Q) l.toArray Φ T0 B0 sp S 0 0 Φ ∧
      EachS sp 0 Φ (fun T B => ∀ x a' w', Sx N D (S.T (rank sp Φ.length) x ++ (T ++ T0)) (S.B (rank sp Φ.length) x ++ (B ++ B0)) M w0 a' w' → tailWp P r (Exit.then K Q) l.toArray (l.length - Φ.length) Φ.length a' w')) :
    (Code.seq (Code.region id l.toArray true) y).wpIn (Fx r) 0 P Q a w := wpIn_seq_k fun K hK => cd_drawSP1 hm sp S x0 hs Φ hh hown ht (h K hK)
theorem cd_drawS {id : Nat} {y : Code} {l : List Oper} {a : Act} {w : World} {T0 : List (Nat × Value)} {B0 : List (Nat × Option Obj)} (hm : P.follows .mixedOrders = true) (sp : List Nat) (S : Spec) (x0 : S.X) (hs : Sx N D (S.T 0 x0 ++ T0) (S.B 0 x0 ++ B0) M w0 a w) (Φ : List Op1)
    (hh : headS l.toArray sp T0 [] 0 Φ = true) (hown : Own1 Φ sp S) (ht : tailOk l.toArray Φ.length = true)
    (h : ∀ K : Act → World → Prop, (∀ a w, y.wpIn (Fx r) 0 P Q a w → K a w) →
      ObsS N D M w0 P r (Exit.then K Q) l.toArray Φ T0 B0 sp S 0 0 Φ ∧
      EachS sp 0 Φ (fun T B => ∀ x a' w', Sx N D (S.T (rank sp Φ.length) x ++ (T ++ T0)) (S.B (rank sp Φ.length) x ++ (B ++ B0)) M w0 a' w' → wpListIn (Fx r) 0 P l.toArray (Exit.then K Q) (dropN Φ.length l) a' w')) :
    (Code.seq (Code.region id l.toArray true) y).wpIn (Fx r) 0 P Q a w := wpIn_seq_k fun K hK => cd_drawS1 hm sp S x0 hs Φ hh hown ht (h K hK)
end
end Go.Sx
