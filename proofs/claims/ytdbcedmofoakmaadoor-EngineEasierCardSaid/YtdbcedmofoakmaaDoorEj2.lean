/-
  PLAIN LAWS of the engine: an easier evening needs no more walks.
-/
import Derived.Test.YtdbcedmofoakmaaDoorEi2
set_option maxRecDepth 100000
namespace Go.Eng
open Go Go.Sx
structure Easier (d b : Book) : Prop where
  ok : d.ok = true
  ez : Ez d b
  parts : All2 Pz d.parts b.parts
  coal : b.coal.lo ≤ d.coal.lo
  water : b.water.lo ≤ d.water.lo
theorem all2_len {α β : Type} {R : α → β → Prop} {l : List α} {m : List β} (h : All2 R l m) : l.length = m.length := by
  induction h with
  | nil => rfl
  | cons _ _ ih => simp [ih]
theorem all2_take {α β : Type} {R : α → β → Prop} {l : List α} {m : List β} (h : All2 R l m) : ∀ k : Nat, All2 R (l.take k) (m.take k) := by
  induction h with
  | nil => intro k; simp; exact .nil
  | cons h _ ih => intro k; cases k with
    | zero => exact .nil
    | succ k => exact .cons h (ih k)
theorem easier_can {d b : Book} (hok : b.ok = true) (h : Easier d b) (hc : b.can = true) : d.can = true := by
  have hb := ok_bd hok; have hd := ok_bd h.ok
  rw [can_eq hb] at hc
  rw [can_eq hd]
  exact canL_ez h.ez hd.nz hb.nz _ _ h.parts (bd_hi hd) (bd_walks hb) _ _ _ _ h.coal h.water hc
theorem easier_head {d b : Book} (hok : b.ok = true) (h : Easier d b) (k : Nat) (hc : (b.head k).can = true) : (d.head k).can = true := by
  have hb := ok_bd hok; have hd := ok_bd h.ok
  rw [head_can hb] at hc
  rw [head_can hd]
  exact canL_ez h.ez hd.nz hb.nz _ _ (all2_take h.parts k) (fun p hp => bd_hi hd p (List.mem_of_mem_take hp)) (fun p hp => bd_walks hb p (List.mem_of_mem_take hp)) _ _ _ _ h.coal h.water hc
theorem easier_most {d b : Book} (hok : b.ok = true) (h : Easier d b) : ∀ n : Nat, b.most n ≤ d.most n := by
  intro n
  induction n with
  | zero => exact Nat.le_refl _
  | succ n ih =>
    rw [Book.most, Book.most]
    split
    · rename_i hc
      rw [if_pos (easier_head hok h _ hc)]; exact Nat.le_refl _
    · split
      · have := most_le b n; omega
      · exact ih
theorem easier_ok {ps qs : List Part} (h : All2 Pz ps qs) : ∀ ys : List Walks, (ys.zip qs).all (fun q => okWalks q.2 q.1) = true → (ys.zip ps).all (fun q => okWalks q.2 q.1) = true := by
  induction h with
  | nil => intro ys _; cases ys <;> rfl
  | @cons p q ps qs hp _ ih =>
    intro ys hy
    cases ys with
    | nil => rfl
    | cons y ys =>
      simp only [List.zip_cons_cons, List.all_cons, Bool.and_eq_true] at hy ⊢
      have h1 := okWalks_iff.1 hy.1
      have h2 := hp.walks
      exact ⟨okWalks_iff.2 (by omega), ih ys hy.2⟩
theorem easier_plan {d b : Book} (hok : b.ok = true) (h : Easier d b) {pl : List Walks} {e : Int} (hR : b.planR = (some pl, e)) : ∃ pl2, d.planR = (some pl2, 0) ∧ d.good d.parts pl2 d.coal.lo d.water.lo = true ∧ sumW pl2 ≤ sumW pl := by
  have hb := ok_bd hok; have hd := ok_bd h.ok
  obtain ⟨-, hg, -⟩ := planR_some hok hR
  have hg2 := good_ez h.ez hd.nz hb.nz _ _ h.parts (bd_hi hd) _ _ (yz_refl pl) (easier_ok h.parts _ (good_ok _ _ _ _ hg)) _ _ _ _ h.coal h.water hg
  rcases hR2 : d.planR with ⟨_ | pl2, e2⟩
  · have := (planR_none h.ok hR2).2 pl
    rw [hg2] at this; cases this
  · obtain ⟨rfl, h1, h2⟩ := planR_some h.ok hR2
    refine ⟨pl2, rfl, h1, ?_⟩
    have := h2 pl hg2
    omega
theorem planR_04 {d : Book} (h : d.ok = true) : d.planR.2 = 0 ∨ d.planR.2 = 4 := by
  rw [planR_ok h]; split <;> simp
theorem own_le {α : Type} {enc : α → List Value} {sz : Nat} {e : TypeId} {A : Option Addr} {c : Nat} {xs : List α} {b : Nat} {o : Option Obj} (h : Sx.Own enc sz e A c xs b o) : xs.length ≤ c := by
  rcases h with ⟨rfl, _⟩ | ⟨_, h, _⟩
  · exact Nat.zero_le _
  · exact h
theorem all2_refl : ∀ l : List Part, All2 Pz l l
  | [] => .nil
  | p :: l => .cons (Pz.refl p) (all2_refl l)
theorem pz_set1 {p q : Part} (h : Pz p q) : ∀ (l : List Part) (k : Nat), l[k]? = some q → All2 Pz (l.set k p) l
  | [], _, hk => by simp at hk
  | _ :: l, 0, hk => by simp only [List.getElem?_cons_zero, Option.some.injEq] at hk; subst hk; exact .cons h (all2_refl l)
  | x :: l, k + 1, hk => .cons (Pz.refl x) (pz_set1 h l k (by simpa using hk))
theorem ok_iff {b : Book} : b.ok = true ↔ ((1 ≤ b.bunker ∧ b.bunker ≤ 99) ∧ (1 ≤ b.tank ∧ b.tank ≤ 99) ∧ (0 ≤ b.coal.lo ∧ b.coal.lo ≤ b.coal.hi ∧ b.coal.hi ≤ b.bunker) ∧ (0 ≤ b.water.lo ∧ b.water.lo ≤ b.water.hi ∧ b.water.hi ≤ b.tank) ∧ (1 ≤ b.scoop ∧ b.scoop ≤ 20) ∧ (1 ≤ b.pail ∧ b.pail ≤ 20) ∧
    (0 ≤ b.burn0.lo ∧ b.burn0.lo ≤ b.burn0.hi ∧ b.burn0.hi ≤ 3) ∧ (0 ≤ b.drink0.lo ∧ b.drink0.lo ≤ b.drink0.hi ∧ b.drink0.hi ≤ 3) ∧ (0 ≤ b.burn1.lo ∧ b.burn1.lo ≤ b.burn1.hi ∧ b.burn1.hi ≤ 3) ∧ (0 ≤ b.drink1.lo ∧ b.drink1.lo ≤ b.drink1.hi ∧ b.drink1.hi ≤ 3) ∧
    (0 ≤ b.full.lo ∧ b.full.lo ≤ b.full.hi ∧ b.full.hi ≤ 60) ∧ (0 ≤ b.weak.lo ∧ b.weak.lo ≤ b.weak.hi ∧ b.weak.hi ≤ 60) ∧ b.weak.lo ≤ b.full.lo ∧ b.weak.hi ≤ b.full.hi ∧ (0 ≤ b.mark ∧ b.mark ≤ b.tank) ∧ (0 ≤ b.lamp ∧ b.lamp ≤ 60) ∧ (1 ≤ (b.parts.length : Int) ∧ (b.parts.length : Int) ≤ 5)) ∧ b.parts.all Part.ok = true := by
  simp only [Book.ok, Book.ok0, Bool.and_eq_true, within_iff, okSpan_iff, decide_eq_true_eq, and_assoc]
theorem easy0 {b : Book} (hok : b.ok = true) {y : Int} (hy : 0 ≤ y) : Easier { b with coal := ⟨min b.coal.hi (b.coal.lo + y), b.coal.hi⟩ } b := by
  obtain ⟨h, hp⟩ := ok_iff.1 hok
  exact ⟨ok_iff.2 ⟨by simp only; omega, hp⟩, ⟨Int.le_refl _, Int.le_refl _, Int.le_refl _, Int.le_refl _, fun _ => Int.le_refl _, fun _ => Int.le_refl _, Int.le_refl _, Int.le_refl _, rfl, rfl⟩, all2_refl _, by simp only; omega, Int.le_refl _⟩
theorem easy1 {b : Book} (hok : b.ok = true) {y : Int} (hy : 0 ≤ y) : Easier { b with water := ⟨min b.water.hi (b.water.lo + y), b.water.hi⟩ } b := by
  obtain ⟨h, hp⟩ := ok_iff.1 hok
  exact ⟨ok_iff.2 ⟨by simp only; omega, hp⟩, ⟨Int.le_refl _, Int.le_refl _, Int.le_refl _, Int.le_refl _, fun _ => Int.le_refl _, fun _ => Int.le_refl _, Int.le_refl _, Int.le_refl _, rfl, rfl⟩, all2_refl _, Int.le_refl _, by simp only; omega⟩
theorem easy2 {b : Book} (hok : b.ok = true) {y : Int} (hy : 0 ≤ y) : Easier { b with bunker := min 99 (b.bunker + y), tank := min 99 (b.tank + y) } b := by
  obtain ⟨h, hp⟩ := ok_iff.1 hok
  exact ⟨ok_iff.2 ⟨by simp only; omega, hp⟩, ⟨by simp only; omega, by simp only; omega, Int.le_refl _, Int.le_refl _, fun _ => Int.le_refl _, fun _ => Int.le_refl _, Int.le_refl _, Int.le_refl _, rfl, rfl⟩, all2_refl _, Int.le_refl _, Int.le_refl _⟩
theorem easy3 {b : Book} (hok : b.ok = true) {y : Int} (hy : 0 ≤ y) : Easier { b with scoop := min 20 (b.scoop + y) } b := by
  obtain ⟨h, hp⟩ := ok_iff.1 hok
  exact ⟨ok_iff.2 ⟨by simp only; omega, hp⟩, ⟨Int.le_refl _, Int.le_refl _, by simp only; omega, Int.le_refl _, fun _ => Int.le_refl _, fun _ => Int.le_refl _, Int.le_refl _, Int.le_refl _, rfl, rfl⟩, all2_refl _, Int.le_refl _, Int.le_refl _⟩
theorem easy4 {b : Book} (hok : b.ok = true) {y : Int} (hy : 0 ≤ y) : Easier { b with pail := min 20 (b.pail + y) } b := by
  obtain ⟨h, hp⟩ := ok_iff.1 hok
  exact ⟨ok_iff.2 ⟨by simp only; omega, hp⟩, ⟨Int.le_refl _, Int.le_refl _, Int.le_refl _, by simp only; omega, fun _ => Int.le_refl _, fun _ => Int.le_refl _, Int.le_refl _, Int.le_refl _, rfl, rfl⟩, all2_refl _, Int.le_refl _, Int.le_refl _⟩
theorem easyP {b : Book} (hok : b.ok = true) {k : Nat} {x x' : Part} (hx : b.parts[k]? = some x) (hz : Pz x' x) (ho : x'.ok = true) : Easier { b with parts := b.parts.set k x' } b := by
  obtain ⟨h, hp⟩ := ok_iff.1 hok
  refine ⟨ok_iff.2 ⟨by simp only [List.length_set]; omega, ?_⟩, ⟨Int.le_refl _, Int.le_refl _, Int.le_refl _, Int.le_refl _, fun _ => Int.le_refl _, fun _ => Int.le_refl _, Int.le_refl _, Int.le_refl _, rfl, rfl⟩, pz_set1 hz _ _ hx, Int.le_refl _, Int.le_refl _⟩
  rw [List.all_eq_true] at hp ⊢
  intro p hm
  rcases List.mem_or_eq_of_mem_set hm with h1 | h1
  · exact hp p h1
  · subst h1; exact ho
theorem easy5 {b : Book} (hok : b.ok = true) {y : Int} (hy : 0 ≤ y) {k : Nat} {x : Part} (hx : b.parts[k]? = some x) : Easier { b with parts := b.parts.set k ⟨x.mi, x.light, min 5 (x.walks + y)⟩ } b := by
  have h1 := ok_part hok hx
  simp only [okSpan_iff, within_iff] at h1
  refine easyP hok hx ⟨rfl, by simp only; omega, Int.le_refl _⟩ ?_
  simp only [Part.ok, Bool.and_eq_true, okSpan_iff, within_iff]
  omega
theorem easy6 {b : Book} (hok : b.ok = true) {y : Int} (hy : 0 ≤ y) {k : Nat} {x : Part} (hx : b.parts[k]? = some x) : Easier { b with parts := b.parts.set k (x.upto (max x.mi.lo (x.mi.hi - y))) } b := by
  have h1 := ok_part hok hx
  simp only [okSpan_iff, within_iff] at h1
  refine easyP hok hx ⟨rfl, Int.le_refl _, by simp only [Part.upto]; omega⟩ ?_
  simp only [Part.ok, Part.upto, Bool.and_eq_true, okSpan_iff, within_iff]
  omega
theorem easy7 {b : Book} (hok : b.ok = true) {y : Int} (hy : 0 ≤ y) : Easier { b with lamp := max 0 (b.lamp - y) } b := by
  obtain ⟨h, hp⟩ := ok_iff.1 hok
  exact ⟨ok_iff.2 ⟨by simp only; omega, hp⟩, ⟨Int.le_refl _, Int.le_refl _, Int.le_refl _, Int.le_refl _, fun _ => Int.le_refl _, fun _ => Int.le_refl _, by simp only; omega, Int.le_refl _, rfl, rfl⟩, all2_refl _, Int.le_refl _, Int.le_refl _⟩
theorem easy8 {b : Book} (hok : b.ok = true) {y : Int} (hy : 0 ≤ y) : Easier { b with mark := max 0 (b.mark - y) } b := by
  obtain ⟨h, hp⟩ := ok_iff.1 hok
  exact ⟨ok_iff.2 ⟨by simp only; omega, hp⟩, ⟨Int.le_refl _, Int.le_refl _, Int.le_refl _, Int.le_refl _, fun _ => Int.le_refl _, fun _ => Int.le_refl _, Int.le_refl _, by simp only; omega, rfl, rfl⟩, all2_refl _, Int.le_refl _, Int.le_refl _⟩
theorem easy9a {b : Book} (hok : b.ok = true) : Easier { b with burn0 := ⟨b.burn0.lo, b.burn0.lo⟩, drink0 := ⟨b.drink0.lo, b.drink0.lo⟩ } b := by
  obtain ⟨h, hp⟩ := ok_iff.1 hok
  exact ⟨ok_iff.2 ⟨by simp only; omega, hp⟩, ⟨Int.le_refl _, Int.le_refl _, Int.le_refl _, Int.le_refl _, fun l => by cases l <;> simp [Book.burn] <;> omega, fun l => by cases l <;> simp [Book.drink] <;> omega, Int.le_refl _, Int.le_refl _, rfl, rfl⟩, all2_refl _, Int.le_refl _, Int.le_refl _⟩
theorem easy9b {b : Book} (hok : b.ok = true) : Easier { b with burn1 := ⟨b.burn1.lo, b.burn1.lo⟩, drink1 := ⟨b.drink1.lo, b.drink1.lo⟩ } b := by
  obtain ⟨h, hp⟩ := ok_iff.1 hok
  exact ⟨ok_iff.2 ⟨by simp only; omega, hp⟩, ⟨Int.le_refl _, Int.le_refl _, Int.le_refl _, Int.le_refl _, fun l => by cases l <;> simp [Book.burn] <;> omega, fun l => by cases l <;> simp [Book.drink] <;> omega, Int.le_refl _, Int.le_refl _, rfl, rfl⟩, all2_refl _, Int.le_refl _, Int.le_refl _⟩
end Go.Eng
