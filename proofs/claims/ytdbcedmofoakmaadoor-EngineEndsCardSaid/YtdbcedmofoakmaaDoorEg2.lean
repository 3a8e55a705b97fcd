/-
  PLAIN LAWS of the engine: sound evenings; when parts, coal, minutes can be; what numbers choose.
-/
import Derived.Test.YtdbcedmofoakmaaDoorEf2
set_option maxRecDepth 100000
namespace Go.Eng
open Go Go.Sx
/-- What 'Turn' answers. -/
def turn (n m : Int) : Int := if m < 1 then 0 else if n.tmod m < 0 then n.tmod m + m else n.tmod m
theorem turn_bd {n m : Int} (h : 0 < m) : 0 ≤ turn n m ∧ turn n m < m := by
  unfold turn
  rw [if_neg (by omega)]
  have h1 := Int.tmod_lt_of_pos n h
  have h2 : -m < n.tmod m := by
    have := Int.tmod_lt_of_pos (-n) h
    rw [Int.neg_tmod] at this; omega
  split <;> omega
/-- What 'Pick' answers. -/
def pickN (l : List Int) (n : Int) : Int := if l.length = 0 then 0 else (l[(turn n (l.length : Int)).toNat]?).getD 0
theorem sound_all {b : Book} (h : b.ok = true) : (within b.bunker 1 99 = true ∧ within b.tank 1 99 = true ∧ okSpan b.coal.lo b.coal.hi 0 b.bunker = true ∧ okSpan b.water.lo b.water.hi 0 b.tank = true ∧ within b.scoop 1 20 = true ∧ within b.pail 1 20 = true) ∧
    (okSpan b.full.lo b.full.hi 0 60 = true ∧ okSpan b.weak.lo b.weak.hi 0 60 = true ∧ within b.mark 0 b.tank = true ∧ within b.lamp 0 60 = true ∧ within (b.parts.length : Int) 1 5 = true) ∧
    (okSpan b.burn0.lo b.burn0.hi 0 3 = true ∧ okSpan b.drink0.lo b.drink0.hi 0 3 = true ∧ okSpan b.burn1.lo b.burn1.hi 0 3 = true ∧ okSpan b.drink1.lo b.drink1.hi 0 3 = true) := by
  simp only [Book.ok, Book.ok0, Bool.and_eq_true] at h
  simp only [h, and_self]
theorem ok_part {b : Book} (h : b.ok = true) {i : Nat} {x : Part} (hx : b.parts[i]? = some x) : okSpan x.mi.lo x.mi.hi 1 60 = true ∧ within x.walks 0 5 = true := by
  simp only [Book.ok, Bool.and_eq_true] at h
  have := List.all_eq_true.1 h.2 x (List.mem_of_getElem? hx)
  simpa only [Part.ok, Bool.and_eq_true] using this
theorem planR_ok {b : Book} (h : b.ok = true) : b.planR.2 = if b.can = true then 0 else 4 := by
  unfold Book.planR Book.can
  rw [if_pos h]
  cases b.best b.parts b.coal.lo b.water.lo with
  | none => rfl
  | some q => rfl
theorem planR_no {b : Book} (h : b.ok = false) : b.planR = (none, 40) := by
  unfold Book.planR
  rw [if_neg (by rw [h]; decide)]
theorem plansE {P : Program} {f : FuncId} {args : List Value} {w : World} {R : Option (List Walks) × Int} (h : CallsB P f args w (plansV R)) : CallsB P f args w (fun v bs => ∃ A n c, v = .tuple ⟨[.slice A n c, .int .i64 R.2]⟩ ∧ bs = []) := by
  refine h.mono (fun e w' ⟨v, bs, he, hk, _, hp⟩ => ⟨v, [], he, hk, New.nil _ _, ?_⟩)
  obtain ⟨r, e⟩ := R
  cases r with
  | none => exact ⟨_, _, _, hp.1, rfl⟩
  | some pl =>
    obtain ⟨A, c, bb, o, hv, -, -⟩ := hp
    exact ⟨_, _, _, hv, rfl⟩
/-! ### Prefixes -/
theorem canL_prefix {b : Book} : ∀ (ps qs : List Part) (c v : Int), b.canL (ps ++ qs) c v = true → b.canL ps c v = true := by
  intro ps
  induction ps with
  | nil => intro qs c v _; rfl
  | cons p ps ih =>
    intro qs c v h
    rw [List.cons_append, canL_iff] at h
    rw [canL_iff]
    obtain ⟨j, hj, ht⟩ := h
    refine ⟨j, hj, ?_⟩
    simp only [Book.tryC, Bool.and_eq_true] at ht ⊢
    exact ⟨ht.1, ih qs _ _ ht.2⟩
theorem canL_congr {b d : Book} (h1 : ∀ hi p x c, d.afterC hi p x c = b.afterC hi p x c) (h2 : ∀ hi p x c, d.afterW hi p x c = b.afterW hi p x c) (h3 : ∀ p c v, d.may p c v = b.may p c v) : ∀ (ps : List Part) (c v : Int), d.canL ps c v = b.canL ps c v := by
  intro ps
  induction ps with
  | nil => intro c v; rfl
  | cons p ps ih =>
    intro c v
    have e : d.tryC p (d.canL ps) c v = b.tryC p (b.canL ps) c v := by
      funext j
      simp only [Book.tryC, h1, h2, h3, ih]
    rw [Book.canL, Book.canL, e]
theorem canL_parts {b : Book} {l : List Part} (ps : List Part) (c v : Int) : Book.canL { b with parts := l } ps c v = b.canL ps c v :=
  canL_congr (b := b) (d := { b with parts := l }) (fun hi p x c => by cases p.light <;> rfl) (fun hi p x c => by cases p.light <;> rfl) (fun _ _ _ => rfl) ps c v
theorem canL_coal {b : Book} {s : Span} (ps : List Part) (c v : Int) : Book.canL { b with coal := s } ps c v = b.canL ps c v :=
  canL_congr (b := b) (d := { b with coal := s }) (fun _ _ _ _ => rfl) (fun _ _ _ _ => rfl) (fun _ _ _ => rfl) ps c v
theorem ok0_len {b : Book} {m n : Int} (h : b.ok0 m = true) (hn : 1 ≤ n ∧ n ≤ 5) : b.ok0 n = true := by
  simp only [Book.ok0, Bool.and_eq_true] at h ⊢
  exact ⟨h.1, within_iff.2 hn⟩
theorem ok_len {b : Book} (h : b.ok = true) : 1 ≤ b.parts.length ∧ b.parts.length ≤ 5 := by
  simp only [Book.ok, Book.ok0, Bool.and_eq_true, within_iff] at h
  omega
theorem head_ok {b : Book} (h : b.ok = true) {k : Nat} (hk : 0 < k) : (b.head k).ok = true := by
  have hl := ok_len h
  simp only [Book.ok, Bool.and_eq_true, List.all_eq_true] at h ⊢
  have e : (b.head k).parts.length = min k b.parts.length := by simp only [Book.head, List.length_take]
  exact ⟨ok0_len (b := b.head k) (m := (b.parts.length : Int)) h.1 (by rw [e]; omega), fun p hp => h.2 p (List.mem_of_mem_take hp)⟩
theorem head_can {b : Book} (hb : Bd b) (k : Nat) : (b.head k).can = b.canL (b.parts.take k) b.coal.lo b.water.lo := by
  rw [can_eq (head_bd hb k)]
  exact canL_parts _ _ _
theorem head_down {b : Book} (hb : Bd b) {j k : Nat} (hj : j ≤ k) (h : (b.head k).can = true) : (b.head j).can = true := by
  rw [head_can hb] at h ⊢
  rw [← List.take_append_drop j (b.parts.take k), List.take_take, Nat.min_eq_left hj] at h
  exact canL_prefix _ _ _ _ h
theorem most_le (b : Book) : ∀ n : Nat, b.most n ≤ n := by
  intro n
  induction n with
  | zero => exact Nat.le_refl _
  | succ n ih => rw [Book.most]; split <;> omega
theorem most_can (b : Book) : ∀ n : Nat, 0 < b.most n → (b.head (b.most n)).can = true := by
  intro n
  induction n with
  | zero => intro h; exact absurd h (Nat.lt_irrefl _)
  | succ n ih =>
    rw [Book.most]
    split
    · rename_i h; intro _; exact h
    · exact ih
theorem most_no2 (b : Book) : ∀ n j : Nat, b.most n < j → j ≤ n → (b.head j).can = false := by
  intro n
  induction n with
  | zero => intro j h1 h2; omega
  | succ n ih =>
    intro j h1 h2
    rw [Book.most] at h1
    split at h1
    · omega
    · rename_i hc
      rcases Nat.lt_or_ge n j with h | h
      · have e : j = n + 1 := by omega
        rw [e]; simpa using hc
      · exact ih j h1 h
theorem most_iff {b : Book} (hb : Bd b) {n j : Nat} (hj : 0 < j) (hn : j ≤ n) : (b.head j).can = true ↔ j ≤ b.most n := by
  constructor
  · intro h
    rcases Nat.lt_or_ge (b.most n) j with h' | h'
    · rw [most_no2 b n j h' hn] at h; cases h
    · exact h'
  · intro h
    exact head_down hb h (most_can b n (by omega))
theorem most_min {b : Book} (hb : Bd b) {n m : Nat} (hm : m ≤ n) : b.most m = min (b.most n) m := by
  have h1 := most_le b m
  rcases Nat.lt_or_ge 0 (b.most m) with h0 | h0
  · have h2 : b.most m ≤ b.most n := (most_iff hb h0 (by omega)).1 (most_can b m h0)
    rcases Nat.lt_or_ge (b.most m) m with h3 | h3
    · rcases Nat.lt_or_ge (b.most m) (b.most n) with h4 | h4
      · exfalso
        have h5 : (b.head (b.most m + 1)).can = true := (most_iff hb (by omega) (by omega : b.most m + 1 ≤ n)).2 (by omega)
        rw [most_no2 b m _ (by omega) (by omega)] at h5; cases h5
      · omega
    · omega
  · rcases Nat.eq_zero_or_pos m with h3 | h3
    · subst h3; simp at *; omega
    · rcases Nat.eq_zero_or_pos (b.most n) with h4 | h4
      · omega
      · exfalso
        have h5 : (b.head 1).can = true := (most_iff hb (by omega) (by omega : 1 ≤ n)).2 (by omega)
        rw [most_no2 b m 1 (by omega) (by omega)] at h5; cases h5
theorem head_head {b : Book} {j k : Nat} (h : j ≤ k) : (b.head k).head j = b.head j := by
  simp only [Book.head, List.take_take, Nat.min_eq_left h]
theorem most_head {b : Book} : ∀ (m k : Nat), m ≤ k → (b.head k).most m = b.most m := by
  intro m
  induction m with
  | zero => intro k _; rfl
  | succ m ih => intro k h; rw [Book.most, Book.most, head_head h, ih k (by omega)]
theorem partsR_ok {b : Book} (h : b.ok = true) : b.partsR = ((b.most b.parts.length : Int), 0) := by
  unfold Book.partsR; rw [if_pos h]
theorem partsR_no {b : Book} (h : b.ok = false) : b.partsR = (0, 40) := by
  unfold Book.partsR; rw [if_neg (by rw [h]; decide)]
theorem head_partsR {b : Book} (h : b.ok = true) {m : Nat} (h0 : 0 < m) (hm : m ≤ b.parts.length) : (b.head m).partsR = (((min (b.most b.parts.length) m : Nat) : Int), 0) := by
  rw [partsR_ok (head_ok h h0)]
  have e : (b.head m).parts.length = m := by simp only [Book.head, List.length_take]; omega
  rw [e, most_head m m (Nat.le_refl _), most_min (ok_bd h) hm]
theorem can_len {b : Book} (h : b.ok = true) : b.can = true ↔ b.most b.parts.length = b.parts.length := by
  have hb := ok_bd h
  have h0 := ok_ne h
  have e : b.head b.parts.length = b := by simp only [Book.head, List.take_length]
  have := most_iff hb h0 (Nat.le_refl _)
  rw [e] at this
  rw [this]
  have := most_le b b.parts.length
  omega
/-! ### Coal -/
theorem withCoal_can {b : Book} (hb : Bd b) {s : Span} (hs : 0 ≤ s.lo ∧ s.lo ≤ 1000 ∧ 0 ≤ s.hi ∧ s.hi ≤ 1000) : Book.can { b with coal := s } = b.canL b.parts s.lo b.water.lo := by
  have hb' : Bd { b with coal := s } := ⟨hs, hb.water, hb.room, hb.load, hb.burn, hb.drink, hb.len, hb.wk, hb.parts⟩
  rw [can_eq hb']
  exact canL_coal _ _ _
theorem coalR_ok {b : Book} (h : b.ok = true) : b.coalR = if first (fun k => (b.withCoal k).can) (b.bunker.toNat + 1) 0 < 0 then (0, 4) else (first (fun k => (b.withCoal k).can) (b.bunker.toNat + 1) 0, 0) := by
  unfold Book.coalR; rw [if_pos h]
theorem coalR_no {b : Book} (h : b.ok = false) : b.coalR = (0, 40) := by
  unfold Book.coalR; rw [if_neg (by rw [h]; decide)]
theorem first_none {f : Nat → Bool} {n i : Nat} (h : first f n i < 0) {j : Nat} (h1 : i ≤ j) (h2 : j < i + n) : f j = false := by
  cases hf : f j with
  | false => rfl
  | true =>
    have := (first_iff (f := f) n i).2 ⟨j, h1, h2, hf⟩
    omega
theorem first_spec {f : Nat → Bool} : ∀ (n i : Nat), 0 ≤ first f n i → ∃ j : Nat, first f n i = (j : Int) ∧ i ≤ j ∧ j < i + n ∧ f j = true ∧ ∀ k, i ≤ k → k < j → f k = false := by
  intro n
  induction n with
  | zero => intro i h; simp only [first] at h; omega
  | succ n ih =>
    intro i h
    rw [first] at h ⊢
    split
    · rename_i hf
      exact ⟨i, rfl, Nat.le_refl _, by omega, hf, fun k h1 h2 => by omega⟩
    · rename_i hf
      rw [if_neg hf] at h
      obtain ⟨j, h1, h2, h3, h4, h5⟩ := ih (i + 1) h
      refine ⟨j, h1, by omega, by omega, h4, fun k hk1 hk2 => ?_⟩
      rcases Nat.eq_or_lt_of_le hk1 with e | e
      · subst e; simpa using hf
      · exact h5 k e hk2
theorem ok_coal {b : Book} (h : b.ok = true) {s : Span} (hs : 0 ≤ s.lo ∧ s.lo ≤ s.hi ∧ s.hi ≤ b.bunker) : Book.ok { b with coal := s } = true := by
  simp only [Book.ok, Book.ok0, Bool.and_eq_true, okSpan_iff] at h ⊢
  simp only [h, hs, and_self]
/-- The least coal, as the law asks of it. -/
structure CoalAt (b : Book) (c : Int) : Prop where
  lo : 0 ≤ c
  hi : c ≤ b.bunker
  yes : ∀ z, c ≤ z → z ≤ b.bunker → b.canL b.parts z b.water.lo = true
  no : ∀ z, 0 ≤ z → z < c → b.canL b.parts z b.water.lo = false
theorem coal_at {b : Book} (h : b.ok = true) (hf : ¬ first (fun k => (b.withCoal k).can) (b.bunker.toNat + 1) 0 < 0) : CoalAt b (first (fun k => (b.withCoal k).can) (b.bunker.toNat + 1) 0) := by
  have hb := ok_bd h
  have hr := hb.room
  obtain ⟨j, h1, -, h3, h4, h5⟩ := first_spec (f := fun k : Nat => (b.withCoal (k : Int)).can) _ _ (by omega : 0 ≤ first (fun k : Nat => (b.withCoal (k : Int)).can) (b.bunker.toNat + 1) 0)
  have h1' : first (fun k => (b.withCoal k).can) (b.bunker.toNat + 1) 0 = (j : Int) := h1
  rw [h1']
  have hbt : (b.bunker.toNat : Int) = b.bunker := Int.toNat_of_nonneg hr.1
  have key : ∀ z : Int, 0 ≤ z → z ≤ b.bunker → (b.withCoal z).can = b.canL b.parts z b.water.lo := fun z hz1 hz2 => withCoal_can hb (s := ⟨z, z⟩) (by simp only; omega)
  refine ⟨by omega, by omega, fun z hz1 hz2 => ?_, fun z hz1 hz2 => ?_⟩
  · have h6 : b.canL b.parts (j : Int) b.water.lo = true := by rw [← key _ (by omega) (by omega)]; exact h4
    exact canL_mono hb _ _ _ _ _ hz1 (Int.le_refl _) h6
  · have h7 := h5 z.toNat (Nat.zero_le _) (by omega)
    have e : (z.toNat : Int) = z := Int.toNat_of_nonneg hz1
    rw [← key z hz1 (by omega), ← e]; exact h7
theorem coal_none {b : Book} (h : b.ok = true) (hf : first (fun k => (b.withCoal k).can) (b.bunker.toNat + 1) 0 < 0) : ∀ z, 0 ≤ z → z ≤ b.bunker → b.canL b.parts z b.water.lo = false := by
  have hb := ok_bd h
  have hr := hb.room
  intro z hz1 hz2
  have hbt : (b.bunker.toNat : Int) = b.bunker := Int.toNat_of_nonneg hr.1
  have e : (z.toNat : Int) = z := Int.toNat_of_nonneg hz1
  have h7 := first_none (f := fun k : Nat => (b.withCoal (k : Int)).can) hf (Nat.zero_le z.toNat) (by omega)
  have key : (b.withCoal z).can = b.canL b.parts z b.water.lo := withCoal_can hb (s := ⟨z, z⟩) (by simp only; omega)
  rw [← key, ← e]; exact h7
end Go.Eng
