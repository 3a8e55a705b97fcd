/-
  TRUTHS, in plain Lean: what sums are made of; how many truths go with each number of a roll; between what lies what is sold.
-/
import Derived.Test.YtcnndpedeofbmaaDoorTr
set_option maxRecDepth 100000
namespace Go.Till
open Go Go.Sx
theorem sum_add {α : Type} {f g : α → Nat} : ∀ {M : List α}, (M.map f).sum + (M.map g).sum = (M.map (fun m => f m + g m)).sum := by
  intro M
  induction M with
  | nil => rfl
  | cons x M ih => simp only [List.map_cons, List.sum_cons]; omega
theorem sum_swap {α β : Type} {f : α → β → Nat} {M : List β} : ∀ {L : List α}, (L.map (fun u => (M.map (fun m => f u m)).sum)).sum = (M.map (fun m => (L.map (fun u => f u m)).sum)).sum := by
  intro L
  induction L with
  | nil => simp only [List.map_nil, List.sum_nil]; induction M with
    | nil => rfl
    | cons x M ih => simpa using ih
  | cons x L ih => simp only [List.map_cons, List.sum_cons]; rw [ih, sum_add]
theorem sum_two {α : Type} {f : α → Nat} {x y : α} (h : x ≠ y) : ∀ {L : List α}, x ∈ L → y ∈ L → f x + f y ≤ (L.map f).sum := by
  have one : ∀ {z : α} {L : List α}, z ∈ L → f z ≤ (L.map f).sum := by
    intro z L hz
    induction L with
    | nil => cases hz
    | cons a L ih =>
      simp only [List.map_cons, List.sum_cons]
      rcases List.mem_cons.1 hz with rfl | hz
      · omega
      · have := ih hz; omega
  intro L
  induction L with
  | nil => intro hx; cases hx
  | cons a L ih =>
    intro hx hy
    simp only [List.map_cons, List.sum_cons]
    rcases List.mem_cons.1 hx with rfl | hx2
    · rcases List.mem_cons.1 hy with rfl | hy2
      · exact absurd rfl h
      · have := one hy2; omega
    · rcases List.mem_cons.1 hy with rfl | hy2
      · have := one hx2; omega
      · have := ih hx2 hy2; omega
theorem sum_zero {α : Type} {f : α → Nat} : ∀ {L : List α}, (L.map f).sum = 0 ↔ ∀ x ∈ L, f x = 0 := by
  intro L
  induction L with
  | nil => simp
  | cons a L ih => simp only [List.map_cons, List.sum_cons, List.mem_cons, forall_eq_or_imp, ← ih]; omega
theorem sum_congr {α : Type} {f g : α → Nat} : ∀ {L : List α}, (∀ x ∈ L, f x = g x) → (L.map f).sum = (L.map g).sum := by
  intro L h; rw [List.map_congr_left h]
theorem cnt_split {g : Int → Bool} {p : Int} {s : Sp} {l2 : Its} : ∀ {l1 : Its} {x : Int}, cnt g (l1 ++ (p, s) :: l2) x = ((nums s).map (fun m => cnt g (l1 ++ (p, (⟨m, m⟩ : Sp)) :: l2) x)).sum := by
  intro l1
  induction l1 with
  | nil =>
    intro x
    simp only [List.nil_append, cnt_cons]
    exact sum_congr (fun m _ => by rw [nums_one]; simp)
  | cons i l1 ih =>
    intro x
    simp only [List.cons_append, cnt_cons]
    rw [sum_congr (fun u _ => ih), sum_swap]
theorem its_set {rs : List Roll} : ∀ {ss : List Sp} {k : Nat} {r : Roll} {s : Sp}, rs[k]? = some r → ss[k]? = some s → ∃ l1 l2, its rs ss = l1 ++ (r.price, s) :: l2 ∧ ∀ t, its rs (ss.set k t) = l1 ++ (r.price, t) :: l2 := by
  induction rs with
  | nil => intro ss k r s h; simp at h
  | cons r0 rs ih =>
    intro ss k r s hr hs
    cases ss with
    | nil => simp at hs
    | cons s0 ss =>
      cases k with
      | zero => simp at hr hs; subst hr hs; exact ⟨[], its rs ss, rfl, fun t => rfl⟩
      | succ k =>
        simp only [List.getElem?_cons_succ] at hr hs
        obtain ⟨l1, l2, h1, h2⟩ := ih hr hs
        refine ⟨(r0.price, s0) :: l1, l2, ?_, fun t => ?_⟩
        · show (r0.price, s0) :: its rs ss = _; rw [h1]; rfl
        · show (r0.price, s0) :: its rs (ss.set k t) = _; rw [h2]; rfl
theorem withN_in {b : Bx} {ss : List Sp} {k : Nat} {s : Sp} (hs : ss[k]? = some s) {m : Int} (hm : s.lo ≤ m ∧ m ≤ s.hi) : withN b ss k m = cnt (right b) (its b.rolls (ss.set k ⟨m, m⟩)) 0 := by
  unfold withN; simp only [hs]; rw [if_pos (within_iff.2 hm)]
theorem withN_out {b : Bx} {ss : List Sp} {k : Nat} {s : Sp} (hs : ss[k]? = some s) {m : Int} (hm : withN b ss k m ≠ 0) : s.lo ≤ m ∧ m ≤ s.hi := by
  unfold withN at hm; simp only [hs] at hm
  by_cases c : within m s.lo s.hi = true
  · exact within_iff.1 c
  · rw [if_neg c] at hm; exact absurd rfl hm
/-- All truths, told by the number of a roll. -/
theorem many_sum {b : Bx} {k : Nat} {r : Roll} {s : Sp} (hr : b.rolls[k]? = some r) (hs : b.sold[k]? = some s) : b.many = ((nums s).map (withN b b.sold k)).sum := by
  obtain ⟨l1, l2, h1, h2⟩ := its_set hr hs
  show cnt (right b) (its b.rolls b.sold) 0 = _
  rw [h1, cnt_split]
  refine sum_congr (fun m hm => ?_)
  rw [withN_in hs (mem_nums.1 hm), h2]
theorem canB_iff {b : Bx} {ss : List Sp} {xs : List Int} : canB b ss xs = true ↔ ∀ (i : Nat) (x : Int) (s : Sp), xs[i]? = some x → ss[i]? = some s → s.lo ≤ x ∧ x ≤ s.hi := by
  unfold canB
  rw [List.all_eq_true]
  constructor
  · intro h i x s hx hs
    have := h (x, s) (List.mem_of_getElem? (zip_at hx hs))
    exact within_iff.1 this
  · rintro h ⟨x, s⟩ hq
    obtain ⟨i, hi⟩ := List.mem_iff_getElem?.1 hq
    obtain ⟨h1, h2⟩ := List.getElem?_zip_eq_some.1 hi
    exact within_iff.2 (h i x s h1 h2)
/-- What sums are made of. -/
theorem mem_sums {b : Bx} {rs : List Roll} : ∀ {ss : List Sp} {L : List Int} {x : Int}, ss.length = rs.length → (x ∈ sums L (its rs ss) ↔ ∃ y ∈ L, ∃ xs : List Int, xs.length = rs.length ∧ canB b ss xs = true ∧ x = y + tak rs xs) := by
  induction rs with
  | nil =>
    intro ss L x hl
    obtain rfl : ss = [] := List.length_eq_zero_iff.1 hl
    constructor
    · intro h; exact ⟨x, h, [], rfl, rfl, by simp [tak]⟩
    · rintro ⟨y, hy, xs, h1, -, rfl⟩
      obtain rfl : xs = [] := List.length_eq_zero_iff.1 h1
      simpa [tak, sums, its] using hy
  | cons r rs ih =>
    intro ss L x hl
    cases ss with
    | nil => simp at hl
    | cons s ss =>
      show x ∈ sums (ext L (r.price, s)) (its rs ss) ↔ _
      rw [ih (by simpa using hl)]
      constructor
      · rintro ⟨z, hz, xs, h1, h2, rfl⟩
        obtain ⟨y, hy, m, hm, rfl⟩ := mem_ext.1 hz
        refine ⟨y, hy, m :: xs, by simp [h1], ?_, by simp only [tak]; omega⟩
        show ((m, s) :: xs.zip ss).all _ = true
        rw [List.all_cons, Bool.and_eq_true]
        exact ⟨within_iff.2 hm, h2⟩
      · rintro ⟨y, hy, xs, h1, h2, rfl⟩
        cases xs with
        | nil => simp at h1
        | cons m xs =>
          have h3 : (((m, s) :: xs.zip ss).all (fun q => within q.1 q.2.lo q.2.hi)) = true := h2
          rw [List.all_cons, Bool.and_eq_true] at h3
          refine ⟨y + m * r.price, mem_ext.2 ⟨y, hy, m, within_iff.1 h3.1, rfl⟩, xs, by simpa using h1, h3.2, by simp only [tak]; omega⟩
theorem mem_all {b : Bx} (hO : Ok b) {x : Int} : x ∈ b.all ↔ ∃ xs : List Int, xs.length = b.rolls.length ∧ canB b b.sold xs = true ∧ x = tak b.rolls xs := by
  rw [Bx.all, Bx.its, mem_sums (b := b) hO.wf.len]
  constructor
  · rintro ⟨y, hy, xs, h1, h2, rfl⟩
    simp only [List.mem_singleton] at hy; subst hy
    exact ⟨xs, h1, h2, by omega⟩
  · rintro ⟨xs, h1, h2, rfl⟩
    exact ⟨0, by simp, xs, h1, h2, by omega⟩
theorem withN_pos {b : Bx} (hO : Ok b) {k : Nat} {s : Sp} (hs : b.sold[k]? = some s) {m : Int} : withN b b.sold k m ≠ 0 ↔ ∃ xs : List Int, xs.length = b.rolls.length ∧ canB b b.sold xs = true ∧ xs[k]? = some m ∧ right b (tak b.rolls xs) = true := by
  have hkl := (List.getElem?_eq_some_iff.1 hs).1
  constructor
  · intro h
    have hm := withN_out hs h
    rw [withN_in hs hm, cnt, ← Nat.pos_iff_ne_zero, List.countP_pos_iff] at h
    obtain ⟨x, hx, hr⟩ := h
    rw [mem_sums (b := b) (by rw [List.length_set]; exact hO.wf.len)] at hx
    obtain ⟨y, hy, xs, h1, h2, rfl⟩ := hx
    simp only [List.mem_singleton] at hy; subst hy
    rw [canB_iff] at h2
    obtain ⟨z, hz⟩ : ∃ z, xs[k]? = some z := ⟨_, List.getElem?_eq_getElem (by rw [h1, ← hO.wf.len]; exact hkl)⟩
    have h3 := h2 k z ⟨m, m⟩ hz (by rw [List.getElem?_set_self hkl])
    simp only at h3
    obtain rfl : z = m := by omega
    refine ⟨xs, h1, canB_iff.2 (fun i x t hx ht => ?_), hz, by rw [show tak b.rolls xs = 0 + tak b.rolls xs by omega]; exact hr⟩
    by_cases e : i = k
    · subst e
      rw [hz] at hx; rw [hs] at ht; cases hx; cases ht; exact hm
    · exact h2 i x t hx (by rw [List.getElem?_set_ne (fun h => e h.symm)]; exact ht)
  · rintro ⟨xs, h1, h2, h3, h4⟩
    rw [canB_iff] at h2
    have hm := h2 k m s h3 hs
    rw [withN_in hs hm, cnt, ← Nat.pos_iff_ne_zero, List.countP_pos_iff]
    refine ⟨tak b.rolls xs, ?_, h4⟩
    rw [mem_sums (b := b) (by rw [List.length_set]; exact hO.wf.len)]
    refine ⟨0, by simp, xs, h1, canB_iff.2 (fun i x t hx ht => ?_), by omega⟩
    by_cases e : i = k
    · subst e
      rw [h3] at hx; cases hx
      rw [List.getElem?_set_self hkl] at ht; cases ht; simp only; omega
    · rw [List.getElem?_set_ne (fun h => e h.symm)] at ht; exact h2 i x t hx ht
theorem soldF_at {f : Int → Nat} {s : Sp} (h0 : 0 ≤ s.lo) : ∀ i : Nat, i ≤ s.len →
    ((soldF f ((nums s).take i)).lo < 0 ∧ ∀ j : Nat, j < i → f (s.lo + (j : Int)) = 0) ∨
    (0 ≤ (soldF f ((nums s).take i)).lo ∧ s.lo ≤ (soldF f ((nums s).take i)).lo ∧ (soldF f ((nums s).take i)).lo ≤ (soldF f ((nums s).take i)).hi ∧ (soldF f ((nums s).take i)).hi < s.lo + (i : Int) ∧ f (soldF f ((nums s).take i)).lo ≠ 0 ∧ f (soldF f ((nums s).take i)).hi ≠ 0 ∧ ∀ j : Nat, j < i → f (s.lo + (j : Int)) ≠ 0 → (soldF f ((nums s).take i)).lo ≤ s.lo + (j : Int) ∧ s.lo + (j : Int) ≤ (soldF f ((nums s).take i)).hi) := by
  intro i
  induction i with
  | zero => intro _; left; exact ⟨by simp [soldF], fun j hj => absurd hj (Nat.not_lt_zero _)⟩
  | succ i ih =>
    intro hi
    have ih := ih (by omega)
    rw [soldF_snoc (nums_get (show i < s.len by omega)), soldStep]
    generalize soldF f ((nums s).take i) = o at ih ⊢
    by_cases c : f (s.lo + (i : Int)) = 0
    · rw [if_pos c]
      rcases ih with ⟨h1, h2⟩ | ⟨h1, h2, h3, h4, h5, h6, h7⟩
      · left; refine ⟨h1, fun j hj => ?_⟩
        by_cases e : j = i
        · subst e; exact c
        · exact h2 j (by omega)
      · right; refine ⟨h1, h2, h3, by omega, h5, h6, fun j hj hf => ?_⟩
        by_cases e : j = i
        · subst e; exact absurd c hf
        · exact h7 j (by omega) hf
    · rw [if_neg c]
      right
      rcases ih with ⟨h1, h2⟩ | ⟨h1, h2, h3, h4, h5, h6, h7⟩
      · rw [if_pos h1]
        dsimp only
        refine ⟨by omega, by omega, by omega, by omega, c, c, fun j hj hf => ?_⟩
        by_cases e : j = i
        · subst e; exact ⟨Int.le_refl _, Int.le_refl _⟩
        · exact absurd (h2 j (by omega)) hf
      · rw [if_neg (by omega)]
        dsimp only
        refine ⟨h1, h2, by omega, by omega, h5, c, fun j hj hf => ?_⟩
        by_cases e : j = i
        · subst e; omega
        · have := h7 j (by omega) hf; omega
/-- Between what lies how many are sold. -/
theorem sold_law {b : Bx} (hok : b.ok = true) (hm : b.many ≠ 0) {k : Nat} {r : Roll} {s : Sp} (hr : b.rolls[k]? = some r) (hs : b.sold[k]? = some s) :
    ∃ lo hi, b.soldR (k : Int) = (⟨lo, hi⟩, 0) ∧ s.lo ≤ lo ∧ lo ≤ hi ∧ hi ≤ s.hi ∧ withN b b.sold k lo ≠ 0 ∧ withN b b.sold k hi ≠ 0 ∧ ∀ m, withN b b.sold k m ≠ 0 → lo ≤ m ∧ m ≤ hi := by
  have hO := ok_iff.1 hok
  have hkl := (List.getElem?_eq_some_iff.1 hr).1
  have hask : b.asked (isRoll b (k : Int)) = 0 := asked_zero.2 ⟨hok, by unfold isRoll; rw [within_iff]; omega, hm⟩
  have hb := hO.wf.sp k s hs
  have h := soldF_at (f := withN b b.sold k) (s := s) hb.1 s.len (Nat.le_refl _)
  rw [List.take_of_length_le (by rw [nums_len]; exact Nat.le_refl _)] at h
  have hnum : b.numsOf k = nums s := by simp only [Bx.numsOf, hs]
  have hR : b.soldR (k : Int) = (soldF (withN b b.sold k) (nums s), 0) := by rw [Bx.soldR, if_pos hask, Int.toNat_natCast, hnum]
  rcases h with ⟨h1, h2⟩ | ⟨h1, h2, h3, h4, h5, h6, h7⟩
  · exfalso
    apply hm
    rw [many_sum hr hs, sum_zero]
    intro m hmm
    obtain ⟨j, hj⟩ := List.mem_iff_getElem?.1 hmm
    have := nums_at hj
    rw [this.1]; exact h2 j this.2.1
  · refine ⟨_, _, hR, h2, h3, (withN_out hs h6).2, h5, h6, fun m hmm => ?_⟩
    have hw := withN_out hs hmm
    have hl : (m - s.lo).toNat < s.len := by unfold Sp.len; omega
    have := h7 (m - s.lo).toNat hl (by rw [show s.lo + ((m - s.lo).toNat : Int) = m by omega]; exact hmm)
    rw [show s.lo + ((m - s.lo).toNat : Int) = m by omega] at this
    exact this
theorem sold_one {b : Bx} (hm : b.many = 1) {k : Nat} {r : Roll} {s : Sp} (hr : b.rolls[k]? = some r) (hs : b.sold[k]? = some s) {x y : Int} (hx : withN b b.sold k x ≠ 0) (hy : withN b b.sold k y ≠ 0) : x = y := by
  apply Classical.byContradiction
  intro c
  have h1 := sum_two (f := withN b b.sold k) c (L := nums s) (mem_nums.2 (withN_out hs hx)) (mem_nums.2 (withN_out hs hy))
  rw [← many_sum hr hs] at h1
  omega
end Go.Till
