/-
  THE REFERENCE's TRUTHS WITH A NUMBER, in plain Lean.
-/
import Derived.Test.YtcnndpedeofbmaaDoorTx
set_option maxRecDepth 100000
namespace Go.Till
open Go Go.Sx
theorem way_low {b : Bx} (hO : Ok b) {k : Nat} : ∀ j : Nat, j ≤ k → j ≤ b.rolls.length → wayTo b (k : Int) j = sums [0] ((its b.rolls b.sold).take j) := by
  intro j
  induction j with
  | zero => intro _ _; rfl
  | succ j ih =>
    intro h1 h2
    obtain ⟨r, hr⟩ : ∃ r, b.rolls[j]? = some r := ⟨_, List.getElem?_eq_getElem (by omega)⟩
    obtain ⟨s, hs⟩ : ∃ s, b.sold[j]? = some s := ⟨_, List.getElem?_eq_getElem (by rw [hO.wf.len]; omega)⟩
    rw [way_yes hr hs (by omega), its_take hr hs, ih (by omega) (by omega)]
theorem way_high {b : Bx} (hO : Ok b) {k : Nat} : ∀ d : Nat, k + 1 + d ≤ b.rolls.length → wayTo b (k : Int) (k + 1 + d) = sums (sums [0] ((its b.rolls b.sold).take k)) (((its b.rolls b.sold).drop (k + 1)).take d) := by
  intro d
  induction d with
  | zero =>
    intro h
    obtain ⟨r, hr⟩ : ∃ r, b.rolls[k]? = some r := ⟨_, List.getElem?_eq_getElem (by omega)⟩
    obtain ⟨s, hs⟩ : ∃ s, b.sold[k]? = some s := ⟨_, List.getElem?_eq_getElem (by rw [hO.wf.len]; omega)⟩
    rw [Nat.add_zero, way_no hr hs rfl, way_low hO k (Nat.le_refl _) (by omega)]; rfl
  | succ d ih =>
    intro h
    obtain ⟨r, hr⟩ : ∃ r, b.rolls[k + 1 + d]? = some r := ⟨_, List.getElem?_eq_getElem (by omega)⟩
    obtain ⟨s, hs⟩ : ∃ s, b.sold[k + 1 + d]? = some s := ⟨_, List.getElem?_eq_getElem (by rw [hO.wf.len]; omega)⟩
    rw [show k + 1 + (d + 1) = k + 1 + d + 1 from rfl, way_yes hr hs (by omega), ih (by omega), List.take_add_one, List.getElem?_drop, its_at hr hs]
    exact (sums_snoc _ _ _).symm
theorem way_but {b : Bx} (hO : Ok b) {k : Nat} (hk : k < b.rolls.length) : wayTo b (k : Int) b.rolls.length = sums (sums [0] ((its b.rolls b.sold).take k)) ((its b.rolls b.sold).drop (k + 1)) := by
  have h := way_high hO (k := k) (b.rolls.length - (k + 1)) (by omega)
  rw [show k + 1 + (b.rolls.length - (k + 1)) = b.rolls.length by omega] at h
  rw [h, List.take_of_length_le (l := (its b.rolls b.sold).drop (k + 1)) (by rw [List.length_drop, hO.wf.its_len]; exact Nat.le_refl _)]
/-- All amounts, if so many of a roll are sold. -/
theorem sums_but {b : Bx} (hO : Ok b) {k : Nat} {r : Roll} {s : Sp} (hr : b.rolls[k]? = some r) (hs : b.sold[k]? = some s) (m : Int) : sums [0] (its b.rolls (b.sold.set k ⟨m, m⟩)) = (wayTo b (k : Int) b.rolls.length).map (· + m * r.price) := by
  have hk := (List.getElem?_eq_some_iff.1 hr).1
  have hks := (List.getElem?_eq_some_iff.1 hs).1
  have hs2 : (b.sold.set k ⟨m, m⟩)[k]? = some ⟨m, m⟩ := List.getElem?_set_self hks
  rw [way_but hO hk, ← sums_shift]
  conv => lhs; rw [← List.take_append_drop k (its b.rolls (b.sold.set k ⟨m, m⟩)), its_drop hr hs2, sums_two, sums_cons]
  have e1 : (its b.rolls (b.sold.set k ⟨m, m⟩)).take k = (its b.rolls b.sold).take k := by
    unfold its; rw [List.take_zipWith, List.take_zipWith, List.take_set_of_le (Nat.le_refl _)]
  have e2 : (its b.rolls (b.sold.set k ⟨m, m⟩)).drop (k + 1) = (its b.rolls b.sold).drop (k + 1) := by
    unfold its; rw [List.drop_zipWith, List.drop_zipWith, List.drop_set_of_lt (Nat.lt_succ_self _)]
  rw [e1, e2]
  congr 1
  generalize sums [0] ((its b.rolls b.sold).take k) = L
  induction L with
  | nil => rfl
  | cons x L ih =>
    rw [List.map_cons, show ext (x :: L) (r.price, (⟨m, m⟩ : Sp)) = ext [x] (r.price, ⟨m, m⟩) ++ ext L (r.price, ⟨m, m⟩) from by simp [ext], ih, ext_one, nums_one]; rfl
/-- How many lie among N numbers from a on. -/
def cw (M : List Int) (a : Int) : Nat → Nat
  | 0 => 0
  | u + 1 => cw M a u + M.count (a + (u : Int))
theorem cw_eq {M : List Int} {a : Int} : ∀ N : Nat, cw M a N = M.countP (fun x => decide (a ≤ x) && decide (x < a + (N : Int))) := by
  intro N
  induction N with
  | zero =>
    symm; rw [cw, List.countP_eq_zero]; intro x _
    simp only [Bool.and_eq_true, decide_eq_true_eq]; omega
  | succ u ih =>
    rw [cw, ih]
    clear ih
    induction M with
    | nil => rfl
    | cons x M ih =>
      simp only [List.countP_cons, List.count_cons]
      by_cases e : x = a + (u : Int)
      · subst e
        have h1 : decide (a ≤ a + (u : Int)) = true := by rw [decide_eq_true_eq]; omega
        have h2 : decide (a + (u : Int) < a + (u : Int)) = false := by rw [decide_eq_false_iff_not]; omega
        have h3 : decide (a + (u : Int) < a + ((u + 1 : Nat) : Int)) = true := by rw [decide_eq_true_eq]; omega
        rw [h1, h2, h3]
        simp only [Bool.and_true, Bool.and_false, Bool.false_eq_true, if_false, if_true, beq_self_eq_true]
        omega
      · have h1 : decide (x < a + ((u + 1 : Nat) : Int)) = decide (x < a + (u : Int)) := by simp only [decide_eq_decide]; omega
        have h2 : (x == a + (u : Int)) = false := by rw [beq_eq_false_iff_ne]; exact e
        rw [h1, h2]
        simp only [Bool.false_eq_true, if_false]
        omega
theorem with_cw {b : Bx} (hO : Ok b) {k : Nat} {r : Roll} {s : Sp} (hr : b.rolls[k]? = some r) (hs : b.sold[k]? = some s) {m : Int} (hm : s.lo ≤ m ∧ m ≤ s.hi) : withN b b.sold k m = cw (wayTo b (k : Int) b.rolls.length) (b.count - b.err - m * r.price) (2 * b.err + 1).toNat := by
  rw [withN_in hs hm, cnt, sums_but hO hr hs, List.countP_map, cw_eq]
  refine List.countP_congr (fun x _ => ?_)
  have := hO.err
  simp only [Function.comp, right, within_iff, Bool.and_eq_true, decide_eq_true_eq]
  omega
/-- What the reference adds up. -/
def wsum (b : Bx) (W : Nat → Int) (c : Int) : Nat → Int
  | 0 => 0
  | u + 1 => if 0 ≤ b.count + (-b.err + (u : Int)) - c ∧ b.count + (-b.err + (u : Int)) - c < 60001 then wsum b W c u + W (b.count + (-b.err + (u : Int)) - c).toNat else wsum b W c u
theorem wsum_eq {b : Bx} {M : List Int} (hM : ∀ x ∈ M, 0 ≤ x ∧ x < ((60001 : Nat) : Int)) {c : Int} : ∀ u : Nat, wsum b (wf M) c u = ((cw M (b.count - b.err - c) u : Nat) : Int) := by
  intro u
  induction u with
  | zero => rfl
  | succ u ih =>
    rw [wsum, cw, ih]
    split
    · rename_i h
      unfold wf
      rw [show (((b.count + (-b.err + (u : Int)) - c).toNat : Nat) : Int) = b.count - b.err - c + (u : Int) by omega]
      omega
    · rename_i h
      have : M.count (b.count - b.err - c + (u : Int)) = 0 := by
        rw [List.count_eq_zero]; intro hx
        have := hM _ hx; omega
      omega
theorem cw_le {M : List Int} {a : Int} (u : Nat) : cw M a u ≤ M.length := by rw [cw_eq]; exact List.countP_le_length
def wArr (b : Bx) (k : Nat) (s : Sp) (t : Nat) : Nat → Int := fun a => if s.lo ≤ (a : Int) ∧ (a : Int) < s.lo + (t : Int) then (withN b b.sold k (a : Int) : Int) else 0
theorem wArr_zero {b : Bx} {k : Nat} {s : Sp} : wArr b k s 0 = fun _ => 0 := by
  funext a; unfold wArr; rw [if_neg (by omega)]
theorem wArr_start {b : Bx} {k : Nat} {s : Sp} {t : Nat} (_h0 : 0 ≤ s.lo) : upd (wArr b k s t) (s.lo + (t : Int)).toNat 0 = wArr b k s t := by
  funext a; unfold upd
  by_cases e : a = (s.lo + (t : Int)).toNat
  · rw [if_pos e]; unfold wArr; rw [if_neg (by omega)]
  · rw [if_neg e]
theorem wArr_end {b : Bx} {k : Nat} {s : Sp} {t : Nat} (h0 : 0 ≤ s.lo) : upd (wArr b k s t) (s.lo + (t : Int)).toNat (withN b b.sold k (s.lo + (t : Int)) : Int) = wArr b k s (t + 1) := by
  funext a; unfold upd
  by_cases e : a = (s.lo + (t : Int)).toNat
  · rw [if_pos e]; unfold wArr; rw [if_pos (by omega), show (a : Int) = s.lo + (t : Int) by omega]
  · rw [if_neg e]; unfold wArr
    by_cases c : s.lo ≤ (a : Int) ∧ (a : Int) < s.lo + (t : Int)
    · rw [if_pos c, if_pos (by omega)]
    · rw [if_neg c, if_neg (by omega)]
theorem upd_upd {f : Nat → Int} {i : Nat} {x y : Int} : upd (upd f i x) i y = upd f i y := by
  funext a; unfold upd; split <;> rfl
theorem upd_at {f : Nat → Int} {i : Nat} {x : Int} : upd f i x i = x := by unfold upd; rw [if_pos rfl]
def wAll (b : Bx) (k : Nat) : Nat → Int := fun a => (withN b b.sold k (a : Int) : Int)
theorem wArr_all {b : Bx} {k : Nat} {s : Sp} (hs : b.sold[k]? = some s) {n t : Nat} (h : s.hi < s.lo + (t : Int)) (_h2 : (t : Int) ≤ max 0 (s.hi - s.lo + 1)) : arrN n (wArr b k s t) = arrN n (wAll b k) := by
  refine arr_congr (fun a _ => ?_)
  unfold wArr wAll
  split
  · rfl
  · rename_i c
    have : withN b b.sold k (a : Int) = 0 := by
      apply Classical.byContradiction; intro e
      have := withN_out hs e; omega
    omega
/-- Between what lies how many are sold, as the reference looks for it. -/
def rS (F : Nat → Int) : Nat → Sp
  | 0 => ⟨-1, -1⟩
  | n + 1 => if 0 < F n then ⟨if (rS F n).lo < 0 then (n : Int) else (rS F n).lo, (n : Int)⟩ else rS F n
theorem rS_at {F : Nat → Int} : ∀ n : Nat, ((rS F n).lo < 0 ∧ ∀ j : Nat, j < n → ¬ 0 < F j) ∨
    (∃ a z : Nat, (rS F n).lo = (a : Int) ∧ (rS F n).hi = (z : Int) ∧ a < n ∧ z < n ∧ 0 < F a ∧ 0 < F z ∧ ∀ j : Nat, j < n → 0 < F j → a ≤ j ∧ j ≤ z) := by
  intro n
  induction n with
  | zero => left; exact ⟨by simp [rS], fun j hj => absurd hj (Nat.not_lt_zero _)⟩
  | succ n ih =>
    rw [rS]
    by_cases c : 0 < F n
    · rw [if_pos c]
      right
      rcases ih with ⟨h1, h2⟩ | ⟨a, z, h1, h2, h3, h4, h5, h6, h7⟩
      · rw [if_pos h1]
        refine ⟨n, n, rfl, rfl, by omega, by omega, c, c, fun j hj hf => ?_⟩
        by_cases e : j = n
        · omega
        · exact absurd hf (h2 j (by omega))
      · rw [if_neg (by omega)]
        refine ⟨a, n, h1, rfl, by omega, by omega, h5, c, fun j hj hf => ?_⟩
        by_cases e : j = n
        · omega
        · have := h7 j (by omega) hf; omega
    · rw [if_neg c]
      rcases ih with ⟨h1, h2⟩ | ⟨a, z, h1, h2, h3, h4, h5, h6, h7⟩
      · left; refine ⟨h1, fun j hj => ?_⟩
        by_cases e : j = n
        · subst e; exact c
        · exact h2 j (by omega)
      · right; refine ⟨a, z, h1, h2, by omega, by omega, h5, h6, fun j hj hf => ?_⟩
        by_cases e : j = n
        · subst e; exact absurd hf c
        · exact h7 j (by omega) hf
theorem rS_sold {b : Bx} (hok : b.ok = true) (hm : b.many ≠ 0) {k : Nat} {r : Roll} {s : Sp} (hr : b.rolls[k]? = some r) (hs : b.sold[k]? = some s) : b.soldR (k : Int) = (rS (wAll b k) 301, 0) := by
  obtain ⟨lo, hi, hS, h1, h2, h3, h4, h5, h6⟩ := sold_law hok hm hr hs
  have hb := (ok_iff.1 hok).wf.sp k s hs
  rw [hS]
  have key : ∀ m : Int, withN b b.sold k m ≠ 0 → ∃ j : Nat, m = (j : Int) ∧ j < 301 ∧ 0 < wAll b k j := by
    intro m hmm
    have := h6 m hmm
    refine ⟨m.toNat, by omega, by omega, ?_⟩
    unfold wAll; rw [show ((m.toNat : Nat) : Int) = m by omega]; omega
  rcases rS_at (F := wAll b k) 301 with ⟨_, q2⟩ | ⟨a, z, q1, q2, q3, q4, q5, q6, q7⟩
  · exfalso
    obtain ⟨j, -, hj, hp⟩ := key lo h4
    exact q2 j hj hp
  · obtain ⟨i, e1, hi1, hp1⟩ := key lo h4
    obtain ⟨j, e2, hj2, hp2⟩ := key hi h5
    have w1 := q7 i hi1 hp1; have w2 := q7 j hj2 hp2
    have w3 := h6 a (by unfold wAll at q5; omega); have w4 := h6 z (by unfold wAll at q6; omega)
    rw [show rS (wAll b k) 301 = ⟨lo, hi⟩ from Sp.eq (by omega) (by omega)]
/-- The most that is left, among so many numbers. -/
def rMx (F : Nat → Int) : Nat → Int
  | 0 => 0
  | n + 1 => max (rMx F n) (F n)
theorem rMx_at {F : Nat → Int} : ∀ n : Nat, 0 ≤ rMx F n ∧ (∀ j : Nat, j < n → F j ≤ rMx F n) ∧ (rMx F n = 0 ∨ ∃ j : Nat, j < n ∧ rMx F n = F j) := by
  intro n
  induction n with
  | zero => exact ⟨Int.le_refl _, fun j hj => absurd hj (Nat.not_lt_zero _), .inl rfl⟩
  | succ n ih =>
    obtain ⟨h1, h2, h3⟩ := ih
    rw [rMx]
    refine ⟨by omega, fun j hj => ?_, ?_⟩
    · by_cases e : j = n
      · subst e; omega
      · have := h2 j (by omega); omega
    · by_cases c : F n ≤ rMx F n
      · rcases h3 with h | ⟨j, hj, h⟩
        · left; omega
        · right; exact ⟨j, by omega, by omega⟩
      · right; exact ⟨n, by omega, by omega⟩
theorem maxF_at {f : Int → Nat} : ∀ {l : List Int} {m : Nat}, m ≤ l.foldl (fun m n => max m (f n)) m ∧ (∀ x ∈ l, f x ≤ l.foldl (fun m n => max m (f n)) m) ∧ (l.foldl (fun m n => max m (f n)) m = m ∨ ∃ x ∈ l, l.foldl (fun m n => max m (f n)) m = f x) := by
  intro l
  induction l with
  | nil => intro m; simp
  | cons y l ih =>
    intro m
    obtain ⟨h1, h2, h3⟩ := ih (m := max m (f y))
    simp only [List.foldl_cons]
    refine ⟨by omega, fun x hx => ?_, ?_⟩
    · rcases List.mem_cons.1 hx with rfl | hx
      · omega
      · exact h2 x hx
    · rcases h3 with h | ⟨x, hx, h⟩
      · by_cases c : f y ≤ m
        · left; omega
        · right; exact ⟨y, List.mem_cons_self, by omega⟩
      · right; exact ⟨x, List.mem_cons_of_mem _ hx, h⟩
theorem rMx_worst {b : Bx} (hO : Ok b) {k : Nat} {s : Sp} (hs : b.sold[k]? = some s) : rMx (wAll b k) 301 = (b.worst k : Int) := by
  have hb := hO.wf.sp k s hs
  have hw : b.worst k = (nums s).foldl (fun m n => max m (withN b b.sold k n)) 0 := by simp only [Bx.worst, Bx.numsOf, hs, maxF]
  obtain ⟨p1, p2, p3⟩ := rMx_at (F := wAll b k) 301
  obtain ⟨q1, q2, q3⟩ := maxF_at (f := withN b b.sold k) (l := nums s) (m := 0)
  rw [hw]
  generalize (nums s).foldl (fun m n => max m (withN b b.sold k n)) 0 = M at q1 q2 q3 ⊢
  have h1 : rMx (wAll b k) 301 ≤ (M : Int) := by
    rcases p3 with h | ⟨j, hj, h⟩
    · omega
    · rw [h]; unfold wAll
      by_cases c : withN b b.sold k (j : Int) = 0
      · omega
      · have := q2 (j : Int) (mem_nums.2 (withN_out hs c)); omega
  have h2 : (M : Int) ≤ rMx (wAll b k) 301 := by
    rcases q3 with h | ⟨x, hx, h⟩
    · omega
    · have hx2 := mem_nums.1 hx
      have := p2 x.toNat (by omega)
      rw [show wAll b k x.toNat = (withN b b.sold k x : Int) from by unfold wAll; rw [show ((x.toNat : Nat) : Int) = x by omega]] at this
      omega
  omega
end Go.Till
