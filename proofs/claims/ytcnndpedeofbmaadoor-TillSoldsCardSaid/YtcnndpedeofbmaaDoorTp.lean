/-
  THE TILL's ARRAYS, step by step: what pours from one into the next, what is cut, what is taken together.
-/
import Derived.Test.YtcnndpedeofbmaaDoorTn
set_option maxRecDepth 100000
namespace Go.Till
open Go Go.Sx
/-- The loops' ghosts. -/
structure AllG where
  k : Nat
  b : Nat
  o : Option Obj
  ds : List Nat
structure InG where
  j : Nat
  o : Option Obj
  ds : List Nat
theorem own_arr (e : TypeId) (b : Nat) (f : Nat → Int) : Sx.Own intL1 1 e (some ⟨b, 0, none⟩) 60001 (arr f) b (some (.cells ⟨vals (arr f)⟩ e (0, 0))) := by
  have := own_vals e b (arr f)
  rwa [arr_len] at this
theorem own_arr_some {e : TypeId} {A : Option Addr} {c b : Nat} {f : Nat → Int} {o : Option Obj} (h : Sx.Own intL1 1 e A c (arr f) b o) : o.isSome = true := by
  obtain ⟨x, hx⟩ := Sx.Own.isSome h (by intro e; have := congrArg List.length e; rw [arr_len] at this; simp at this)
  rw [hx]; rfl
theorem arr_start : arr (upd (fun _ => 0) 0 1) = arr (wf (sums [0] [])) := by
  refine arr_congr (fun i _ => ?_)
  simp only [upd, sums, List.foldl_nil, wf, List.count_cons, List.count_nil, beq_iff_eq]
  by_cases h : i = 0
  · subst h; simp
  · rw [if_neg h, if_neg (by omega)]; rfl
/-- What is poured when so many tickets of an amount are done. -/
def pourP (f : Nat → Int) (p : Int) (ns : List Int) (j t : Nat) : Nat → Int := fun a => pour f p ns j a + f j * hits j p (ns.take t) a
theorem pourP_zero {f : Nat → Int} {p : Int} {ns : List Int} {j : Nat} : pourP f p ns j 0 = pour f p ns j := by
  funext a; simp [pourP, hits]
theorem pourP_full {f : Nat → Int} {p : Int} {ns : List Int} {j : Nat} : pourP f p ns j ns.length = pour f p ns (j + 1) := by
  funext a; simp [pourP, pour]
theorem pourP_step {f : Nat → Int} {p : Int} {ns : List Int} {j t : Nat} {x : Int} (hx : ns[t]? = some x) (h0 : 0 ≤ (j : Int) + x * p) :
    upd (pourP f p ns j t) ((j : Int) + x * p).toNat (pourP f p ns j t ((j : Int) + x * p).toNat + f j) = pourP f p ns j (t + 1) := by
  funext a
  simp only [upd, pourP, hits_snoc hx]
  by_cases h : a = ((j : Int) + x * p).toNat
  · subst h
    rw [if_pos rfl, if_pos (by omega), Int.mul_add]; omega
  · rw [if_neg h, if_neg (by omega)]; simp
theorem pour_skip {f : Nat → Int} {p : Int} {ns : List Int} {j : Nat} (h : f j = 0) : pour f p ns j = pour f p ns (j + 1) := by
  funext a; simp [pour, h]
theorem all_bd {b : Bx} {ss : List Sp} (hwf : Wf b ss) {k : Nat} (hk : k ≤ b.rolls.length) : ∀ x ∈ sums [0] ((its b.rolls ss).take k), 0 ≤ x ∧ x < ((60001 : Nat) : Int) := by
  intro x hx
  have := sums_bd (hwf.small.take k) [0] 0 0 (fun z hz => by simp at hz; omega) x hx
  have h2 : ((its b.rolls ss).take k).length ≤ 4 := by rw [List.length_take, hwf.its_len]; have := hwf.n4; omega
  omega
theorem its_take {b : Bx} {ss : List Sp} {k : Nat} {r : Roll} {s : Sp} (hr : b.rolls[k]? = some r) (hs : ss[k]? = some s) : sums [0] ((its b.rolls ss).take (k + 1)) = ext (sums [0] ((its b.rolls ss).take k)) (r.price, s) := by
  rw [List.take_add_one, its_at hr hs]; exact sums_snoc _ _ _
theorem pour_done {b : Bx} {ss : List Sp} (hwf : Wf b ss) {k : Nat} {r : Roll} {s : Sp} (hr : b.rolls[k]? = some r) (hs : ss[k]? = some s) :
    arr (pour (wf (sums [0] ((its b.rolls ss).take k))) r.price (nums s) 60001) = arr (wf (sums [0] ((its b.rolls ss).take (k + 1)))) := by
  refine arr_congr (fun a _ => ?_)
  rw [its_take hr hs]
  exact pour_eq _ (all_bd hwf (Nat.le_of_lt (List.getElem?_eq_some_iff.1 hr).1))
theorem wf_bd {b : Bx} {ss : List Sp} (hwf : Wf b ss) (k a : Nat) : 0 ≤ wf (sums [0] ((its b.rolls ss).take k)) a ∧ wf (sums [0] ((its b.rolls ss).take k)) a ≤ 4477456 := by
  refine ⟨wf_nonneg, ?_⟩
  have h1 := wf_le (L := sums [0] ((its b.rolls ss).take k)) (a := a)
  have h2 := sums_len (hwf.small.take k) 0
  have h3 := pow46 (n := ((its b.rolls ss).take k).length) (by rw [List.length_take, hwf.its_len]; have := hwf.n4; omega)
  omega
theorem pourP_bd {b : Bx} {ss : List Sp} (hwf : Wf b ss) {k : Nat} {r : Roll} {s : Sp} (hr : b.rolls[k]? = some r) (hs : ss[k]? = some s) {j t : Nat} (hj : j < 60001) (a : Nat) :
    0 ≤ pourP (wf (sums [0] ((its b.rolls ss).take k))) r.price (nums s) j t a ∧ pourP (wf (sums [0] ((its b.rolls ss).take k))) r.price (nums s) j t a ≤ 4477456 := by
  have h1 := pour_part (f := wf (sums [0] ((its b.rolls ss).take k))) (fun i => wf_nonneg) (p := r.price) (ns := nums s) (a := a) (j := j) (t := t) hj
  have h2 := pour_eq (p := r.price) (s := s) (a := a) (n := 60001) _ (all_bd hwf (k := k) (Nat.le_of_lt (List.getElem?_eq_some_iff.1 hr).1))
  rw [← its_take hr hs] at h2
  have h3 := wf_bd hwf (k + 1) a
  unfold pourP
  omega
theorem idx_bd {b : Bx} {ss : List Sp} (hwf : Wf b ss) {k : Nat} {r : Roll} {s : Sp} (hr : b.rolls[k]? = some r) (hs : ss[k]? = some s) {j t : Nat} {x : Int} (hF : wf (sums [0] ((its b.rolls ss).take k)) j ≠ 0) (hx : (nums s)[t]? = some x) :
    0 ≤ x * r.price ∧ (j : Int) + x * r.price ≤ 60000 := by
  have h1 : (j : Int) ∈ sums [0] ((its b.rolls ss).take k) := by
    rw [← wf_pos]; have := wf_nonneg (L := sums [0] ((its b.rolls ss).take k)) (a := j); omega
  have h2 := nums_at hx
  have h3 : (j : Int) + x * r.price ∈ sums [0] ((its b.rolls ss).take (k + 1)) := by
    rw [its_take hr hs, mem_ext]; exact ⟨j, h1, x, h2.2.2, rfl⟩
  have h4 := all_bd hwf (List.getElem?_eq_some_iff.1 hr).1 _ h3
  have h5 := hwf.sp k s hs
  have h6 := mul_bd (m := x) (p := r.price) (by omega) (hwf.price k r hr)
  omega
/-! ### What is cut -/
def cutA (b : Bx) (W : Nat → Int) (i : Nat) : Nat → Int := fun a => bif decide (a < i) && !right b (a : Int) then 0 else W a
theorem cutA_zero {b : Bx} {W : Nat → Int} : cutA b W 0 = W := by funext a; simp [cutA]
theorem cutA_no {b : Bx} {W : Nat → Int} {i : Nat} (h : right b (i : Int) = false) : upd (cutA b W i) i 0 = cutA b W (i + 1) := by
  funext a
  simp only [upd, cutA]
  by_cases e : a = i
  · subst e; simp [h]
  · rw [if_neg e]
    have : decide (a < i) = decide (a < i + 1) := by simp only [decide_eq_decide]; omega
    rw [this]
theorem cutA_yes {b : Bx} {W : Nat → Int} {i : Nat} (h : right b (i : Int) = true) : cutA b W i = cutA b W (i + 1) := by
  funext a
  simp only [cutA]
  by_cases e : a = i
  · subst e; simp [h]
  · have : decide (a < i) = decide (a < i + 1) := by simp only [decide_eq_decide]; omega
    rw [this]
theorem cutA_pos {b : Bx} {L : List Int} {a : Nat} (h : a < 60001) : cutA b (wf L) 60001 a ≠ 0 ↔ (right b (a : Int) && decide (0 < wf L a)) = true := by
  simp only [cutA, h, decide_true, Bool.true_and]
  cases right b (a : Int) with
  | false => simp
  | true =>
    have := wf_nonneg (L := L) (a := a)
    simp only [Bool.not_true, cond_false, Bool.true_and, decide_eq_true_eq]
    omega
theorem cut_ne {b : Bx} (hO : Ok b) (hm : b.many ≠ 0) : (List.range 60001).all (fun i => cutA b (wf b.all) 60001 i == (fun _ => 0) i) = false := by
  rw [many_eq, ← Nat.pos_iff_ne_zero, List.countP_pos_iff] at hm
  obtain ⟨x, hx, hr⟩ := hm
  have hx0 := all_bd hO.wf (k := b.rolls.length) (Nat.le_refl _) x (by rw [List.take_of_length_le (by rw [hO.wf.its_len]; exact Nat.le_refl _)]; exact hx)
  obtain ⟨a, rfl⟩ : ∃ a : Nat, x = (a : Int) := ⟨x.toNat, by omega⟩
  rw [List.all_eq_false]
  refine ⟨a, by simp; omega, ?_⟩
  have := (cutA_pos (b := b) (L := b.all) (a := a) (by omega)).2 (by rw [hr, Bool.true_and, decide_eq_true_eq, wf_pos]; exact hx)
  simpa using this
theorem amts_snoc {b : Bx} {i : Nat} (h : (right b (i : Int) && decide (0 < wf b.all i)) = true) : b.amtsTo (i + 1) = b.amtsTo i ++ [(i : Int)] := by
  simp only [Bx.amtsTo, List.range_succ, List.filter_append, List.filter_cons, h, if_true, List.filter_nil, List.map_append, List.map_cons, List.map_nil]
theorem amts_skip {b : Bx} {i : Nat} (h : ¬ (right b (i : Int) && decide (0 < wf b.all i)) = true) : b.amtsTo (i + 1) = b.amtsTo i := by
  simp only [Bx.amtsTo, List.range_succ, List.filter_append, List.filter_cons, h, List.filter_nil]
  simp
theorem spanOf_snoc {l : List Int} {x : Int} (h : l ≠ []) : spanOf (l ++ [x]) = widen (spanOf l) x := by
  cases l with
  | nil => exact absurd rfl h
  | cons m l => simp [spanOf]
theorem spanOf_bd {l : List Int} {c : Int} (h0 : 0 ≤ c) (h : ∀ x ∈ l, -c ≤ x ∧ x ≤ c) : -c ≤ (spanOf l).lo ∧ (spanOf l).lo ≤ c ∧ -c ≤ (spanOf l).hi ∧ (spanOf l).hi ≤ c := by
  cases l with
  | nil => simp only [spanOf]; omega
  | cons m l =>
    have hm := h m (by simp)
    have key : ∀ (l : List Int) (o : Sp), (-c ≤ o.lo ∧ o.lo ≤ c ∧ -c ≤ o.hi ∧ o.hi ≤ c) → (∀ x ∈ l, -c ≤ x ∧ x ≤ c) → (-c ≤ (l.foldl widen o).lo ∧ (l.foldl widen o).lo ≤ c ∧ -c ≤ (l.foldl widen o).hi ∧ (l.foldl widen o).hi ≤ c) := by
      intro l
      induction l with
      | nil => intro o ho _; exact ho
      | cons y l ih =>
        intro o ho hl
        have hy := hl y (by simp)
        refine ih _ ?_ (fun z hz => hl z (by simp [hz]))
        simp only [widen]; omega
    exact key l _ (by simp only; omega) (fun x hx => h x (by simp [hx]))
theorem amts_at {b : Bx} {n : Nat} {x : Int} (h : x ∈ b.amtsTo n) : 0 ≤ x ∧ x < (n : Int) ∧ right b x = true ∧ x ∈ b.all := by
  simp only [Bx.amtsTo, List.mem_map, List.mem_filter, List.mem_range, Bool.and_eq_true, decide_eq_true_eq] at h
  obtain ⟨a, ⟨h1, h2, h3⟩, rfl⟩ := h
  exact ⟨by omega, by omega, h2, wf_pos.1 h3⟩
theorem amts_mem {b : Bx} (hO : Ok b) {x : Int} : x ∈ b.amts ↔ right b x = true ∧ x ∈ b.all := by
  constructor
  · intro h; exact (amts_at h).2.2
  · rintro ⟨h1, h2⟩
    have hx0 := all_bd hO.wf (k := b.rolls.length) (Nat.le_refl _) x (by rw [List.take_of_length_le (by rw [hO.wf.its_len]; exact Nat.le_refl _)]; exact h2)
    obtain ⟨a, rfl⟩ : ∃ a : Nat, x = (a : Int) := ⟨x.toNat, by omega⟩
    simp only [Bx.amts, Bx.amtsTo, List.mem_map, List.mem_filter, List.mem_range, Bool.and_eq_true, decide_eq_true_eq]
    exact ⟨a, ⟨by omega, h1, wf_pos.2 h2⟩, rfl⟩
theorem wrong_bd {b : Bx} : ∀ n, (∀ a : Nat, a < n → 0 ≤ max ((a : Int) - b.count) (b.count - (a : Int))) → 0 ≤ b.wrongTo n ∧ b.wrongTo n ≤ 201 := by
  intro n
  induction n with
  | zero => intro _; simp [Bx.wrongTo]
  | succ n ih =>
    intro h
    have h1 := ih (fun a ha => h a (by omega))
    have h2 := h n (by omega)
    rw [Bx.wrongTo]
    split <;> omega
end Go.Till
