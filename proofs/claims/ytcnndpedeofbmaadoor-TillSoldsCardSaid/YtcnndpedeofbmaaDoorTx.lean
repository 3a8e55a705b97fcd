/-
  THE REFERENCE's WAYS, in plain Lean: amounts of all rolls but one.
-/
import Derived.Test.YtcnndpedeofbmaaDoorTs
set_option maxRecDepth 100000
namespace Go.Till
open Go Go.Sx
theorem arr_const {n : Nat} : arrN n (fun _ => 0) = List.replicate n 0 := by
  apply List.ext_getElem?
  intro j
  rcases Nat.lt_or_ge j n with h | h
  · rw [arr_at h, List.getElem?_replicate, if_pos h]
  · rw [List.getElem?_eq_none (by rw [arr_len]; exact h), List.getElem?_eq_none (by rw [List.length_replicate]; exact h)]
theorem own_rep (e : TypeId) (b n : Nat) : Sx.Own intL1 1 e (some ⟨b, 0, none⟩) n (arrN n (fun _ => 0)) b (some (.cells ⟨vals (List.replicate n 0)⟩ e (0, 0))) := by
  refine own_eq ?_ arr_const.symm
  have := own_vals e b (List.replicate n 0)
  rwa [List.length_replicate] at this
theorem own_len {e : TypeId} {A : Option Addr} {c b n : Nat} {f : Nat → Int} {o : Option Obj} (h : Sx.Own intL1 1 e A c (arrN n f) b o) (hn : 0 < n) : o.isSome = true := by
  obtain ⟨x, hx⟩ := Sx.Own.isSome h (by intro e; have := congrArg List.length e; rw [arr_len] at this; simp at this; omega)
  rw [hx]; rfl
/-- All amounts of the first k rolls, but of one of them. -/
def wayTo (b : Bx) (but : Int) : Nat → List Int
  | 0 => [0]
  | k + 1 => match b.rolls[k]?, b.sold[k]? with
    | some r, some s => if (k : Int) = but then wayTo b but k else ext (wayTo b but k) (r.price, s)
    | _, _ => wayTo b but k
theorem way_no {b : Bx} {but : Int} {k : Nat} {r : Roll} {s : Sp} (hr : b.rolls[k]? = some r) (hs : b.sold[k]? = some s) (h : (k : Int) = but) : wayTo b but (k + 1) = wayTo b but k := by
  simp only [wayTo, hr, hs]; rw [if_pos h]
theorem way_yes {b : Bx} {but : Int} {k : Nat} {r : Roll} {s : Sp} (hr : b.rolls[k]? = some r) (hs : b.sold[k]? = some s) (h : (k : Int) ≠ but) : wayTo b but (k + 1) = ext (wayTo b but k) (r.price, s) := by
  simp only [wayTo, hr, hs]; rw [if_neg h]
def LstOk (L : List Int) (k : Nat) : Prop := (∀ x ∈ L, 0 ≤ x ∧ x ≤ 15000 * (k : Int)) ∧ L.length ≤ 46 ^ k
theorem LstOk.ext {L : List Int} {k : Nat} (h : LstOk L k) {p : Int} {s : Sp} (hp : 1 ≤ p ∧ p ≤ 50) (hs : 0 ≤ s.lo ∧ s.lo ≤ 300 ∧ -1000 ≤ s.hi ∧ s.hi ≤ 300 ∧ s.hi - s.lo ≤ 45) : LstOk (ext L (p, s)) (k + 1) := by
  constructor
  · intro x hx
    obtain ⟨y, hy, m, hm, rfl⟩ := mem_ext.1 hx
    have h1 := h.1 y hy
    have h2 := mul_bd (m := m) (p := p) (by simp only at hm; omega) hp
    simp only; omega
  · have h1 : (Till.ext L (p, s)).length ≤ L.length * 46 := by
      clear h
      induction L with
      | nil => simp [Till.ext]
      | cons x L ih =>
        simp only [Till.ext, List.flatMap_cons, List.length_append, List.length_map, List.length_cons] at ih ⊢
        have : (nums s).length ≤ 46 := by rw [nums_len]; unfold Sp.len; omega
        omega
    have h2 := Nat.mul_le_mul_right 46 h.2
    rw [Nat.pow_succ]; omega
theorem LstOk.up {L : List Int} {k : Nat} (h : LstOk L k) : LstOk L (k + 1) :=
  ⟨fun x hx => by have := h.1 x hx; omega, Nat.le_trans h.2 (Nat.pow_le_pow_right (by decide) (by omega))⟩
theorem way_ok {b : Bx} (hO : Ok b) {but : Int} : ∀ k : Nat, k ≤ b.rolls.length → LstOk (wayTo b but k) k := by
  intro k
  induction k with
  | zero => intro _; exact ⟨fun x hx => by simp only [wayTo, List.mem_singleton] at hx; omega, by simp [wayTo]⟩
  | succ k ih =>
    intro hk
    obtain ⟨r, hr⟩ : ∃ r, b.rolls[k]? = some r := ⟨_, List.getElem?_eq_getElem (by omega)⟩
    obtain ⟨s, hs⟩ : ∃ s, b.sold[k]? = some s := ⟨_, List.getElem?_eq_getElem (by rw [hO.wf.len]; omega)⟩
    by_cases h : (k : Int) = but
    · rw [way_no hr hs h]; exact (ih (by omega)).up
    · rw [way_yes hr hs h]; exact (ih (by omega)).ext (hO.wf.price _ _ hr) (hO.wf.sp _ _ hs)
theorem lst_wf {L : List Int} {k : Nat} (h : LstOk L k) (hk : k ≤ 4) (a : Nat) : 0 ≤ wf L a ∧ wf L a ≤ 4477456 := by
  refine ⟨wf_nonneg, ?_⟩
  have h1 := wf_le (L := L) (a := a)
  have h3 := pow46 hk
  have := h.2
  omega
theorem lst_in {L : List Int} {k : Nat} (h : LstOk L k) (hk : k ≤ 4) : ∀ x ∈ L, 0 ≤ x ∧ x < ((60001 : Nat) : Int) := by
  intro x hx
  have := h.1 x hx
  omega
theorem lst_pour {L : List Int} {k : Nat} (h : LstOk L k) (hk : k ≤ 4) {p : Int} {s : Sp} : arr (pour (wf L) p (nums s) 60001) = arr (wf (ext L (p, s))) :=
  arr_congr (fun _ _ => pour_eq _ (lst_in h hk))
theorem lst_part {L : List Int} {k : Nat} (h : LstOk L k) (hk : k + 1 ≤ 4) {p : Int} {s : Sp} (hp : 1 ≤ p ∧ p ≤ 50) (hs : 0 ≤ s.lo ∧ s.lo ≤ 300 ∧ -1000 ≤ s.hi ∧ s.hi ≤ 300 ∧ s.hi - s.lo ≤ 45) {j t : Nat} (hj : j < 60001) (a : Nat) :
    0 ≤ pourP (wf L) p (nums s) j t a ∧ pourP (wf L) p (nums s) j t a ≤ 4477456 := by
  have h1 := pour_part (f := wf L) (fun i => wf_nonneg) (p := p) (ns := nums s) (a := a) (j := j) (t := t) hj
  have h2 := pour_eq (p := p) (s := s) (a := a) (n := 60001) L (lst_in h (by omega))
  have h3 := lst_wf (h.ext hp hs) hk a
  unfold pourP
  omega
theorem lst_idx {L : List Int} {k : Nat} (h : LstOk L k) (hk : k + 1 ≤ 4) {p : Int} {s : Sp} (hp : 1 ≤ p ∧ p ≤ 50) (hs : 0 ≤ s.lo ∧ s.lo ≤ 300 ∧ -1000 ≤ s.hi ∧ s.hi ≤ 300 ∧ s.hi - s.lo ≤ 45) {j : Nat} {x : Int} (hF : wf L j ≠ 0) (hx : s.lo ≤ x ∧ x ≤ s.hi) :
    0 ≤ x * p ∧ (j : Int) + x * p ≤ 60000 := by
  have h1 : (j : Int) ∈ L := by
    rw [← wf_pos]; have := wf_nonneg (L := L) (a := j); omega
  have h4 := (h.ext hp hs).1 ((j : Int) + x * p) (mem_ext.2 ⟨j, h1, x, hx, rfl⟩)
  have h6 := mul_bd (m := x) (p := p) (by omega) hp
  omega
theorem pourP_end {f : Nat → Int} {p : Int} {ns : List Int} {j t : Nat} (h : f j = 0 ∨ ns.length ≤ t) : pourP f p ns j t = pour f p ns (j + 1) := by
  funext a
  rcases h with h | h
  · simp [pourP, pour, h]
  · rw [← pourP_full]; simp only [pourP]; rw [List.take_of_length_le h, List.take_of_length_le (Nat.le_refl _)]
theorem way_all {b : Bx} (hO : Ok b) : ∀ k : Nat, k ≤ b.rolls.length → wayTo b (-1) k = sums [0] ((its b.rolls b.sold).take k) := by
  intro k
  induction k with
  | zero => intro _; rfl
  | succ k ih =>
    intro hk
    obtain ⟨r, hr⟩ : ∃ r, b.rolls[k]? = some r := ⟨_, List.getElem?_eq_getElem (by omega)⟩
    obtain ⟨s, hs⟩ : ∃ s, b.sold[k]? = some s := ⟨_, List.getElem?_eq_getElem (by rw [hO.wf.len]; omega)⟩
    rw [way_yes hr hs (by omega), its_take hr hs, ih (by omega)]
theorem way_b {b : Bx} (hO : Ok b) : wayTo b (-1) b.rolls.length = b.all := by
  rw [way_all hO _ (Nat.le_refl _), List.take_of_length_le (by rw [hO.wf.its_len]; exact Nat.le_refl _)]; rfl
/-- So many truths bring less than n. -/
def sumTo (L : List Int) (g : Int → Bool) : Nat → Int
  | 0 => 0
  | n + 1 => if g (n : Int) = true then sumTo L g n + wf L n else sumTo L g n
theorem countP_step {g : Int → Bool} {n : Nat} : ∀ L : List Int, L.countP (fun x => g x && decide (x < ((n + 1 : Nat) : Int))) = L.countP (fun x => g x && decide (x < (n : Int))) + (if g (n : Int) = true then L.count (n : Int) else 0) := by
  intro L
  induction L with
  | nil => simp
  | cons x L ih =>
    simp only [List.countP_cons, List.count_cons, ih]
    by_cases e : x = (n : Int)
    · subst e
      have h1 : decide ((n : Int) < ((n + 1 : Nat) : Int)) = true := by rw [decide_eq_true_eq]; omega
      have h2 : decide ((n : Int) < (n : Int)) = false := by rw [decide_eq_false_iff_not]; omega
      rw [h1, h2, Bool.and_true, Bool.and_false]
      cases hg : g (n : Int) with
      | false => simp
      | true => simp only [if_true, beq_self_eq_true, Bool.false_eq_true, if_false]; omega
    · have h1 : decide (x < ((n + 1 : Nat) : Int)) = decide (x < (n : Int)) := by simp only [decide_eq_decide]; omega
      rw [h1]
      have h2 : (x == (n : Int)) = false := by rw [beq_eq_false_iff_ne]; exact e
      rw [h2]
      simp only [Bool.false_eq_true, if_false, Nat.add_zero]
      split <;> omega
theorem sumTo_eq {L : List Int} {g : Int → Bool} (h : ∀ x ∈ L, 0 ≤ x) : ∀ n : Nat, sumTo L g n = ((L.countP (fun x => g x && decide (x < (n : Int))) : Nat) : Int) := by
  intro n
  induction n with
  | zero =>
    have : L.countP (fun x => g x && decide (x < ((0 : Nat) : Int))) = 0 := by
      rw [List.countP_eq_zero]; intro x hx
      have := h x hx
      simp only [Bool.and_eq_true, decide_eq_true_eq]; omega
    rw [this]; rfl
  | succ n ih =>
    rw [countP_step, sumTo, ih]
    unfold wf
    split <;> omega
theorem sumTo_bd {L : List Int} {g : Int → Bool} {k : Nat} (h : LstOk L k) (hk : k ≤ 4) (n : Nat) : 0 ≤ sumTo L g n ∧ sumTo L g n ≤ 4477456 := by
  rw [sumTo_eq (fun x hx => (h.1 x hx).1)]
  have h1 := List.countP_le_length (p := fun x => g x && decide (x < (n : Int))) (l := L)
  have h2 := pow46 hk
  have := h.2
  omega
theorem sumTo_many {b : Bx} (hO : Ok b) : sumTo b.all (right b) 60001 = (b.many : Int) := by
  rw [sumTo_eq (fun x hx => (all_range hO hx).1), many_eq]
  congr 1
  refine List.countP_congr (fun x hx => ?_)
  have := all_range hO hx
  have h1 : decide (x < ((60001 : Nat) : Int)) = true := by rw [decide_eq_true_eq]; omega
  rw [h1, Bool.and_true]
end Go.Till
