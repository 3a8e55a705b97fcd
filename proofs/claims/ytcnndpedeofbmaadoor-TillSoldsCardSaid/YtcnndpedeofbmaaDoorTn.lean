/-
  THE TILL: how amounts come together, in plain Lean; what the functions answer.
-/
import Derived.Test.YtcnndpedeofbmaaDoorTm
import Derived.Test.YtcnndpedeofbmaaDoorSh
set_option maxRecDepth 100000
namespace Go.Till
open Go Go.Sx
/-! ### Arrays of ways -/
def arrN (n : Nat) (f : Nat → Int) : List Int := (List.range n).map f
abbrev arr (f : Nat → Int) : List Int := arrN 60001 f
def upd (f : Nat → Int) (i : Nat) (v : Int) : Nat → Int := fun j => if j = i then v else f j
theorem arr_at {n : Nat} {f : Nat → Int} {i : Nat} (h : i < n) : (arrN n f)[i]? = some (f i) := by
  simp [arrN, List.getElem?_range h]
theorem arr_len {n : Nat} {f : Nat → Int} : (arrN n f).length = n := by simp [arrN]
theorem arr_set {n : Nat} {f : Nat → Int} {i : Nat} {v : Int} : (arrN n f).set i v = arrN n (upd f i v) := by
  apply List.ext_getElem?
  intro j
  rcases Nat.lt_or_ge j n with h | h
  · rw [arr_at h]
    by_cases e : j = i
    · subst e; rw [List.getElem?_set_self (by rw [arr_len]; exact h)]; simp [upd]
    · rw [List.getElem?_set_ne (fun h => e h.symm), arr_at h]; simp [upd, e]
  · rw [List.getElem?_eq_none (by rw [List.length_set, arr_len]; exact h), List.getElem?_eq_none (by rw [arr_len]; exact h)]
theorem arr_congr {n : Nat} {f g : Nat → Int} (h : ∀ i, i < n → f i = g i) : arrN n f = arrN n g := by
  apply List.ext_getElem?
  intro j
  rcases Nat.lt_or_ge j n with hj | hj
  · rw [arr_at hj, arr_at hj, h j hj]
  · rw [List.getElem?_eq_none (by rw [arr_len]; exact hj), List.getElem?_eq_none (by rw [arr_len]; exact hj)]
/-- How often so many tickets lead from one amount to another. -/
def hits (x : Nat) (p : Int) (ns : List Int) (a : Nat) : Int := ((ns.countP (fun m => (x : Int) + m * p == (a : Int)) : Nat) : Int)
def pour (f : Nat → Int) (p : Int) (ns : List Int) : Nat → Nat → Int
  | 0, _ => 0
  | j + 1, a => pour f p ns j a + f j * hits j p ns a
/-- How often an amount is there. -/
def wf (L : List Int) : Nat → Int := fun a => ((L.count (a : Int) : Nat) : Int)
theorem hits_nonneg {x : Nat} {p : Int} {ns : List Int} {a : Nat} : 0 ≤ hits x p ns a := by unfold hits; omega
theorem wf_nonneg {L : List Int} {a : Nat} : 0 ≤ wf L a := by unfold wf; omega
theorem wf_pos {L : List Int} {a : Nat} : 0 < wf L a ↔ (a : Int) ∈ L := by
  unfold wf; rw [← List.count_pos_iff]; omega
theorem wf_zero {L : List Int} {a : Nat} : wf L a = 0 ↔ (a : Int) ∉ L := by
  rw [← wf_pos]; have := wf_nonneg (L := L) (a := a); omega
theorem wf_le {L : List Int} {a : Nat} : wf L a ≤ (L.length : Int) := by
  unfold wf; have := List.count_le_length (a := (a : Int)) (l := L); omega
theorem hits_snoc {x : Nat} {p : Int} {ns : List Int} {a t : Nat} {m : Int} (h : ns[t]? = some m) : hits x p (ns.take (t + 1)) a = hits x p (ns.take t) a + (if (x : Int) + m * p = (a : Int) then 1 else 0) := by
  unfold hits
  rw [List.take_add_one, h, List.countP_append]
  simp only [Option.toList_some, List.countP_singleton, beq_iff_eq]
  split <;> simp
theorem pour_add {f g : Nat → Int} {p : Int} {ns : List Int} {a : Nat} : ∀ j, pour (fun i => f i + g i) p ns j a = pour f p ns j a + pour g p ns j a := by
  intro j
  induction j with
  | zero => rfl
  | succ j ih => simp only [pour, ih, Int.add_mul]; omega
theorem pour_zero {f : Nat → Int} {p : Int} {ns : List Int} {a : Nat} : ∀ j, (∀ i, i < j → f i = 0) → pour f p ns j a = 0 := by
  intro j
  induction j with
  | zero => intro _; rfl
  | succ j ih => intro h; rw [pour, ih (fun i hi => h i (by omega)), h j (by omega)]; simp
theorem pour_one {x : Nat} {p : Int} {ns : List Int} {a : Nat} : ∀ j, x < j → pour (fun i => if i = x then 1 else 0) p ns j a = hits x p ns a := by
  intro j
  induction j with
  | zero => intro h; omega
  | succ j ih =>
    intro h
    rw [pour]
    by_cases e : j = x
    · subst e
      rw [pour_zero j (fun i hi => by rw [if_neg (by omega)])]; simp
    · rw [ih (by omega), if_neg e]; simp
theorem pour_congr {f g : Nat → Int} {p : Int} {ns : List Int} {a : Nat} : ∀ j, (∀ i, i < j → f i = g i) → pour f p ns j a = pour g p ns j a := by
  intro j
  induction j with
  | zero => intro _; rfl
  | succ j ih => intro h; rw [pour, pour, ih (fun i hi => h i (by omega)), h j (by omega)]
theorem count_shift {x p : Int} {s : Sp} {a : Nat} : (((ext [x] (p, s)).count (a : Int) : Nat) : Int) = (((nums s).countP (fun m => x + m * p == (a : Int)) : Nat) : Int) := by
  rw [ext_one, List.count_eq_countP, List.countP_map]; rfl
theorem pour_eq {p : Int} {s : Sp} {a n : Nat} : ∀ L : List Int, (∀ x ∈ L, 0 ≤ x ∧ x < n) → pour (wf L) p (nums s) n a = wf (ext L (p, s)) a := by
  intro L
  induction L with
  | nil => intro _; rw [pour_zero n (fun i _ => by simp [wf])]; simp [wf, ext]
  | cons x L ih =>
    intro h
    have h1 := h x (by simp)
    have e : wf (x :: L) = fun i => (if i = x.toNat then 1 else 0) + wf L i := by
      funext i
      simp only [wf, List.count_cons, beq_iff_eq]
      by_cases e : i = x.toNat
      · rw [if_pos (show x = (i : Int) by omega), if_pos e]; omega
      · rw [if_neg (show ¬ x = (i : Int) by omega), if_neg e]; omega
    rw [e, pour_add, ih (fun y hy => h y (by simp [hy])), pour_one n (by omega)]
    rw [show ext (x :: L) (p, s) = ext [x] (p, s) ++ ext L (p, s) from by simp [ext]]
    have := count_shift (x := x) (p := p) (s := s) (a := a)
    simp only [wf, List.count_append, hits]
    rw [show ((x.toNat : Nat) : Int) = x from by omega]
    omega
theorem pour_mono {f : Nat → Int} (hf : ∀ i, 0 ≤ f i) {p : Int} {ns : List Int} {a j : Nat} : ∀ n, j ≤ n → pour f p ns j a ≤ pour f p ns n a := by
  intro n
  induction n with
  | zero => intro h; have : j = 0 := by omega
            subst this; exact Int.le_refl _
  | succ n ih =>
    intro h
    rcases Nat.lt_or_ge n j with hl | hl
    · have : j = n + 1 := by omega
      subst this; exact Int.le_refl _
    · have := ih hl
      have h2 := Int.mul_nonneg (hf n) (hits_nonneg (x := n) (p := p) (ns := ns) (a := a))
      rw [pour]; omega
theorem pour_nonneg {f : Nat → Int} (hf : ∀ i, 0 ≤ f i) {p : Int} {ns : List Int} {a : Nat} : ∀ j, 0 ≤ pour f p ns j a := by
  intro j; have := pour_mono hf (p := p) (ns := ns) (a := a) (j := 0) j (by omega); simpa [pour] using this
theorem hits_take {x : Nat} {p : Int} {ns : List Int} {a t : Nat} : hits x p (ns.take t) a ≤ hits x p ns a := by
  unfold hits
  have := (List.take_sublist t ns).countP_le (p := fun m => (x : Int) + m * p == (a : Int))
  omega
/-- What is poured so far is no more than all. -/
theorem pour_part {f : Nat → Int} (hf : ∀ i, 0 ≤ f i) {p : Int} {ns : List Int} {a j t n : Nat} (hj : j < n) : 0 ≤ pour f p ns j a + f j * hits j p (ns.take t) a ∧ pour f p ns j a + f j * hits j p (ns.take t) a ≤ pour f p ns n a := by
  have h1 := pour_mono hf (p := p) (ns := ns) (a := a) (j := j + 1) n hj
  have h2 := Int.mul_le_mul_of_nonneg_left (hits_take (x := j) (p := p) (ns := ns) (a := a) (t := t)) (hf j)
  have h3 := pour_nonneg hf (p := p) (ns := ns) (a := a) j
  have h4 := Int.mul_nonneg (hf j) (hits_nonneg (x := j) (p := p) (ns := ns.take t) (a := a))
  rw [pour] at h1; omega
theorem hits_nil {x : Nat} {p : Int} {a : Nat} : hits x p [] a = 0 := rfl
theorem sums_len {l : Its} (h : Small l) (x : Int) : (sums [x] l).length ≤ 46 ^ l.length := by
  have := cnt_le (g := fun _ => true) h x
  rw [cnt] at this; simpa using this
/-! ### What the functions answer -/
def Bx.its (b : Bx) : Its := Till.its b.rolls b.sold
/-- All amounts of a box, each as often as it comes together. -/
def Bx.all (b : Bx) : List Int := sums [0] b.its
def Bx.many (b : Bx) : Nat := cnt (right b) b.its 0
theorem many_eq (b : Bx) : b.many = b.all.countP (right b) := rfl
def Bx.manyR (b : Bx) : Int × Int := if b.ok = true then (min (b.many : Int) 1000000, 0) else (0, 90)
def tak : List Roll → List Int → Int
  | r :: rs, n :: ns => n * r.price + tak rs ns
  | _, _ => 0
def canB (_b : Bx) (ss : List Sp) (sold : List Int) : Bool := (sold.zip ss).all (fun q => within q.1 q.2.lo q.2.hi)
def Bx.truth (b : Bx) (sold : List Int) : Bool := ((sold.length == b.rolls.length) && canB b b.sold sold) && right b (tak b.rolls sold)
def Bx.truthR (b : Bx) (sold : List Int) : Bool × Int := if b.ok = true then (b.truth sold, 0) else (false, 90)
def Bx.asked (b : Bx) (rt : Bool) : Int := if b.ok = true then if rt = true then if b.many = 0 then 92 else 0 else 91 else 90
def withN (b : Bx) (ss : List Sp) (k : Nat) (n : Int) : Nat := match ss[k]? with
  | some s => if within n s.lo s.hi = true then cnt (right b) (Till.its b.rolls (ss.set k ⟨n, n⟩)) 0 else 0
  | none => 0
def soldStep (f : Int → Nat) (o : Sp) (n : Int) : Sp := if f n = 0 then o else ⟨if o.lo < 0 then n else o.lo, n⟩
def soldF (f : Int → Nat) (l : List Int) : Sp := l.foldl (soldStep f) ⟨-1, 0⟩
def Bx.numsOf (b : Bx) (k : Nat) : List Int := match b.sold[k]? with
  | some s => nums s
  | none => []
def isRoll (b : Bx) (k : Int) : Bool := within k 0 ((b.rolls.length : Int) - 1)
def Bx.soldR (b : Bx) (k : Int) : Sp × Int := if b.asked (isRoll b k) = 0 then (soldF (withN b b.sold k.toNat) (b.numsOf k.toNat), 0) else (⟨0, 0⟩, b.asked (isRoll b k))
def Bx.canR (b : Bx) (k n : Int) : Bool × Int := if b.asked (isRoll b k) = 0 then (decide (0 < withN b b.sold k.toNat n), 0) else (false, b.asked (isRoll b k))
def dutyI (b : Bx) (t : Int) : Int := t * b.duty / 100
def hireI (b : Bx) (t : Int) : Int := max b.guar ((t - dutyI b t) * b.share / 100)
def leftI (b : Bx) (t : Int) : Int := t - dutyI b t - hireI b t
/-- The amounts that can be, from the least up, to n. -/
def Bx.amtsTo (b : Bx) (n : Nat) : List Int := ((List.range n).filter (fun (a : Nat) => right b (a : Int) && decide (0 < wf b.all a))).map (fun (a : Nat) => (a : Int))
def Bx.amts (b : Bx) : List Int := b.amtsTo 60001
def widen (o : Sp) (x : Int) : Sp := ⟨min o.lo x, max o.hi x⟩
def spanOf : List Int → Sp
  | [] => ⟨0, 0⟩
  | m :: l => l.foldl widen ⟨m, m⟩
def Bx.betweenR (b : Bx) (f : Bx → Int → Int) : Sp × Int := if b.asked true = 0 then (spanOf (b.amts.map (f b)), 0) else (⟨0, 0⟩, b.asked true)
def Bx.wrongTo (b : Bx) : Nat → Int
  | 0 => 201
  | n + 1 => if 0 < wf b.all n then min (b.wrongTo n) (max ((n : Int) - b.count) (b.count - (n : Int))) else b.wrongTo n
def Bx.wrongI (b : Bx) : Int := b.wrongTo 60001
def Bx.wrongR (b : Bx) : Int × Int := if b.ok = true then if b.wrongI > 200 then (0, 4) else (b.wrongI, 0) else (0, 90)
def maxF (f : Int → Nat) (l : List Int) : Nat := l.foldl (fun m n => max m (f n)) 0
def Bx.worst (b : Bx) (k : Nat) : Nat := maxF (withN b b.sold k) (b.numsOf k)
/-- The roll to look at among the first n, and what is left with it at the worst. -/
def Bx.askTo (b : Bx) : Nat → Int × Nat
  | 0 => (-1, b.many)
  | n + 1 => if (b.askTo n).1 < 0 ∨ b.worst n < (b.askTo n).2 then ((n : Int), b.worst n) else b.askTo n
def Bx.askR (b : Bx) : Int × Int := if b.asked true = 0 then if b.many = 1 then (0, 4) else ((b.askTo b.rolls.length).1, 0) else (0, b.asked true)
theorem asked_cases {b : Bx} {rt : Bool} (h : b.asked rt ≠ 0) : b.ok = false ∨ (b.ok = true ∧ rt = false) ∨ (b.ok = true ∧ rt = true ∧ b.many = 0) := by
  cases hok : b.ok with
  | false => exact .inl rfl
  | true =>
    cases rt with
    | false => exact .inr (.inl ⟨rfl, rfl⟩)
    | true =>
      refine .inr (.inr ⟨rfl, rfl, ?_⟩)
      by_cases hm : b.many = 0
      · exact hm
      · exact absurd (by simp [Bx.asked, hok, hm]) h
theorem asked_cases2 {b : Bx} (h : b.asked true ≠ 0) : b.ok = false ∨ (b.ok = true ∧ b.many = 0) := by
  rcases asked_cases h with h | ⟨_, h⟩ | ⟨h1, _, h2⟩
  · exact .inl h
  · cases h
  · exact .inr ⟨h1, h2⟩
theorem asked_zero {b : Bx} {rt : Bool} : b.asked rt = 0 ↔ b.ok = true ∧ rt = true ∧ b.many ≠ 0 := by
  cases hok : b.ok <;> cases rt <;> by_cases hm : b.many = 0 <;> simp [Bx.asked, hok, hm]
theorem soldF_snoc {f : Int → Nat} {l : List Int} {i : Nat} {x : Int} (h : l[i]? = some x) : soldF f (l.take (i + 1)) = soldStep f (soldF f (l.take i)) x := by
  rw [List.take_add_one, h]; simp [soldF]
theorem maxF_snoc {f : Int → Nat} {l : List Int} {i : Nat} {x : Int} (h : l[i]? = some x) : maxF f (l.take (i + 1)) = max (maxF f (l.take i)) (f x) := by
  rw [List.take_add_one, h]; simp [maxF]
theorem tak_snoc {rs : List Roll} : ∀ {xs : List Int} {i : Nat} {r : Roll} {x : Int}, rs[i]? = some r → xs[i]? = some x → tak rs (xs.take (i + 1)) = tak rs (xs.take i) + x * r.price := by
  induction rs with
  | nil => intro xs i r x h; simp at h
  | cons r0 rs ih =>
    intro xs i r x hr hx
    cases xs with
    | nil => simp at hx
    | cons x0 xs =>
      cases i with
      | zero => simp at hr hx; subst hr hx; simp [tak]
      | succ i =>
        simp only [List.getElem?_cons_succ] at hr hx
        have := ih hr hx
        simp only [List.take_succ_cons, tak, this]; omega
theorem canB_snoc {b : Bx} {ss : List Sp} {xs : List Int} {i : Nat} {x : Int} {s : Sp} (hx : xs[i]? = some x) (hs : ss[i]? = some s) : canB b ss (xs.take (i + 1)) = (canB b ss (xs.take i) && within x s.lo s.hi) := by
  have h1 : ∀ j, (xs.take j).zip ss = (xs.zip ss).take j := by
    intro j
    induction xs generalizing j ss with
    | nil => simp
    | cons y ys ih =>
      cases ss with
      | nil => simp
      | cons t ts =>
        cases j with
        | zero => simp
        | succ j => simp only [List.take_succ_cons, List.zip_cons_cons, List.cons.injEq, true_and]; exact (by
          clear hx hs ih
          induction ys generalizing j ts with
          | nil => simp
          | cons z zs ih2 => cases ts with
            | nil => simp
            | cons u us => cases j with
              | zero => simp
              | succ j => simp only [List.take_succ_cons, List.zip_cons_cons, List.cons.injEq, true_and]; exact ih2 us j)
  unfold canB
  rw [h1, h1, all_snoc (zip_at hx hs)]
theorem canB_false {b : Bx} {ss : List Sp} {xs : List Int} {i : Nat} {x : Int} {s : Sp} (hx : xs[i]? = some x) (hs : ss[i]? = some s) (h : within x s.lo s.hi = false) : canB b ss xs = false := by
  unfold canB
  rw [List.all_eq_false]
  exact ⟨(x, s), List.mem_of_getElem? (zip_at hx hs), by simp [h]⟩
theorem tak_bd {b : Bx} {ss : List Sp} (hwf : Wf b ss) {xs : List Int} : ∀ i : Nat, i ≤ xs.length → i ≤ b.rolls.length → canB b ss (xs.take i) = true → 0 ≤ tak b.rolls (xs.take i) ∧ tak b.rolls (xs.take i) ≤ 15000 * (i : Int) := by
  intro i
  induction i with
  | zero => intro _ _ _; have : tak b.rolls ([] : List Int) = 0 := by cases b.rolls <;> rfl
            simp [this]
  | succ i ih =>
    intro h1 h2 h3
    obtain ⟨x, hx⟩ : ∃ x, xs[i]? = some x := ⟨_, List.getElem?_eq_getElem (by omega)⟩
    obtain ⟨r, hr⟩ : ∃ r, b.rolls[i]? = some r := ⟨_, List.getElem?_eq_getElem (by omega)⟩
    obtain ⟨s, hs⟩ : ∃ s, ss[i]? = some s := ⟨_, List.getElem?_eq_getElem (by rw [hwf.len]; omega)⟩
    rw [canB_snoc hx hs, Bool.and_eq_true] at h3
    rw [tak_snoc hr hx]
    have h4 := ih (by omega) (by omega) h3.1
    have h5 := within_iff.1 h3.2
    have h6 := hwf.sp i s hs
    have h7 := mul_bd (m := x) (p := r.price) (by omega) (hwf.price i r hr)
    omega
end Go.Till
