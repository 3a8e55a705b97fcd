/-
  THE TILL's ANSWERS told by what they are: spans, the least by which a count is wrong; the chapter's box.
-/
import Derived.Test.YtcnndpedeofbmaaDoorTp
set_option maxRecDepth 100000
namespace Go.Till
open Go Go.Sx
theorem fold_widen {l : List Int} : ∀ o : Sp, (l.foldl widen o).lo ≤ o.lo ∧ o.hi ≤ (l.foldl widen o).hi ∧ (∀ x ∈ l, (l.foldl widen o).lo ≤ x ∧ x ≤ (l.foldl widen o).hi) ∧ ((l.foldl widen o).lo = o.lo ∨ (l.foldl widen o).lo ∈ l) ∧ ((l.foldl widen o).hi = o.hi ∨ (l.foldl widen o).hi ∈ l) := by
  induction l with
  | nil => intro o; simp
  | cons y l ih =>
    intro o
    have h := ih (widen o y)
    simp only [List.foldl_cons]
    simp only [widen] at h ⊢
    refine ⟨by omega, by omega, ?_, ?_, ?_⟩
    · intro x hx
      rcases List.mem_cons.1 hx with rfl | hx
      · omega
      · exact h.2.2.1 x hx
    · rcases h.2.2.2.1 with e | e
      · by_cases c : o.lo ≤ y
        · left; omega
        · right; rw [List.mem_cons]; left; omega
      · right; exact List.mem_cons_of_mem _ e
    · rcases h.2.2.2.2 with e | e
      · by_cases c : y ≤ o.hi
        · left; omega
        · right; rw [List.mem_cons]; left; omega
      · right; exact List.mem_cons_of_mem _ e
theorem spanOf_mem {l : List Int} (h : l ≠ []) : (spanOf l).lo ∈ l ∧ (spanOf l).hi ∈ l ∧ ∀ x ∈ l, (spanOf l).lo ≤ x ∧ x ≤ (spanOf l).hi := by
  cases l with
  | nil => exact absurd rfl h
  | cons m l =>
    have h := fold_widen (l := l) ⟨m, m⟩
    simp only [spanOf]
    simp only at h
    refine ⟨?_, ?_, ?_⟩
    · rcases h.2.2.2.1 with e | e
      · rw [e]; simp
      · exact List.mem_cons_of_mem _ e
    · rcases h.2.2.2.2 with e | e
      · rw [e]; simp
      · exact List.mem_cons_of_mem _ e
    · intro x hx
      rcases List.mem_cons.1 hx with rfl | hx
      · omega
      · exact h.2.2.1 x hx
theorem spanOf_eq {l : List Int} {a z : Int} (ha : a ∈ l) (hz : z ∈ l) (h : ∀ x ∈ l, a ≤ x ∧ x ≤ z) : spanOf l = ⟨a, z⟩ := by
  have hne : l ≠ [] := by intro e; rw [e] at ha; cases ha
  have hm := spanOf_mem hne
  have h1 := h _ hm.1; have h2 := h _ hm.2.1; have h3 := hm.2.2 _ ha; have h4 := hm.2.2 _ hz
  exact Sp.eq (by omega) (by omega)
theorem many_pos {b : Bx} : b.many ≠ 0 ↔ ∃ x ∈ b.all, right b x = true := by
  rw [many_eq, ← Nat.pos_iff_ne_zero, List.countP_pos_iff]
theorem amts_ne {b : Bx} (hO : Ok b) (hm : b.many ≠ 0) : b.amts ≠ [] := by
  obtain ⟨x, h1, h2⟩ := many_pos.1 hm
  intro e
  have := (amts_mem hO).2 ⟨h2, h1⟩
  rw [e] at this; cases this
/-- The span of a part, from all amounts. -/
theorem between_eq {b : Bx} (hok : b.ok = true) {f : Bx → Int → Int} {a z : Int} (ha : ∃ x ∈ b.all, right b x = true ∧ f b x = a) (hz : ∃ x ∈ b.all, right b x = true ∧ f b x = z) (h : ∀ x ∈ b.all, right b x = true → a ≤ f b x ∧ f b x ≤ z) : b.betweenR f = (⟨a, z⟩, 0) := by
  have hO := ok_iff.1 hok
  have hm : b.many ≠ 0 := many_pos.2 ⟨_, ha.choose_spec.1, ha.choose_spec.2.1⟩
  have hask : b.asked true = 0 := asked_zero.2 ⟨hok, rfl, hm⟩
  rw [Bx.betweenR, if_pos hask]
  refine congrArg (fun s => (s, (0 : Int))) (spanOf_eq ?_ ?_ ?_)
  · obtain ⟨x, h1, h2, h3⟩ := ha
    exact List.mem_map.2 ⟨x, (amts_mem hO).2 ⟨h2, h1⟩, h3⟩
  · obtain ⟨x, h1, h2, h3⟩ := hz
    exact List.mem_map.2 ⟨x, (amts_mem hO).2 ⟨h2, h1⟩, h3⟩
  · intro y hy
    obtain ⟨x, h1, rfl⟩ := List.mem_map.1 hy
    have h2 := (amts_mem hO).1 h1
    exact h x h2.2 h2.1
/-- What is told of a part, said of all amounts. -/
theorem between_at {b : Bx} (hok : b.ok = true) (hm : b.many ≠ 0) (f : Bx → Int → Int) : (b.betweenR f).2 = 0 ∧ (∃ x ∈ b.all, right b x = true ∧ f b x = (b.betweenR f).1.lo) ∧ (∃ x ∈ b.all, right b x = true ∧ f b x = (b.betweenR f).1.hi) ∧ ∀ x ∈ b.all, right b x = true → (b.betweenR f).1.lo ≤ f b x ∧ f b x ≤ (b.betweenR f).1.hi := by
  have hO := ok_iff.1 hok
  have hask : b.asked true = 0 := asked_zero.2 ⟨hok, rfl, hm⟩
  rw [Bx.betweenR, if_pos hask]
  have hne : b.amts.map (f b) ≠ [] := by
    intro e; exact amts_ne hO hm (List.map_eq_nil_iff.1 e)
  obtain ⟨h1, h2, h3⟩ := spanOf_mem hne
  refine ⟨rfl, ?_, ?_, ?_⟩
  · obtain ⟨x, hx, e⟩ := List.mem_map.1 h1
    have := (amts_mem hO).1 hx
    exact ⟨x, this.2, this.1, e⟩
  · obtain ⟨x, hx, e⟩ := List.mem_map.1 h2
    have := (amts_mem hO).1 hx
    exact ⟨x, this.2, this.1, e⟩
  · intro x hx hr
    exact h3 _ (List.mem_map.2 ⟨x, (amts_mem hO).2 ⟨hr, hx⟩, rfl⟩)
def far (b : Bx) (x : Int) : Int := max (x - b.count) (b.count - x)
theorem wrongTo_le {b : Bx} : ∀ {n : Nat}, b.wrongTo n ≤ 201 ∧ (∀ a : Nat, a < n → 0 < wf b.all a → b.wrongTo n ≤ far b a) ∧ (b.wrongTo n = 201 ∨ ∃ a : Nat, a < n ∧ 0 < wf b.all a ∧ b.wrongTo n = far b a) := by
  intro n
  induction n with
  | zero => exact ⟨Int.le_refl _, fun a h => absurd h (Nat.not_lt_zero _), .inl rfl⟩
  | succ n ih =>
    obtain ⟨h1, h2, h3⟩ := ih
    rw [Bx.wrongTo]
    split
    · rename_i hw
      rw [show max ((n : Int) - b.count) (b.count - (n : Int)) = far b n from rfl]
      refine ⟨by omega, ?_, ?_⟩
      · intro a ha hp
        rcases Nat.lt_or_ge a n with h | h
        · have := h2 a h hp; omega
        · have : a = n := by omega
          subst this; omega
      · by_cases c : b.wrongTo n ≤ far b n
        · rcases h3 with e | ⟨a, q1, q2, q3⟩
          · left; omega
          · right; exact ⟨a, by omega, q2, by omega⟩
        · right; exact ⟨n, by omega, hw, by omega⟩
    · rename_i hw
      refine ⟨h1, ?_, ?_⟩
      · intro a ha hp
        rcases Nat.lt_or_ge a n with h | h
        · exact h2 a h hp
        · have : a = n := by omega
          subst this; exact absurd hp hw
      · rcases h3 with e | ⟨a, q1, q2, q3⟩
        · left; exact e
        · right; exact ⟨a, by omega, q2, q3⟩
theorem all_range {b : Bx} (hO : Ok b) {x : Int} (hx : x ∈ b.all) : 0 ≤ x ∧ x ≤ 60000 := by
  have := all_bd hO.wf (k := b.rolls.length) (Nat.le_refl _) x (by rw [List.take_of_length_le (by rw [hO.wf.its_len]; exact Nat.le_refl _)]; exact hx)
  omega
theorem wrong_at {b : Bx} (hO : Ok b) : b.wrongI ≤ 201 ∧ (∀ x ∈ b.all, b.wrongI ≤ far b x) ∧ (b.wrongI = 201 ∨ ∃ x ∈ b.all, b.wrongI = far b x) := by
  obtain ⟨h1, h2, h3⟩ := wrongTo_le (b := b) (n := 60001)
  refine ⟨h1, ?_, ?_⟩
  · intro x hx
    have hr := all_range hO hx
    obtain ⟨a, rfl⟩ : ∃ a : Nat, x = (a : Int) := ⟨x.toNat, by omega⟩
    exact h2 a (by omega) (wf_pos.2 hx)
  · rcases h3 with e | ⟨a, _, q2, q3⟩
    · exact .inl e
    · exact .inr ⟨a, wf_pos.1 q2, q3⟩
theorem wrong_eq {b : Bx} (hO : Ok b) {m : Int} (hm : m ≤ 200) (h1 : ∃ x ∈ b.all, far b x = m) (h2 : ∀ x ∈ b.all, m ≤ far b x) : b.wrongI = m := by
  obtain ⟨q1, q2, q3⟩ := wrong_at hO
  obtain ⟨x, hx, e⟩ := h1
  have := q2 x hx
  rcases q3 with e2 | ⟨y, hy, e2⟩
  · omega
  · have := h2 y hy; omega
theorem wrong_no {b : Bx} (hO : Ok b) (h2 : ∀ x ∈ b.all, 201 ≤ far b x) : b.wrongI = 201 := by
  obtain ⟨q1, q2, q3⟩ := wrong_at hO
  rcases q3 with e2 | ⟨y, hy, e2⟩
  · exact e2
  · have := h2 y hy; omega
/-! ### The chapter's box -/
def exB (count err : Int) : Bx := { rolls := [⟨10, ⟨100, 100⟩, ⟨130, 133⟩⟩, ⟨25, ⟨40, 42⟩, ⟨60, 60⟩⟩], free := [⟨0, 2⟩, ⟨0, 0⟩], count := count, err := err, duty := 10, share := 50, guar := 300 }
def exRC : List Value := [.int .i64 10, .int .i64 100, .int .i64 100, .int .i64 130, .int .i64 133, .int .i64 25, .int .i64 40, .int .i64 42, .int .i64 60, .int .i64 60]
def exFC : List Value := [.int .i64 0, .int .i64 2, .int .i64 0, .int .i64 0]
theorem exR_at {w : World} {b : Nat} {c e : Int} (hc : CellsAt w b 0 exRC) : RollsAt w (some ⟨b, 0, none⟩) 2 (exB c e).rolls := sl_at (enc := rollL) (sz := 5) (ys := (exB c e).rolls) (fun _ => rfl) (by decide) hc
theorem exF_at {w : World} {b : Nat} {c e : Int} (hc : CellsAt w b 0 exFC) : SpsAt w (some ⟨b, 0, none⟩) 2 (exB c e).free := sl_at (enc := spL) (sz := 2) (ys := (exB c e).free) (fun _ => rfl) (by decide) hc
def exAll : List Int := [730, 755, 780, 740, 765, 790, 750, 775, 800, 760, 785, 810, 770, 795, 820, 780, 805, 830]
theorem ex_all {c e : Int} : (exB c e).all = exAll := by kernel_rfl
theorem ex_ok {c e : Int} (hc : 0 ≤ c ∧ c ≤ 60000) (he : 0 ≤ e ∧ e ≤ 200) : (exB c e).ok = true := by
  have h1 : within c 0 60000 = true := within_iff.2 hc
  have h2 : within e 0 200 = true := within_iff.2 he
  have h3 : (exB c e).ok = ((((((((within 2 1 4 && ((2 : Int) == 2)) && within c 0 60000) && within e 0 200) && within 10 0 100) && within 50 0 100) && within 300 0 60000) && (exB 0 0).rolls.all Roll.ok) && (exB 0 0).free.all freeOk) := rfl
  exact h3.trans (by simp only [h1, h2]; decide)
theorem ex_truth : (exB 760 5).truthR [28, 19] = (true, 0) := by kernel_rfl
theorem ex_many : (exB 760 5).manyR = (3, 0) := by kernel_rfl
theorem ex_sold : (exB 760 5).soldR 0 = (⟨28, 31⟩, 0) := by kernel_rfl
theorem ex_can : (exB 760 5).canR 0 31 = (true, 0) := by kernel_rfl
theorem ex_ask : (exB 760 5).askR = (0, 0) := by kernel_rfl
theorem ex_ask0 : (exB 760 0).askR = (0, 4) := by kernel_rfl
theorem ex_between {f : Bx → Int → Int} {a z : Int} (ha : exAll.any (fun x => right (exB 760 5) x && (f (exB 760 5) x == a)) = true) (hz : exAll.any (fun x => right (exB 760 5) x && (f (exB 760 5) x == z)) = true) (h : exAll.all (fun x => !right (exB 760 5) x || (decide (a ≤ f (exB 760 5) x) && decide (f (exB 760 5) x ≤ z))) = true) : (exB 760 5).betweenR f = (⟨a, z⟩, 0) := by
  refine between_eq (ex_ok (by decide) (by decide)) ?_ ?_ ?_
  · rw [ex_all]; obtain ⟨x, hx, h1⟩ := List.any_eq_true.1 ha
    rw [Bool.and_eq_true, beq_iff_eq] at h1; exact ⟨x, hx, h1⟩
  · rw [ex_all]; obtain ⟨x, hx, h1⟩ := List.any_eq_true.1 hz
    rw [Bool.and_eq_true, beq_iff_eq] at h1; exact ⟨x, hx, h1⟩
  · rw [ex_all]; intro x hx hr
    have h1 := List.all_eq_true.1 h x hx
    rw [hr] at h1
    simpa using h1
theorem ex_whole : (exB 760 5).betweenR (fun _ t => t) = (⟨755, 765⟩, 0) := ex_between (by kernel_rfl) (by kernel_rfl) (by kernel_rfl)
theorem ex_hire : (exB 760 5).betweenR hireI = (⟨340, 344⟩, 0) := ex_between (by kernel_rfl) (by kernel_rfl) (by kernel_rfl)
theorem ex_left : (exB 760 5).betweenR leftI = (⟨340, 345⟩, 0) := ex_between (by kernel_rfl) (by kernel_rfl) (by kernel_rfl)
theorem ex_wrong : (exB 772 5).wrongR = (2, 0) := by
  have hok := ex_ok (c := 772) (e := 5) (by decide) (by decide)
  have h := wrong_eq (b := exB 772 5) (m := 2) (ok_iff.1 hok) (by decide) (by rw [ex_all]; exact ⟨770, by decide, by kernel_rfl⟩) (by
    rw [ex_all]
    have h : exAll.all (fun x => decide (2 ≤ far (exB 772 5) x)) = true := by kernel_rfl
    intro x hx; simpa using List.all_eq_true.1 h x hx)
  rw [Bx.wrongR, if_pos hok, h]; rfl
end Go.Till
