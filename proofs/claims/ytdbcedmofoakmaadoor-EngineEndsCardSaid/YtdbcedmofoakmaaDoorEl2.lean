/-
  PLAIN LAWS of the engine: both ends of what can be.
-/
import Derived.Test.YtdbcedmofoakmaaDoorEk2
set_option maxRecDepth 100000
namespace Go.Eng
open Go Go.Sx
/-- An end of a span, as a span. -/
def Span.pt (s : Span) (h : Bool) : Span := ⟨s.end h, s.end h⟩
def Part.edge (x : Part) (h : Bool) : Part := ⟨x.mi.pt (!h), x.light, x.walks⟩
/-- The evening of which all is known: at its best (true), at its worst. -/
def Book.edge (b : Book) (h : Bool) : Book :=
  ⟨b.coal.pt h, b.water.pt h, b.bunker, b.tank, b.scoop, b.pail, b.burn0.pt (!h), b.burn1.pt (!h), b.drink0.pt (!h), b.drink1.pt (!h), b.full.pt h, b.weak.pt h, b.mark, b.lamp, b.parts.map (·.edge h)⟩
theorem pt_end (s : Span) (h k : Bool) : (s.pt h).end k = s.end h := by cases k <;> rfl
theorem end_le {s : Span} (hs : s.lo ≤ s.hi) (h : Bool) : s.lo ≤ s.end h ∧ s.end h ≤ s.hi := by cases h <;> simp only [Span.end, if_true, if_false, Bool.false_eq_true] <;> omega
theorem burn_edge (b : Book) (h l : Bool) : (b.edge h).burn l = (b.burn l).pt (!h) := by cases l <;> rfl
theorem drink_edge (b : Book) (h l : Bool) : (b.edge h).drink l = (b.drink l).pt (!h) := by cases l <;> rfl
theorem edge_ok {b : Book} (hok : b.ok = true) (h : Bool) : (b.edge h).ok = true := by
  obtain ⟨hn, hp⟩ := ok_num.1 hok
  have e : ∀ (s : Span) (k : Bool), (s.pt k).lo = s.end k ∧ (s.pt k).hi = s.end k := fun s k => ⟨rfl, rfl⟩
  refine ok_num.2 ⟨?_, ?_⟩
  · have h1 := end_le (s := b.coal) (by omega) h
    have h2 := end_le (s := b.water) (by omega) h
    have h3 := end_le (s := b.burn0) (by omega) (!h)
    have h4 := end_le (s := b.burn1) (by omega) (!h)
    have h5 := end_le (s := b.drink0) (by omega) (!h)
    have h6 := end_le (s := b.drink1) (by omega) (!h)
    have h7 := end_le (s := b.full) (by omega) h
    have h8 := end_le (s := b.weak) (by omega) h
    have h9 : b.weak.end h ≤ b.full.end h := by cases h <;> simp only [Span.end, if_true, if_false, Bool.false_eq_true] <;> omega
    simp only [Book.edge, Span.pt, List.length_map]
    omega
  · rw [List.all_eq_true] at hp ⊢
    intro p hm
    obtain ⟨x, hx, rfl⟩ := List.mem_map.1 hm
    have := hp x hx
    simp only [Part.ok, Bool.and_eq_true, okSpan_iff, Eng.within_iff] at this ⊢
    have h1 := end_le (s := x.mi) (by omega) (!h)
    simp only [Part.edge, Span.pt]
    omega
theorem edge_at {b : Book} {h : Bool} {i : Nat} {x : Part} (hx : b.parts[i]? = some x) : (b.edge h).parts[i]? = some (x.edge h) := by
  show (b.parts.map _)[i]? = _
  rw [List.getElem?_map, hx]; rfl
theorem edge_isPlan (b : Book) (h : Bool) (plan : List Walks) : (b.edge h).isPlan plan = b.isPlan plan := by
  unfold Book.isPlan
  show ((plan.length == (b.parts.map _).length) && _) = _
  rw [List.length_map]
  congr 1
  show (plan.zip (b.parts.map _)).all _ = _
  rw [List.zip_map_right, List.all_map]
  rfl
theorem afterC_edge (b : Book) (h k : Bool) (x : Part) (y c : Int) : (b.edge h).afterC k (x.edge h) y c = b.afterC h x y c := by
  unfold Book.afterC
  rw [burn_edge, pt_end, show (x.edge h).mi = x.mi.pt (!h) from rfl, pt_end]; rfl
theorem afterW_edge (b : Book) (h k : Bool) (x : Part) (y c : Int) : (b.edge h).afterW k (x.edge h) y c = b.afterW h x y c := by
  unfold Book.afterW
  rw [drink_edge, pt_end, show (x.edge h).mi = x.mi.pt (!h) from rfl, pt_end]; rfl
theorem run_edge {b : Book} {h k : Bool} {plan : List Walks} : ∀ i : Nat, (b.edge h).run k plan i = b.run h plan i := by
  intro i
  induction i with
  | zero => show ((b.coal.pt h).end k, (b.water.pt h).end k) = _; rw [pt_end, pt_end]; rfl
  | succ i ih =>
    rw [Book.run, Book.run, ih]
    show (match (b.parts.map (·.edge h))[i]?, plan[i]? with | some p, some x => _ | _, _ => _) = _
    rw [List.getElem?_map]
    cases b.parts[i]? with
    | none => rfl
    | some x => cases plan[i]? with
      | none => rfl
      | some y => simp only [Option.map_some]; rw [afterC_edge, afterW_edge]
theorem may_edge (b : Book) (x : Part) (c v : Int) : (b.edge false).may (x.edge false) c v = b.may x c v := by
  have e : (if v < (b.edge false).mark then (b.edge false).weak else (b.edge false).full).lo = (if v < b.mark then b.weak else b.full).lo := by
    show (if v < b.mark then b.weak.pt false else b.full.pt false).lo = _
    split <;> rfl
  unfold Book.may
  rw [e]; rfl
theorem mayAt_edge (b : Book) (plan : List Walks) (i : Nat) : (b.edge false).mayAt plan i = b.mayAt plan i := by
  unfold Book.mayAt
  rw [run_edge]
  show (match (b.parts.map (·.edge false))[i]? with | some p => _ | none => _) = _
  rw [List.getElem?_map]
  cases b.parts[i]? with
  | none => rfl
  | some x => exact may_edge b x _ _
theorem dead_edge (b : Book) (plan : List Walks) (i : Nat) : (b.edge false).dead plan i = b.dead plan i := by unfold Book.dead; rw [run_edge]
theorem try1_edge (b : Book) (x : Part) (rest : Int → Int → Option (List Walks × Int)) (c v : Int) (acc : Option (List Walks × Int)) (y : Walks) : (b.edge false).try1 (x.edge false) rest c v acc y = b.try1 x rest c v acc y := by
  unfold Book.try1
  rw [afterC_edge, afterW_edge, may_edge]; rfl
theorem bestN_edge (b : Book) (x : Part) (rest : Int → Int → Option (List Walks × Int)) (c v : Int) : ∀ n : Nat, (b.edge false).bestN (x.edge false) rest c v n = b.bestN x rest c v n := by
  intro n
  induction n with
  | zero => rfl
  | succ n ih => rw [Book.bestN, Book.bestN, ih, try1_edge]; rfl
theorem best_edge (b : Book) : ∀ (ps : List Part) (c v : Int), (b.edge false).best (ps.map (·.edge false)) c v = b.best ps c v := by
  intro ps
  induction ps with
  | nil => intro c v; rfl
  | cons x ps ih =>
    intro c v
    rw [List.map_cons, Book.best, Book.best, show (b.edge false).best (ps.map (·.edge false)) = b.best ps from funext fun c => funext fun v => ih c v, bestN_edge]; rfl
theorem planR_edge {b : Book} (hok : b.ok = true) : (b.edge false).planR = b.planR := by
  unfold Book.planR
  rw [if_pos hok, if_pos (edge_ok hok false)]
  show (match (b.edge false).best (b.parts.map (·.edge false)) b.coal.lo b.water.lo with | none => _ | some (pl, _) => _) = _
  rw [best_edge]
  cases b.best b.parts b.coal.lo b.water.lo <;> rfl
/-- The least is no more than the greatest. -/
theorem run_le {b : Book} (hok : b.ok = true) {plan : List Walks} : ∀ i : Nat, (b.run false plan i).1 ≤ (b.run true plan i).1 ∧ (b.run false plan i).2 ≤ (b.run true plan i).2 := by
  obtain ⟨hn, -⟩ := ok_num.1 hok
  intro i
  induction i with
  | zero => simp only [Book.run, Span.end, if_true, if_false, Bool.false_eq_true]; omega
  | succ i ih =>
    cases hx : b.parts[i]? with
    | none => simp only [Book.run, hx]; exact ih
    | some x => cases hy : plan[i]? with
      | none => simp only [Book.run, hx, hy]; exact ih
      | some y =>
        rw [Book.run_succ hx hy, Book.run_succ hx hy]
        have hxm := ok_part hok hx
        simp only [okSpan_iff, Eng.within_iff] at hxm
        have hb : 0 ≤ (b.burn x.light).lo ∧ (b.burn x.light).lo ≤ (b.burn x.light).hi := by cases x.light <;> simp only [Book.burn, if_true, if_false, Bool.false_eq_true] <;> omega
        have hd : 0 ≤ (b.drink x.light).lo ∧ (b.drink x.light).lo ≤ (b.drink x.light).hi := by cases x.light <;> simp only [Book.drink, if_true, if_false, Bool.false_eq_true] <;> omega
        have m1 : x.mi.lo * (b.burn x.light).lo ≤ x.mi.hi * (b.burn x.light).hi := Int.mul_le_mul hxm.1.2.1 hb.2 hb.1 (by omega)
        have m2 : x.mi.lo * (b.drink x.light).lo ≤ x.mi.hi * (b.drink x.light).hi := Int.mul_le_mul hxm.1.2.1 hd.2 hd.1 (by omega)
        simp only [Book.afterC, Book.afterW, Span.end, if_true, if_false, Bool.false_eq_true, Bool.not_false, Bool.not_true]
        omega
/-- All is known. -/
structure Known (d : Book) (plan : List Walks) : Prop where
  run : ∀ i, d.run false plan i = d.run true plan i
  ok : d.ok = true
  weak : d.weak.lo = d.weak.hi
  full : d.full.lo = d.full.hi
theorem edge_known {b : Book} (hok : b.ok = true) (h : Bool) (plan : List Walks) : Known (b.edge h) plan := ⟨fun i => by rw [run_edge, run_edge], edge_ok hok h, rfl, rfl⟩
theorem hp_val {d : Book} {plan : List Walks} (hd : Known d plan) {i : Nat} {c v : Int} {cs ws : List Int} {fl : Int} (h : HP d plan i c v cs ws fl) : c = (d.run false plan i).1 ∧ v = (d.run false plan i).2 := by
  have B := hp_bd (ok_bd hd.ok) _ _ _ _ _ _ h
  have h1 := B.c; have h2 := B.v
  rw [← hd.run i] at h1 h2
  omega
theorem minF_pos {b : Book} {l : Bool} {c0 v0 : Int} {k : Nat} {c v : Int} {dk : Bool} (h : MinF b l c0 v0 (k + 1) c v dk) : 0 ≤ c ∧ 0 ≤ v := by
  obtain ⟨c', v', dk', bu, dr, cu, -, -, -, h3, h4, rfl, rfl, -, -⟩ := h
  omega
theorem hp_alive {d : Book} {plan : List Walks} (hd : Known d plan) : ∀ (i : Nat) (c v : Int) (cs ws : List Int) (fl : Int), HP d plan i c v cs ws fl → ∀ j, j < i → d.dead plan j = false := by
  intro i
  induction i with
  | zero => intro _ _ _ _ _ _ j hj; omega
  | succ i ih =>
    intro c v cs ws fl hH j hj
    have hv := hp_val hd hH
    obtain ⟨c', v', cs', ws', fl', x, y, m, dk, h, hx, hy, hm, hM, rfl, rfl, -⟩ := hH
    rcases Nat.lt_or_ge j i with h1 | h1
    · exact ih _ _ _ _ _ h j h1
    · have e : j = i := by omega
      subst e
      have hxm := ok_part hd.ok hx
      simp only [okSpan_iff, Eng.within_iff] at hxm
      simp only [inS] at hm
      obtain ⟨k, rfl⟩ : ∃ k, m = k + 1 := ⟨m - 1, by omega⟩
      have := minF_pos hM
      simp only [Book.dead, Bool.or_eq_false_iff, decide_eq_false_iff_not]
      omega
theorem hp_fl_le {d : Book} {plan : List Walks} : ∀ (i : Nat) (c v : Int) (cs ws : List Int) (fl : Int), HP d plan i c v cs ws fl → fl ≤ (d.parts.length : Int) := by
  intro i
  induction i with
  | zero => rintro c v cs ws fl ⟨-, -, -, -, rfl⟩; omega
  | succ i ih =>
    rintro c v cs ws fl ⟨c', v', cs', ws', fl', x, y, m, dk, h, hx, hy, hm, hM, -, -, rfl⟩
    have := ih _ _ _ _ _ h
    split <;> omega
theorem hp_fl_at {d : Book} {plan : List Walks} (hd : Known d plan) {q : Nat} (hq : d.mayAt plan q = true) : ∀ (i : Nat) (c v : Int) (cs ws : List Int) (fl : Int), HP d plan i c v cs ws fl → q < i → fl ≤ (q : Int) := by
  intro i
  induction i with
  | zero => intro _ _ _ _ _ _ h; omega
  | succ i ih =>
    intro c v cs ws fl hH hqi
    have hv := hp_val hd hH
    have ha := hp_alive hd _ _ _ _ _ _ hH
    obtain ⟨c', v', cs', ws', fl', x, y, m, dk, h, hx, hy, hm, hM, rfl, rfl, rfl⟩ := hH
    rcases Nat.lt_or_ge q i with h1 | h1
    · have := ih _ _ _ _ _ h h1
      split <;> omega
    · have e : q = i := by omega
      subst e
      have hxm := ok_part hd.ok hx
      simp only [okSpan_iff, Eng.within_iff] at hxm
      simp only [inS] at hm
      obtain ⟨k, rfl⟩ : ∃ k, m = k + 1 := ⟨m - 1, by omega⟩
      obtain ⟨c2, v2, dk2, bu, dr, cu, -, -, -, h3, h4, rfl, rfl, h5, rfl⟩ := hM
      simp only [Book.mayAt, hx, Book.may] at hq
      rw [← hv.1, ← hv.2] at hq
      have hcu : cu = (if v2 - dr < d.mark then d.weak else d.full).lo := by
        simp only [inS] at h5
        by_cases hm2 : v2 - dr < d.mark
        · rw [if_pos hm2] at h5 ⊢; have := hd.weak; omega
        · rw [if_neg hm2] at h5 ⊢; have := hd.full; omega
      rw [← hcu, show decide (c2 - bu < 0) = false from decide_eq_false (by omega), show decide (v2 - dr < 0) = false from decide_eq_false (by omega), Bool.or_self, Bool.false_or] at hq
      rw [hq, Bool.or_true, if_pos rfl]
      omega
/-- When it fails, if all is known. -/
theorem hap_fl_eq {d : Book} {plan : List Walks} (hd : Known d plan) {cs ws : List Int} {fl : Int} (h : Hap d plan cs ws fl) {q : Nat} (hq : ∀ j, j < q → d.mayAt plan j = false) (hql : q < d.parts.length) (hqm : d.mayAt plan q = true) : fl = (q : Int) := by
  have h1 := hap_fl (ok_bd hd.ok) h hq (by omega)
  have h2 : fl ≤ (q : Int) := by
    rcases h with ⟨c, v, h⟩ | ⟨i, c', v', fl', x, y, m, k, c, v, dk, bu, dr, h, hx, hy, hm, hk, hM, hbu, hdr, hs, rfl⟩
    · exact hp_fl_at hd hqm _ _ _ _ _ _ h hql
    · rcases Nat.lt_or_ge q i with h2 | h2
      · have := hp_fl_at hd hqm _ _ _ _ _ _ h h2
        split <;> omega
      · omega
  omega
theorem hap_fl_all {d : Book} {plan : List Walks} (hd : Known d plan) {cs ws : List Int} {fl : Int} (h : Hap d plan cs ws fl) (hq : ∀ j, j < d.parts.length → d.mayAt plan j = false) : fl = (d.parts.length : Int) := by
  have h1 := hap_fl (ok_bd hd.ok) h hq (Nat.le_refl _)
  have h2 : fl ≤ (d.parts.length : Int) := by
    rcases h with ⟨c, v, h⟩ | ⟨i, c', v', fl', x, y, m, k, c, v, dk, bu, dr, h, hx, hy, hm, hk, hM, hbu, hdr, hs, rfl⟩
    · exact hp_fl_le _ _ _ _ _ _ h
    · have := (List.getElem?_eq_some_iff.1 hx).1
      omega
  omega
/-- Where the engine stands, if all is known. -/
theorem hap_dead {d : Book} {plan : List Walks} (hd : Known d plan) {cs ws : List Int} {fl : Int} (h : Hap d plan cs ws fl) {j : Nat} (hj : j < d.parts.length) (hdj : d.dead plan j = true) : cs.length ≤ j ∧ fl ≤ (j : Int) := by
  rcases h with ⟨c, v, h⟩ | ⟨i, c', v', fl', x, y, m, k, c, v, dk, bu, dr, h, hx, hy, hm, hk, hM, hbu, hdr, hs, rfl⟩
  · have := hp_alive hd _ _ _ _ _ _ h j hj
    rw [hdj] at this; cases this
  · have B := hp_bd (ok_bd hd.ok) _ _ _ _ _ _ h
    have h1 := B.cl
    have h2 : i ≤ j := by
      rcases Nat.lt_or_ge j i with h2 | h2
      · have := hp_alive hd _ _ _ _ _ _ h j h2
        rw [hdj] at this; cases this
      · exact h2
    omega
/-- What is left, if all is known. -/
theorem hap_left {d : Book} {plan : List Walks} (hd : Known d plan) {cs ws : List Int} {fl : Int} (h : Hap d plan cs ws fl) {i : Nat} (hi : i < d.parts.length) (ha : ∀ j, j ≤ i → d.dead plan j = false) : cs[i]? = some (d.run false plan (i + 1)).1 ∧ ws[i]? = some (d.run false plan (i + 1)).2 := by
  obtain ⟨h1, h2, h3, h4⟩ := hap_in (ok_bd hd.ok) h hi ha
  rw [← hd.run (i + 1)] at h3 h4
  have e1 := h3 _ (List.getElem?_eq_getElem h1)
  have e2 := h4 _ (List.getElem?_eq_getElem h2)
  rw [List.getElem?_eq_getElem h1, List.getElem?_eq_getElem h2, show cs[i] = (d.run false plan (i + 1)).1 by omega, show ws[i] = (d.run false plan (i + 1)).2 by omega]
  exact ⟨rfl, rfl⟩
end Go.Eng
