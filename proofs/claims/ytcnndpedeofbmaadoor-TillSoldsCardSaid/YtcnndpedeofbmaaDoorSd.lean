/-
  ARGUMENTS AS DATA: what a reading says of the cells: numbers, bools, slices, structs. The row's end: a law that only reads, and answers true.
-/
import Derived.Test.YtcnndpedeofbmaaDoorSg
import Derived.ChangeArms
import Derived.Deep.Slices
import Derived.Carry
import Derived.OpenVars
import Derived.OpenShut
import Derived.RowKit
import Derived.SizedLaws
set_option maxRecDepth 100000
namespace Go.Sx
open Go
section
variable {H : Type} {enc : TypeId × Value → H} {P : Program} {w : World} {fuel : Nat} {t : TypeId} {cs : List Value} {x : DataW H × List MemPlace}
theorem cells_at {b o n : Nat} {sp : Option Nat} {cs : List Value} (h : w.cells? 0 ⟨b, o, sp⟩ n = some cs) (hn : 0 < n) : sp = none ∧ b < w.heap.size ∧ cs.length = n ∧ CellsAt w b o cs := by
  obtain ⟨h1, h2, h3⟩ := World.cells?_some h
  have h0 := h3 0 hn
  have hl : cs[0]? = some cs[0] := List.getElem?_eq_getElem (by omega)
  rw [hl] at h0
  have hs : sp = none := by simpa [Addr.add] using World.cell?_spot h0
  subst hs
  refine ⟨rfl, World.cells?_block h hn, h2, fun j v hv => ?_⟩
  rw [nth_get] at hv
  have hj := (List.getElem?_eq_some_iff.1 hv).1
  have := h3 j (by omega)
  rw [hv] at this
  rw [← Go.WideShapes.add_plain]; exact this
/-- A reading whose weights can be. -/
def Rd (enc : TypeId × Value → H) (P : Program) (w : World) (m : Nat) (t : TypeId) (cs : List Value) (y : DataW H × List MemPlace) : Prop :=
  DataW.trod enc P w 0 (fun _ => true) true m t cs = some y ∧ ∀ n ∈ y.1.weights P t, n ≤ reachBytes
theorem mem_weightsAll {P : Program} {e : TypeId} : ∀ {l : List (DataW H)} {d : DataW H}, d ∈ l → ∀ n ∈ d.weights P e, n ∈ DataW.weightsAll P e l
  | x :: l, d, hd, n, hn => by
    rw [DataW.weightsAll, List.mem_append]
    rcases List.mem_cons.1 hd with rfl | hd
    · exact .inl hn
    · exact .inr (mem_weightsAll hd n hn)
theorem rd_fields {fs : Array Field} {k : Nat} (ht : P.underlying t = some (.struct fs)) (hk : P.cellsOf t = k) (h : Rd enc P w fuel t cs x) :
    cs.length = k ∧ ∃ n, ∀ (i : Nat) (f : Field), fs[i]? = some f → ∃ y, Rd enc P w n f.type ((cs.drop f.offset).take (P.cellsOf f.type)) y := by
  obtain ⟨h, hw⟩ := h
  obtain ⟨xs, n, -, hxe, hl, hx, hf⟩ := DataW.trod_struct ht h
  refine ⟨hk ▸ hl, n, fun i f hi => ?_⟩
  have hil : i < xs.length := by have := (Array.getElem?_eq_some_iff.1 hi).1; omega
  refine ⟨xs[i], ?_, fun n' hn => hw n' ?_⟩
  · rw [hf i f hi]; exact List.getElem?_eq_getElem hil
  · rw [hxe]
    simp only [DataW.weights, ht]
    refine DataW.weights_mem_each (j := i) (t := f.type) (d := xs[i].1) ?_ ?_ n' hn
    · simp [hi]
    · simp [hil]
theorem rd_elems {m k z : Nat} {e : TypeId} (ht : P.underlying t = some (.array m e)) (hk : P.cellsOf t = k) (hz : P.cellsOf e = z) (h : Rd enc P w fuel t cs x) :
    cs.length = k ∧ ∃ n, ∀ i, i < m → ∃ y, Rd enc P w n e ((cs.drop (i * z)).take z) y := by
  obtain ⟨h, hw⟩ := h
  obtain ⟨xs, n, -, hxe, hl, hx, hf⟩ := DataW.trod_array ht h
  refine ⟨hk ▸ hl, n, fun i hi => ⟨xs[i]'(by omega), ?_, fun n' hn => hw n' ?_⟩⟩
  · have := hf i hi
    rw [hz] at this
    rw [this]; exact List.getElem?_eq_getElem _
  · rw [hxe]
    simp only [DataW.weights, ht]
    exact mem_weightsAll (List.mem_map.2 ⟨_, List.getElem_mem _, rfl⟩) n' hn
theorem rd_i64 (ht : P.underlying t = some (.int .i64)) (h : Rd enc P w fuel t cs x) : ∃ n : Int, cs = [.int .i64 n] ∧ -9223372036854775808 ≤ n ∧ n ≤ 9223372036854775807 := by
  obtain ⟨n, h1, -, h2⟩ := DataW.trod_int ht h.1
  exact ⟨n, h1, bounds_i64 h2⟩
theorem rd_b (ht : P.underlying t = some .bool) (h : Rd enc P w fuel t cs x) : ∃ b : Bool, cs = [.bool b] := by
  obtain ⟨b, h1, -⟩ := DataW.trod_bool ht h.1
  exact ⟨b, h1⟩
theorem rd_sl {e : TypeId} {z : Nat} (ht : P.underlying t = some (.slice e)) (hz : P.cellsOf e = z) (h0 : 0 < z) (hb0 : 0 < P.bytesOf e) (h : Rd enc P w fuel t cs x) :
    ∃ A n c, cs = [.slice A n c] ∧ n ≤ c ∧ c ≤ 140737488351232 ∧ (0 < c → ∃ b o, A = some ⟨b, o, none⟩ ∧ b < w.heap.size) ∧ ∀ i, i < c → ∃ b o cs' m y, A = some ⟨b, o, none⟩ ∧ b < w.heap.size ∧ CellsAt w b (o + i * z) cs' ∧ Rd enc P w m e cs' y := by
  obtain ⟨h, hw⟩ := h
  rcases Go.Deep.open_slice ht h with ⟨h1, -⟩ | ⟨⟨b, o, sp⟩, len, cap, m, n, Dd, Pl, h1, -, h3, h4, h5, hxe, h6⟩
  · exact ⟨none, 0, 0, h1, Nat.le_refl _, Nat.zero_le _, fun h => absurd h (Nat.lt_irrefl _), fun i hi => absurd hi (Nat.not_lt_zero _)⟩
  · simp only [if_true] at h5
    subst h5
    have hcap : m ≤ 140737488351232 := by
      have := hw (m * P.bytesOf e) (by
        rw [hxe]; simp only [DataW.weights, ht, List.length_map, List.length_range, List.mem_cons]
        exact .inl (by rw [show len + (m - len) = m by omega]))
      have h9 : m * 1 ≤ m * P.bytesOf e := Nat.mul_le_mul_left _ hb0
      have h10 : reachBytes = 140737488351232 := rfl
      omega
    have hwt : ∀ i, i < m → ∀ n' ∈ (Dd i).weights P e, n' ≤ reachBytes := by
      intro i hi n' hn
      refine hw n' ?_
      rw [hxe]; simp only [DataW.weights, ht, List.mem_cons, List.mem_append]
      refine .inr ?_
      rcases Nat.lt_or_ge i len with h' | h'
      · exact .inl (mem_weightsAll (List.mem_map.2 ⟨i, List.mem_range.2 h', rfl⟩) n' hn)
      · refine .inr (mem_weightsAll (List.mem_map.2 ⟨i - len, List.mem_range.2 (by omega), ?_⟩) n' hn)
        rw [show len + (i - len) = i by omega]
    have hall : ∀ i, i < m → ∃ cs' y, sp = none ∧ b < w.heap.size ∧ CellsAt w b (o + i * z) cs' ∧ Rd enc P w n e cs' y := by
      intro i hi
      obtain ⟨cs', h7, h8⟩ := h6 i hi
      rw [hz] at h7
      by_cases hiz : i * z = 0
      · rw [hiz] at h7 ⊢
        have := cells_at (b := b) (o := o) (sp := sp) (by simpa [Addr.add] using h7) h0
        exact ⟨cs', _, this.1, this.2.1, this.2.2.2, h8, hwt i hi⟩
      · have h9 : (Addr.mk b o sp).add (i * z) = ⟨b, o + i * z, sp⟩ ∨ sp ≠ none := by
          cases sp with
          | none => exact .inl (Go.WideShapes.add_plain _ _ _)
          | some _ => exact .inr nofun
        rcases h9 with h9 | h9
        · rw [h9] at h7
          have := cells_at h7 h0
          exact ⟨cs', _, this.1, this.2.1, this.2.2.2, h8, hwt i hi⟩
        · obtain ⟨cs0, h70, -⟩ := h6 0 (by omega)
          rw [hz, Nat.zero_mul] at h70
          exact absurd (cells_at (b := b) (o := o) (sp := sp) (by simpa [Addr.add] using h70) h0).1 h9
    refine ⟨_, len, m, h1, h3, hcap, fun hc => ?_, fun i hi => ?_⟩
    · obtain ⟨cs', y, rfl, hb, -⟩ := hall 0 hc
      exact ⟨b, o, rfl, hb⟩
    · obtain ⟨cs', y, rfl, hb, hc, hy⟩ := hall i hi
      exact ⟨b, o, cs', n, y, rfl, hb, hc, hy⟩
theorem list_of {α : Type} {q : Nat → α → Prop} : ∀ n, (∀ i, i < n → ∃ x, q i x) → ∃ xs : List α, xs.length = n ∧ ∀ i x, xs[i]? = some x → q i x := by
  intro n
  induction n with
  | zero => intro _; exact ⟨[], rfl, fun i x h => by simp at h⟩
  | succ n ih =>
    intro h
    obtain ⟨xs, hl, hx⟩ := ih (fun i hi => h i (by omega))
    obtain ⟨y, hy⟩ := h n (by omega)
    refine ⟨xs ++ [y], by simp [hl], fun i x hi => ?_⟩
    rcases Nat.lt_or_ge i xs.length with h' | h'
    · rw [List.getElem?_append_left h'] at hi; exact hx i x hi
    · rw [List.getElem?_append_right h'] at hi
      have hi1 : i - xs.length < 1 := by have := (List.getElem?_eq_some_iff.1 hi).1; simpa using this
      have e : i = n := by omega
      subst e
      rw [show i - xs.length = 0 by omega] at hi
      simp only [List.getElem?_cons_zero, Option.some.injEq] at hi
      subst hi; exact hy
/-- A slice, read: its elements as a list. -/
theorem slice_list {α : Type} (encE : α → List Value) {e : TypeId} {z : Nat} (ht : P.underlying t = some (.slice e)) (hz : P.cellsOf e = z) (h0 : 0 < z)
    (hb0 : 0 < P.bytesOf e) (he : ∀ (m : Nat) (cs' : List Value) (y : DataW H × List MemPlace), Rd enc P w m e cs' y → ∃ u : α, cs' = encE u)
    (h : Rd enc P w fuel t cs x) : ∃ (A : Option Addr) (n c : Nat) (us : List α), cs = [.slice A n c] ∧ n ≤ c ∧ c ≤ 140737488351232 ∧ SlAt encE z w A n us := by
  obtain ⟨A, n, c, h1, h2, h3, -, h4⟩ := rd_sl ht hz h0 hb0 h
  obtain ⟨us, hl, hus⟩ := list_of (α := α) (q := fun i u => ∃ b o, A = some ⟨b, o, none⟩ ∧ b < w.heap.size ∧ CellsAt w b (o + i * z) (encE u)) n (fun i hi => by
    obtain ⟨b, o, cs', m, y, h5, h6, h7, h8⟩ := h4 i (by omega)
    obtain ⟨u, rfl⟩ := he m cs' y h8
    exact ⟨u, b, o, h5, h6, h7⟩)
  exact ⟨A, n, c, us, h1, h2, h3, hl.symm, hus⟩
end
end Go.Sx
namespace Go.Sx
open Go
section
variable {H : Type} {enc : TypeId × Value → H} {P : Program}
theorem below_all (hl : laidOutB P = true) {W W' : World} (hb : RowKit.Below W.heap.size W W') : ∀ {ts : List TypeId} {vs : List Value} {ds : List (DataW H)} {ps : List MemPlace}, (ts.all fun t => P.readableRec t && decide (t < P.types.size)) = true →
    (∀ x ∈ ps, x.block < W.heap.size) → DataW.TrodAll enc P W 0 (fun _ => true) true ts vs ds ps → DataW.TrodAll enc P W' 0 (fun b => decide (b < W.heap.size)) true ts vs ds ps
  | [], [], [], _, _, _, h => h
  | [], _ :: _, _, _, _, _, h => h.elim
  | [], [], _ :: _, _, _, _, h => h.elim
  | _ :: _, [], _, _, _, _, h => h.elim
  | _ :: _, _ :: _, [], _, _, _, h => h.elim
  | t :: ts, v :: vs, d :: ds, ps, ht, hlt, ⟨p, q, h1, h2, e⟩ => by
    simp only [List.all_cons, Bool.and_eq_true, decide_eq_true_eq] at ht
    subst e
    exact ⟨p, q, RowKit.Below.trod hl ht.1.1 ht.1.2 h1 hb (fun x hx => hlt x (List.mem_append_left _ hx)), below_all hl hb ht.2 (fun x hx => hlt x (List.mem_append_right _ hx)) h2, rfl⟩
/-- THE ROW's END: a law that only reads, and answers true. -/
theorem post_true {f : Func} {s : ChangeSpec} {apart fresh handsOn : Bool} {W W' : World} {args : Array Value} {ds gs : List (DataW H)} {before : List MemPlace} {tb : TypeId}
    (hl : laidOutB P = true) (hp : (f.params.toList.all fun t => P.readableRec t && decide (t < P.types.size)) = true) (hv : RowKit.varsRowed P s.vars = true)
    (hW : DataW.Whole enc P f.params.toList s.vars apart W args.toList ds gs before) (hb : Kp [] W W')
    (hs : s.fn H (ds ++ gs) = { results := [.lit (.bool true)], args := ds, vars := gs }) (hr : f.resultTypes = #[tb]) (ht : P.underlying tb = some .bool) :
    s.post enc P f apart fresh handsOn false W args (.bool true) W' := by
  have hbl := hb.below
  have hlt : ∀ x ∈ before, x.block < W.heap.size := fun x hx => hW.lt x hx
  have hW' := hW
  obtain ⟨p, q, h1, h2, rfl, h3, h4⟩ := hW
  refine ⟨ds, gs, p ++ q, [], p, q, hW', ?_, ?_, ?_, hbl.frame _, fun h => by cases h⟩
  · rw [hr, hs]
    exact ⟨[], [], ⟨1, by simp [DataW.trod, ht, Value.cells]⟩, rfl, rfl⟩
  · rw [hs]
    exact below_all hl hbl hp (fun x hx => hlt x (List.mem_append_left _ hx)) h1
  · rw [hs]
    exact RowKit.Below.trodVars hl hbl hv h2
theorem wts {ts : List TypeId} {ds : List (DataW H)} (hz : (DataW.weightsEach P ts ds).all (· ≤ reachBytes) = true) {j : Nat} {t : TypeId} {d : DataW H} (ht : ts[j]? = some t) (hd : ds[j]? = some d) :
    ∀ n ∈ d.weights P t, n ≤ reachBytes := fun n hn => of_decide_eq_true (List.all_eq_true.1 hz n (DataW.weights_mem_each ht hd n hn))
end
end Go.Sx
