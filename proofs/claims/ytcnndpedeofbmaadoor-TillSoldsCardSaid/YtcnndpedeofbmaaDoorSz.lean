/-
  GREAT ARRAYS, slices made, appends to a full slice of others, slices from a place on.
-/
import Derived.Test.YtcnndpedeofbmaaDoorSg
import Derived.Test.YtcnndpedeofbmaaDoorSh
import Derived.ChangeKeysEq
import Derived.Laws.MakeOwn
set_option maxRecDepth 100000
namespace Go.Sx
open Go
def intL1 (z : Int) : List Value := [.int .i64 z]
/-- The cells of a list of whole numbers. -/
def vals (xs : List Int) : List Value := xs.map (Value.int .i64)
theorem own_eq {α : Type} {enc : α → List Value} {sz : Nat} {e : TypeId} {A : Option Addr} {c : Nat} {l l' : List α} {b : Nat} {o : Option Obj} (h : Own enc sz e A c l b o) (hl : l = l') : Own enc sz e A c l' b o := hl ▸ h
theorem own_cap {α : Type} {enc : α → List Value} {sz : Nat} {e : TypeId} {A : Option Addr} {c : Nat} {l : List α} {b : Nat} {o : Option Obj} (h : Own enc sz e A c l b o) : l.length ≤ c := by
  rcases h with ⟨rfl, rfl⟩ | ⟨_, h, _⟩
  · exact Nat.le_refl _
  · exact h
theorem vals_flat (xs : List Int) : xs.flatMap intL1 = vals xs := by
  induction xs with
  | nil => rfl
  | cons x xs ih => rw [List.flatMap_cons, ih]; rfl
theorem vals_len (xs : List Int) : (vals xs).length = xs.length := by simp [vals]
theorem own_vals (e : TypeId) (b : Nat) (xs : List Int) : Own intL1 1 e (some ⟨b, 0, none⟩) xs.length xs b (some (.cells ⟨vals xs⟩ e (0, 0))) :=
  .inr ⟨rfl, Nat.le_refl _, _, rfl, by rw [← vals_flat]; exact reads_flat0 (enc := intL1) (sz := 1) (fun _ => rfl), by rw [vals_len]; omega⟩
theorem blk_lt' {w : World} {b o : Nat} {l : List Value} (h : CellsAt w b o l) (hne : 0 < l.length) : b < w.heap.size := by
  cases l with
  | nil => simp at hne
  | cons v l =>
    have := h 0 v rfl
    unfold World.cell? at this
    rcases Nat.lt_or_ge b w.heap.size with hx | hx
    · exact hx
    · rw [Array.getElem?_eq_none (by simpa using hx)] at this; simp at this
theorem sl_at {α : Type} {enc : α → List Value} {sz : Nat} (henc : ∀ y, (enc y).length = sz) (hz : 0 < sz) {w : World} {b : Nat} {ys : List α} (hc : CellsAt w b 0 (ys.flatMap enc)) : SlAt enc sz w (some ⟨b, 0, none⟩) ys.length ys := by
  refine ⟨rfl, fun i x hx => ⟨b, 0, rfl, ?_, ?_⟩⟩
  · refine blk_lt' hc ?_
    rw [flat_len henc]
    have := (List.getElem?_eq_some_iff.1 hx).1
    exact Nat.mul_pos (by omega) hz
  · have := (reads_flat0 henc).at hc hx
    rw [Nat.zero_add]; exact this
section
variable {N : Nat} {D : List Deferred} {T : List (Nat × Value)} {C : List (Nat × Option Obj)} {M : List Nat} {w0 : World} {a : Act} {w : World}
variable {P : Program} {r : Option Nat} {Q : Exit → Act → World → Prop} {K : Act → World → Prop}
variable {d : Nat} {ty : TypeId} {pos : String} {aft : Array Edge} {g : Option (Nat × Bool)}
theorem st_nilCheck {x : Operand} {p : Addr} (hs : Sx N D T C M w0 a w) (hx : Ev T x (.pointer (some p))) (hd : Nat.blt d N = true) (hf : fresh d T = true)
    (k : ∀ a' w', Sx N D ((d, .pointer (some p)) :: T) C M w0 a' w' → K a' w') : (Oper.mk (some d) (.nilCheck x) ty pos aft g).wpIn (Fx r) 0 P a w K Q :=
  st_run hs nofun (by simp [execOp, hs.ev hx]) hd hf k
theorem own_cell {e : TypeId} {A : Option Addr} {c b i k : Nat} {xs : List Int} {o : Option Obj} {x : Int} (hs : Sx N D T C M w0 a w) (hown : Own intL1 1 e A c xs b o) (hb : nth C i = some (b, o)) (hx : xs[k]? = some x) : CellsAt w b (k * 1) [.int .i64 x] := by
  obtain ⟨h1, l, rfl, h3⟩ := hown.open hx
  exact h3.at (CellsAt.of_block ((hs.blk _ (mem_nth hb) _ rfl).2)) hx
theorem own_cellM {e : TypeId} {A : Option Addr} {c b k : Nat} {xs : List Int} {o : Option Obj} {x : Int} (hs : Sx N D T C M w0 a w) (hown : Own intL1 1 e A c xs b o) (hb : (b, o) ∈ C) (hx : xs[k]? = some x) : CellsAt w b (k * 1) [.int .i64 x] := by
  obtain ⟨h1, l, rfl, h3⟩ := hown.open hx
  exact h3.at (CellsAt.of_block ((hs.blk _ hb _ rfl).2)) hx
theorem takeN_all {α : Type} : ∀ (l r : List α), takeN l.length (l ++ r) = some l := by
  intro l
  induction l with
  | nil => intro r; cases r <;> rfl
  | cons x l ih => intro r; simp [takeN, ih]
/-- A whole array is read. -/
theorem st_loadW {t e : TypeId} {x : Operand} {A : Option Addr} {c b i n : Nat} {xs : List Int} {o : Option Obj} (hs : Sx N D T C M w0 a w) (hx : Ev T x (.pointer (some ⟨b, 0, none⟩))) (hd : Nat.blt d N = true) (hf : fresh d T = true)
    (hag : ∀ w, (isAgg t).run P w = .ok true w) (hsz : ∀ w, (sizeOf t).run P w = .ok n w) (hown : Own intL1 1 e A c xs b o) (hb : nth C i = some (b, o)) (hn : xs.length = n)
    (k : ∀ a' w', Sx N D ((d, .agg ⟨vals xs⟩) :: T) C M w0 a' w' → K a' w') : (Oper.mk (some d) (.load t x) ty pos aft g).wpIn (Fx r) 0 P a w K Q := by
  have hc : CellsAt w b 0 (vals xs) := by
    rw [← vals_flat]
    refine cells_flat (enc := intL1) (sz := 1) (fun _ => rfl) (fun j y hy => ?_)
    rw [Nat.zero_add]; exact own_cell hs hown hb hy
  exact st_run hs nofun (by simp [execOp, hs.ev hx, Instr.loadAt, Instr.sureAddr, run_loadVar_agg hag hsz hc (by rw [vals_len]; exact hn)]) hd hf k
/-- 's[l:]' -/
theorem st_sliceLo {t e : TypeId} {x y : Operand} {A : Option Addr} {n c l sz : Nat} (hs : Sx N D T C M w0 a w) (hx : Ev T x (.slice A n c)) (hy : Ev T y (.int .i64 (l : Int))) (hd : Nat.blt d N = true) (hf : fresh d T = true)
    (hu : ∀ w, (underlying t).run P w = .ok (.slice e) w) (hsz : ∀ w, (sizeOf e).run P w = .ok sz w) (hl : l ≤ n)
    (k : ∀ a' w', Sx N D ((d, .slice (if c = l then A else A.map (·.add (l * sz))) (n - l) (c - l)) :: T) C M w0 a' w' → K a' w') : (Oper.mk (some d) (.slice t x (some y) none none) ty pos aft g).wpIn (Fx r) 0 P a w K Q := by
  refine st_run hs nofun ?_ hd hf k
  simp [execOp, hs.ev hx, hs.ev hy, Instr.sliceAt, Instr.slice, Instr.sliceBounds, Instr.sliceBound, asIntOf, hu, hsz]
  omega
theorem SlAt.drop {α : Type} {enc : α → List Value} {sz n c : Nat} {A : Option Addr} {xs : List α} (h : SlAt enc sz w A n xs) (l : Nat) (hc : n ≤ c) : SlAt enc sz w (if c = l then A else A.map (·.add (l * sz))) (n - l) (xs.drop l) := by
  refine ⟨by rw [List.length_drop, h.len], fun i x hx => ?_⟩
  rw [List.getElem?_drop] at hx
  have hi := (List.getElem?_eq_some_iff.1 hx).1
  have hlen := h.len
  obtain ⟨b, o, rfl, h1, h2⟩ := h.el (l + i) x hx
  rw [if_neg (by omega)]
  refine ⟨b, o + l * sz, by rw [Option.map_some, Addr_add], h1, ?_⟩
  rw [show o + l * sz + i * sz = o + (l + i) * sz from by rw [Nat.add_mul]; omega]; exact h2
theorem SlAt.take {α : Type} {enc : α → List Value} {sz n l : Nat} {A A' : Option Addr} {xs : List α} (h : SlAt enc sz w A n xs) (hl : l ≤ n) (hA : 0 < l → A' = A) : SlAt enc sz w A' l (xs.take l) := by
  refine ⟨by rw [List.length_take, ← h.len]; omega, fun i x hx => ?_⟩
  rw [List.getElem?_take] at hx
  split at hx
  · rename_i hi
    obtain ⟨b, o, h0, h1, h2⟩ := h.el i x hx
    exact ⟨b, o, (hA (by omega)).trans h0, h1, h2⟩
  · cases hx
/-- A slice that has no room, of whatever memory, grows by what another slice reads. -/
theorem st_appendF {α : Type} {enc : α → List Value} {sz by_ : Nat} {t e : TypeId} {z : Value} {x y : Operand} {A A2 : Option Addr} {n c2 : Nat} {zs ys : List α} (hs : Sx N D T C M w0 a w)
    (hx : Ev T x (.slice A zs.length zs.length)) (hy : Ev T y (.slice A2 n c2)) (hd : Nat.blt d N = true) (hf : fresh d T = true) (ht : P.underlying t = some (.slice e)) (hi : (P.info? e).map (fun i => (i.zero, i.size, i.bytes)) = some (some z, sz, by_))
    (hzl : z.cells.size = sz) (henc : ∀ y, (enc y).length = sz) (hold : SlAt enc sz w A zs.length zs) (hys : SlAt enc sz w A2 n ys) (hpos : 0 < n) (hfit : (zs.length + n) * by_ ≤ 140737488355328) (hsmall : zs.length + n ≤ 140737488355328)
    (k : ∀ A' c' b' o' a' w', Own enc sz e A' c' (zs ++ ys) b' o' → Sx N D ((d, .slice A' (zs.length + n) c') :: T) ((b', o') :: C) M w0 a' w' → K a' w') :
    (Oper.mk (some d) (.call { callee := .builtin .append, args := #[x, y], argTypes := #[t, t] }) ty pos aft g).wpIn (Fx r) 0 P a w K Q := by
  obtain ⟨info, hinfo, hz, hsz, hby⟩ : ∃ info, P.info? e = some info ∧ info.zero = some z ∧ info.size = sz ∧ info.bytes = by_ := by
    cases h : P.info? e with
    | none => rw [h] at hi; cases hi
    | some info => rw [h] at hi; simp only [Option.map_some, Option.some.injEq, Prod.mk.injEq] at hi; exact ⟨info, rfl, hi.1, hi.2.1, hi.2.2⟩
  have hn : n = ys.length := hys.len
  have hexec : ∀ v w', (Builtin.append_ #[t, t] ty #[.slice A zs.length zs.length, .slice A2 n c2]).run P w = .ok v w' →
      (execOp a.eval (Oper.mk (some d) (.call { callee := .builtin .append, args := #[x, y], argTypes := #[t, t] }) ty pos aft g)).run P w = .ok (.value v) w' := fun v w' h => by
    simp [execOp, resolve, hs.ev hx, hs.ev hy, invoke, builtin, h]
  have hnews : ∀ b2 o2, A2 = some ⟨b2, o2, none⟩ → ∀ j u, (ys.flatMap enc)[j]? = some u → w.cell? (Addr.add ⟨b2, o2, none⟩ j) = some u := fun b2 o2 hA j u hu => by
    have hc : CellsAt w b2 o2 (ys.flatMap enc) := cells_flat henc (fun i y hy' => by
      obtain ⟨b', o', h1, -, h3⟩ := hys.el i y hy'
      rw [hA] at h1; cases h1; exact h3)
    rw [Addr_add]
    exact hc j u (by rw [nth_get]; exact hu)
  have hlen : (ys.flatMap enc).length = n * info.size := by rw [flat_len henc, hsz, hn]
  obtain ⟨b2, o2, rfl⟩ : ∃ b2 o2, A2 = some ⟨b2, o2, none⟩ := by
    cases ys with
    | nil => simp at hn; omega
    | cons y' ys => obtain ⟨b', o', h1, -, -⟩ := hys.el 0 y' rfl; exact ⟨b', o', h1⟩
  have hg : zs.length < zs.length + n := by omega
  have hmaxfit : Builtin.nextslicecap (zs.length + n) zs.length * info.bytes ≤ 281474976710656 := by rw [hby]; exact growslice_fits hg hfit
  have h63 : ((zs.length + n : Nat) : Int) ≤ 9223372036854775807 := by omega
  have hge := grownCap_ge w (zs.length + n) zs.length e
  have hrun : ∃ cells : List Value, (Builtin.append_ #[t, t] ty #[.slice A zs.length zs.length, .slice (some ⟨b2, o2, none⟩) n c2]).run P w =
      .ok (.slice (some ⟨w.heap.size, 0, none⟩) (zs.length + n) (grownCap w (zs.length + n) zs.length e)) (w.drew.alloc (.cells ⟨cells⟩ e)) ∧
      Reads enc sz cells (zs ++ ys) ∧ grownCap w (zs.length + n) zs.length e * sz ≤ cells.length := by
    cases A with
    | none =>
      have hz0 : zs = [] := by
        cases zs with
        | nil => rfl
        | cons y' zs => obtain ⟨b', o', h1, -, -⟩ := hold.el 0 y' rfl; cases h1
      subst hz0
      have := run_append_nil (P := P) (w := w) t ty e info z ht hinfo hz ⟨b2, o2, none⟩ n c2 (ys.flatMap enc) hlen (hnews b2 o2 rfl) (by simpa using hg) (by simpa using h63) (by
        have : n * by_ ≤ 140737488355328 := by simpa using hfit
        rw [hby]; omega)
      refine ⟨ys.flatMap enc ++ (Builtin.zeroCells z.cells (grownCap w n 0 e - n)).toList, ?_, ?_, ?_⟩
      · simp only [List.length_nil, Nat.zero_add]
        rw [this]
        congr 4
        apply Array.ext'
        simp
      · simpa using reads_flat henc _
      · simp only [List.length_nil, Nat.zero_add] at hge ⊢
        rw [List.length_append, hlen, hsz, Array.length_toList, size_zeroCells, hzl, ← Nat.add_mul]
        exact Nat.mul_le_mul_right _ (by omega)
    | some b1 =>
      have hol : (zs.flatMap enc).length = zs.length * sz := flat_len henc zs
      have hoc : ∀ j u, (zs.flatMap enc)[j]? = some u → w.cell? (b1.add j) = some u := by
        intro j u hu
        cases hzs : zs with
        | nil => rw [hzs] at hu; simp at hu
        | cons y0 zs' =>
          obtain ⟨b', o', h1, -, -⟩ := hold.el 0 y0 (by rw [hzs]; rfl)
          cases h1
          have hc : CellsAt w b' o' (zs.flatMap enc) := cells_flat henc (fun i y hy' => by
            obtain ⟨b'', o'', h1, -, h3⟩ := hold.el i y hy'
            cases h1; exact h3)
          rw [Addr_add]
          exact hc j u (by rw [nth_get]; exact hu)
      have := run_append_grow (P := P) (w := w) t ty e info z ht hinfo hz b1 zs.length zs.length (zs.flatMap enc) (by rw [hol, hsz]) hoc ⟨b2, o2, none⟩ n c2 (ys.flatMap enc) hlen (hnews b2 o2 rfl) hg h63 hmaxfit
      refine ⟨zs.flatMap enc ++ (ys.flatMap enc ++ (Builtin.zeroCells z.cells (grownCap w (zs.length + n) zs.length e - (zs.length + n))).toList), ?_, ?_, ?_⟩
      · rw [this]
        congr 4
        apply Array.ext'
        simp
      · exact reads_append henc (reads_flat0 henc) hol (reads_flat henc _)
      · have hzz : (Builtin.zeroCells z.cells (grownCap w (zs.length + n) zs.length e - (zs.length + n))).toList.length = (grownCap w (zs.length + n) zs.length e - (zs.length + n)) * sz := by rw [Array.length_toList, size_zeroCells, hzl]
        rw [List.length_append, List.length_append, hol, hlen, hsz, hzz, ← Nat.add_mul, ← Nat.add_mul]
        exact Nat.mul_le_mul_right _ (by omega)
  obtain ⟨cells, hr, hrd, hcl⟩ := hrun
  refine op_value nofun (hexec _ _ hr) (k _ _ w.heap.size (some (.cells ⟨cells⟩ e (0, 0))) _ _ (.inr ⟨rfl, ?_, cells, rfl, hrd, hcl⟩) ?_)
  · rw [List.length_append, ← hn]; exact hge
  · exact hs.step hd hf ((drew_kp w).trans (Kp.push [] w.drew _)) ⟨(new_push w.drew _).blk, (new_push w.drew (.cells ⟨cells⟩ e)).apart⟩
/-- 'make' of a slice of whole numbers. -/
theorem st_makeInts {t e : TypeId} {x y : Operand} {n by_ : Nat} (hs : Sx N D T C M w0 a w) (hx : Ev T x (.int .i64 (n : Int))) (hy : Ev T y (.int .i64 (n : Int))) (hd : Nat.blt d N = true) (hf : fresh d T = true)
    (ht : P.underlying t = some (.slice e)) (hi : (P.info? e).map (fun i => (i.zero, i.size, i.bytes)) = some (some (.int .i64 0), 1, by_)) (hfit : by_ * n ≤ 281474976710656) (hn : n ≤ 281474976710656)
    (k : ∀ b a' w', Sx N D ((d, .slice (some ⟨b, 0, none⟩) n n) :: T) ((b, some (.cells ⟨vals (List.replicate n 0)⟩ e (0, 0))) :: C) M w0 a' w' → K a' w') :
    (Oper.mk (some d) (.makeSlice t x y) ty pos aft g).wpIn (Fx r) 0 P a w K Q := by
  obtain ⟨info, hinfo, hz, hsz, hby⟩ : ∃ info, P.info? e = some info ∧ info.zero = some (.int .i64 0) ∧ info.size = 1 ∧ info.bytes = by_ := by
    cases h : P.info? e with
    | none => rw [h] at hi; cases hi
    | some info => rw [h] at hi; simp only [Option.map_some, Option.some.injEq, Prod.mk.injEq] at hi; exact ⟨info, rfl, hi.1, hi.2.1, hi.2.2⟩
  have hf' : (info.bytes : Int) * (n : Int) ≤ 281474976710656 := by
    have h : ((info.bytes * n : Nat) : Int) ≤ 281474976710656 := by rw [hby]; omega
    rwa [Int.natCast_mul] at h
  have hr := run_make (P := P) w t e info _ ht hinfo hz .i64 .i64 (n : Int) (n : Int) (by omega) (Int.le_refl _) hf' (by omega)
  have he : madeCells (Value.int .i64 0).cells (n * info.size) = (⟨vals (List.replicate n 0)⟩ : Array Value) := by
    rw [hsz, Nat.mul_one]
    apply Array.ext'
    simp only [madeCells, vals, List.map_replicate]
    refine List.eq_replicate_iff.2 ⟨by simp, fun v hv => ?_⟩
    simp only [Array.toList_map, Array.toList_range, List.mem_map] at hv
    obtain ⟨j, -, rfl⟩ := hv
    show (#[Value.int .i64 0] : Array Value)[j % 1]! = _
    rw [Nat.mod_one]; rfl
  simp only [Int.toNat_natCast] at hr
  rw [he] at hr
  refine op_value (v := .slice (some ⟨w.heap.size, 0, none⟩) n n) (w' := w.alloc (.cells ⟨vals (List.replicate n 0)⟩ e)) nofun ?_ (k _ _ _ (hs.step hd hf (Kp.push [] w _) (new_push w _)))
  simp [execOp, hs.ev hx, hs.ev hy, hr]
end
theorem eqItems_ints {P : Program} (d : Nat) {e : TypeId} (he : P.underlying e = some (.int .i64)) (hag : ∀ w, (isAgg e).run P w = .ok false w) (hc : P.cellsOf e = 1) {n : Nat} (f h : Nat → Int) (w : World) : ∀ is : List Nat, (∀ i ∈ is, i < n) →
    (Op.eqItems (d + 1) e (P.cellsOf e) ⟨vals ((List.range n).map f)⟩ ⟨vals ((List.range n).map h)⟩ is).run P w = .ok (is.all (fun i => f i == h i)) w := by
  intro is
  induction is with
  | nil => intro _; rfl
  | cons i is ih =>
    intro hi
    have h1 := hi i (by simp)
    have pa : ∀ f : Nat → Int, (part e ⟨vals ((List.range n).map f)⟩ (i * P.cellsOf e)).run P w = .ok (.int .i64 (f i)) w := by
      intro f
      rw [hc, Nat.mul_one]
      simp [part, hag, vals, h1]
    have h2 : (Op.equalIn (d + 1) e (.int .i64 (f i)) (.int .i64 (h i))).run P w = .ok (f i == h i) w := run_equalIn_int w d e .i64 .i64 _ _ he
    simp only [Op.eqItems, Sem.run_bind, pa, Result.andThen_ok, h2, List.all_cons]
    cases hb : (f i == h i) with
    | false => simp
    | true => simpa using ih (fun j hj => hi j (by simp [hj]))
theorem run_build_arr {P : Program} {t e : TypeId} {len sz : Nat} {z cells : Array Value} {parts : List (Nat × Value)} (hz : ∀ w, (zeroValue t).run P w = .ok (.agg z) w) (hu : ∀ w, (underlying t).run P w = .ok (.array len e) w) (hsz : ∀ w, (sizeOf e).run P w = .ok sz w)
    (hf : Instr.fill (fun i => some (i * sz, sz)) z parts = some cells) (w : World) : (Instr.build t ⟨parts⟩).run P w = .ok (.agg cells) w := by
  simp [Instr.build, hz, hu, hsz, hf, Value.cells]
end Go.Sx
