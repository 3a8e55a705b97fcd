/-
  CALLS THAT CHANGE BLOCKS THAT THE CALLER KNOWS (a map that functions share); maps; append; slices of slices.
-/
import Derived.Test.YtcnndpedeofbmaaDoorSo
import Derived.WideKeyRuns
import Derived.Laws.AppendOwn
import Derived.Scope
set_option maxRecDepth 100000
namespace Go.Sx
open Go
/-- The list C of blocks is told at w. -/
structure Told (C : List (Nat × Option Obj)) (w : World) : Prop where
  blk : ∀ p ∈ C, ∃ o, p.2 = some o ∧ w.heap[p.1]? = some o
  apart : C.Pairwise (fun p q => p.1 ≠ q.1)
/-- What a call hands back that may change the blocks 'ids': a value; the blocks that are told now. -/
def RetG (w : World) (ids : List Nat) (post : Value → List (Nat × Option Obj) → Prop) (e : Ending) (w' : World) : Prop :=
  ∃ v B', e = .returned v ∧ Kp ids w w' ∧ Told B' w' ∧ (∀ p ∈ B', p.1 ∈ ids ∨ w.heap.size ≤ p.1) ∧ post v B'
def CallsG (P : Program) (f : FuncId) (args : List Value) (C : List (Nat × Option Obj)) (w : World) (post : Value → List (Nat × Option Obj) → Prop) : Prop :=
  Told C w → Calls P f ⟨args⟩ w (RetG w (C.map (·.1)) post)
section
variable {N : Nat} {D : List Deferred} {T : List (Nat × Value)} {B : List (Nat × Option Obj)} {M : List Nat} {w0 : World} {a : Act} {w : World} {P : Program}
theorem enterG {N : Nat} {f : FuncId} {fn : Func} {c : Code} {vs : List Value} {R : Ending → World → Prop} {C : List (Nat × Option Obj)} (w0 : World) (hf : P.funcs[f]? = some fn) (hb : fn.body = some c) (hN : fn.ntmps = N) (hv : Nat.ble vs.length N = true) (hC : Told C w0)
    (h : ∀ (Q : Exit → Act → World → Prop) (a : Act), (∀ a w, bodyPost P fn R .ret a w → Q .ret a w) → (∀ a w, bodyPost P fn R .normal a w → Q .normal a w) →
      Sx N [] (argsT 0 vs) C (C.map (·.1)) w0 a w0 → c.wpIn (Fx none) 0 P Q a w0) : Calls P f ⟨vs⟩ w0 R := by
  refine enter (M := C.map (·.1)) w0 hf hb hN hv (fun Q a h1 h2 hs => h Q a h1 h2 ?_)
  refine ⟨hs.size, hs.defers, hs.tmp, fun p hp o ho => ⟨.inl (List.mem_map_of_mem hp), ?_⟩, hC.apart.imp (fun h => .inr (.inr h)), hs.kp⟩
  obtain ⟨o', ho', hw⟩ := hC.blk p hp
  rw [ho] at ho'
  cases ho'
  exact hw
theorem Sx.told (hs : Sx N D T B M w0 a w) (h : ∀ p ∈ B, ∃ o, p.2 = some o) : Told B w :=
  ⟨fun p hp => let ⟨o, ho⟩ := h p hp; ⟨o, ho, (hs.blk p hp o ho).2⟩, hs.apart.imp_of_mem (fun {p q} hp hq h' => by
    obtain ⟨o, ho⟩ := h p hp
    obtain ⟨o', ho'⟩ := h q hq
    rcases h' with e | e | e
    · rw [ho] at e; cases e
    · rw [ho'] at e; cases e
    · exact e)⟩
theorem cd_retG {r : Option Nat} {fn : Func} {xs : List ResultVar} {vs : List Value} {ids : List Nat} {post : Value → List (Nat × Option Obj) → Prop} {Q : Exit → Act → World → Prop}
    (hs : Sx N [] T B ids w0 a w) (hQ : ∀ a w, bodyPost P fn (RetG w0 ids post) .ret a w → Q .ret a w) (hr : fn.results = ⟨xs⟩) (h : ResVs P T w xs vs) (hB : ∀ p ∈ B, ∃ o, p.2 = some o) (hp : post (pack vs) B) :
    Code.ret.wpIn (Fx r) 0 P Q a w :=
  wpIn_ret (hQ a w ⟨hs.defers, pack vs, run_results hs hr h, pack vs, B, rfl, hs.kp, hs.told hB, fun p hp' => by
    obtain ⟨o, ho⟩ := hB p hp'
    exact (hs.blk p hp' o ho).1, hp⟩)
end
section
variable {N : Nat} {D : List Deferred} {T : List (Nat × Value)} {B1 C : List (Nat × Option Obj)} {M : List Nat} {w0 : World} {a : Act} {w : World}
variable {P : Program} {r : Option Nat} {Q : Exit → Act → World → Prop} {K : Act → World → Prop}
variable {d : Nat} {ty : TypeId} {pos : String} {aft : Array Edge} {g : Option (Nat × Bool)}
theorem st_callG {post : Value → List (Nat × Option Obj) → Prop} {fo : Operand} {f : FuncId} {xs : List Operand} {vs args : List Value} {fi ca : List Value} {at_ : Array TypeId} (hs : Sx N D T (B1 ++ C) M w0 a w)
    (hfo : Ev T fo (.func (.func f) ⟨fi⟩ ⟨ca⟩)) (hx : Evs T xs vs) (hd : Nat.blt d N = true) (hf : fresh d T = true)
    (hcf : ∀ (args : Array Value) (w : World), (callFunc f args).run P w = .ok (.enter f args) w) (ha : fi ++ (vs ++ ca) = args) (hC : ∀ p ∈ C, ∃ o, p.2 = some o)
    (hc : CallsG P f args C w post) (k : ∀ v B' a' w', post v B' → (∀ p ∈ B', ∃ o, p.2 = some o) → Sx N D ((d, v) :: T) (B1 ++ B') M w0 a' w' → K a' w') :
    (Oper.mk (some d) (.call { callee := .value fo, args := ⟨xs⟩, argTypes := at_ }) ty pos aft g).wpIn (Fx r) 0 P a w K Q := by
  have hsC : Sx N D T C M w0 a w := hs.blks (List.sublist_append_right _ _)
  have hids : ∀ k ∈ C.map (·.1), (k ∈ M ∨ w0.heap.size ≤ k) ∧ k < w.heap.size := fun k hk => by
    obtain ⟨p, hp, rfl⟩ := List.mem_map.1 hk
    obtain ⟨o, ho⟩ := hC p hp
    have := hsC.blk p hp o ho
    exact ⟨this.1, lt_of_some this.2⟩
  refine op_call hs hfo hx hcf ha (hc (hsC.told hC)) (fun e w' ⟨v, B', he, hk, ht, hlo, hp⟩ => ⟨v, he, k v B' _ _ hp (fun p hp' => let ⟨o, h1, _⟩ := ht.blk p hp'; ⟨o, h1⟩) ?_⟩)
  have hput : Sx N D ((d, v) :: T) (B1 ++ C) M w0 (a.put (some d) v) w := hs.put hd hf
  have hap := List.pairwise_append.1 hs.apart
  have hB1 : ∀ p ∈ B1, ∀ o, p.2 = some o → p.1 ∉ C.map (·.1) := fun p hp o ho hm => by
    obtain ⟨q, hq, hqe⟩ := List.mem_map.1 hm
    obtain ⟨o', ho'⟩ := hC q hq
    rcases hap.2.2 p hp q hq with e | e | e
    · rw [ho] at e; cases e
    · rw [ho'] at e; cases e
    · exact e hqe.symm
  refine ⟨hput.size, hput.defers, hput.tmp, fun p hp' o ho => ?_, ?_, ?_⟩
  · rcases List.mem_append.1 hp' with hp' | hp'
    · have h1 := hs.blk p (List.mem_append_left _ hp') o ho
      exact ⟨h1.1, hk.at h1.2 (hB1 p hp' o ho)⟩
    · obtain ⟨o', ho', hw⟩ := ht.blk p hp'
      rw [ho] at ho'
      cases ho'
      refine ⟨?_, hw⟩
      rcases hlo p hp' with h | h
      · exact (hids _ h).1
      · exact .inr (Nat.le_trans hs.kp.size h)
  · refine List.pairwise_append.2 ⟨hap.1, ht.apart.imp (fun h => .inr (.inr h)), fun p hp' q hq => ?_⟩
    cases hp2 : p.2 with
    | none => exact .inl rfl
    | some o =>
      refine .inr (.inr (fun e => ?_))
      rcases hlo q hq with h | h
      · exact hB1 p hp' o hp2 (e ▸ h)
      · have := lt_of_some (hs.blk p (List.mem_append_left _ hp') o hp2).2; omega
  · refine ⟨hk.os.trans hs.kp.os, hk.tape.trans hs.kp.tape, hk.output.trans hs.kp.output, Nat.le_trans hs.kp.size hk.size, fun k hkk hm => ?_⟩
    rw [hk.block k (by have := hs.kp.size; omega) (fun h => by rcases (hids _ h).1 with h' | h'; exact hm h'; omega)]
    exact hs.kp.block k hkk hm
/-! ### Maps whose keys are structs or arrays -/
/-- Every entry's key is one of 'enc', its value is good for it. -/
def Ents {κ : Type} (enc : κ → Value) (good : κ → Value → Prop) (es : Array MapEntry) : Prop := ∀ e ∈ es.toList, ∃ k, e.key = enc k ∧ good k e.val
theorem st_makeMap {t : TypeId} (hs : Sx N D T C M w0 a w) (hd : Nat.blt d N = true) (hf : fresh d T = true)
    (k : ∀ b a' w', Sx N D ((d, .map (some b)) :: T) ((b, some (.map #[] 0)) :: C) M w0 a' w' → K a' w') : (Oper.mk (some d) (.makeMap t none) ty pos aft g).wpIn (Fx r) 0 P a w K Q := by
  refine op_value (v := .map (some w.heap.size)) (w' := { w with heap := w.heap.push (.map #[] 0) }) nofun ?_ (k _ _ _ (hs.step hd hf (Kp.push [] w _) (new_push w _)))
  simp [execOp, Instr.makeMap, newObj, Sem.run]
theorem run_find {κ : Type} {enc : κ → Value} {kt : TypeId} {beq : κ → κ → Bool} (heq : ∀ x y w, (Op.equal kt (enc x) (enc y)).run P w = .ok (beq x y) w) {good : κ → Value → Prop} (x : κ) : ∀ (es : List MapEntry) (i : Nat), (∀ e ∈ es, ∃ k, e.key = enc k ∧ good k e.val) →
    ∃ r, (∀ w, (Instr.findAsking kt (enc x) es i).run P w = .ok r w) ∧ ∀ j v, r = some (j, v) → i ≤ j ∧ ∃ e k, es[j - i]? = some e ∧ e.key = enc k ∧ beq x k = true ∧ e.val = v ∧ good k v := by
  intro es
  induction es with
  | nil => intro i _; exact ⟨none, fun w => by simp [Instr.findAsking], fun j v h => by cases h⟩
  | cons e es ih =>
    intro i h
    obtain ⟨k, hk, hg⟩ := h e (by simp)
    cases hb : beq x k with
    | true =>
      refine ⟨some (i, e.val), fun w => by simp [Instr.findAsking, hk, heq, hb], fun j v hj => ?_⟩
      simp only [Option.some.injEq, Prod.mk.injEq] at hj
      obtain ⟨rfl, rfl⟩ := hj
      exact ⟨Nat.le_refl _, e, k, by simp, hk, hb, rfl, hg⟩
    | false =>
      obtain ⟨r, h1, h2⟩ := ih (i + 1) (fun e' he => h e' (by simp [he]))
      refine ⟨r, fun w => by simp [Instr.findAsking, hk, heq, hb, h1], fun j v hj => ?_⟩
      obtain ⟨h3, e', k', h4, h5⟩ := h2 j v hj
      refine ⟨by omega, e', k', ?_, h5⟩
      rw [show j - i = (j - (i + 1)) + 1 from by omega]; simpa using h4
theorem st_lookup {κ : Type} {enc : κ → Value} {good : κ → Value → Prop} {beq : κ → κ → Bool} {mt kt et : TypeId} {x y : Operand} {m i : Nat} {es : Array MapEntry} {clock : Nat} {q : κ} {z : Value} (hs : Sx N D T C M w0 a w) (hx : Ev T x (.map (some m))) (hy : Ev T y (enc q))
    (hd : Nat.blt d N = true) (hf : fresh d T = true) (hu : ∀ w, (underlying mt).run P w = .ok (.map kt et) w) (hwide : (match P.underlying kt with | some (.array _ _) | some (.struct _) => true | _ => false) = true)
    (heq : ∀ x y w, (Op.equal kt (enc x) (enc y)).run P w = .ok (beq x y) w) (hb : ∀ x y, beq x y = true → x = y) (hck : ∀ em x w, (Instr.checkKey em 10000 kt (enc x)).run P w = .ok () w) (hz : ∀ w, (zeroValue et).run P w = .ok z w)
    (hm : nth C i = some (m, some (.map es clock))) (he : Ents enc good es)
    (k : ∀ v ok a' w', (ok = true → good q v) → (ok = false → v = z) → Sx N D ((d, .tuple ⟨[v, .bool ok]⟩) :: T) C M w0 a' w' → K a' w') :
    (Oper.mk (some d) (.lookup mt x y true) ty pos aft g).wpIn (Fx r) 0 P a w K Q := by
  have hw := (hs.blk _ (mem_nth hm) _ rfl).2
  obtain ⟨rr, h1, h2⟩ := run_find (P := P) heq q es.toList 0 he
  have hfk : ∀ w, (Instr.findKey kt (enc q) es.toList).run P w = .ok rr w := fun w => by rw [run_findKey_eq w hwide]; exact h1 w
  cases rr with
  | none => exact st_run hs nofun (v := .tuple ⟨[z, .bool false]⟩) (by simp [execOp, Instr.lookup, hs.ev hx, hs.ev hy, hu, getObj, Sem.run, hw, hck, hfk, hz]) hd hf (fun a' w' h => k z false a' w' (fun h => by cases h) (fun _ => rfl) h)
  | some p =>
    obtain ⟨j, v⟩ := p
    obtain ⟨-, e, k', -, -, hbk, rfl, hg⟩ := h2 j v rfl
    have := hb q k' hbk
    subst this
    exact st_run hs nofun (v := .tuple ⟨[e.val, .bool true]⟩) (by simp [execOp, Instr.lookup, hs.ev hx, hs.ev hy, hu, getObj, Sem.run, hw, hck, hfk]) hd hf (fun a' w' h => k _ true a' w' (fun _ => hg) (fun h => by cases h) h)
end

/-! ### Append -/
theorem CellsAt.append {w : World} {b o : Nat} {l1 l2 : List Value} (h1 : CellsAt w b o l1) (h2 : CellsAt w b (o + l1.length) l2) : CellsAt w b o (l1 ++ l2) := by
  intro j v hv
  rw [nth_get] at hv
  rcases Nat.lt_or_ge j l1.length with h | h
  · rw [List.getElem?_append_left h] at hv
    exact h1 j v (by rw [nth_get]; exact hv)
  · rw [List.getElem?_append_right h] at hv
    have := h2 (j - l1.length) v (by rw [nth_get]; exact hv)
    rw [show o + l1.length + (j - l1.length) = o + j from by omega] at this
    exact this
theorem cells_flat {α : Type} {enc : α → List Value} {sz : Nat} (henc : ∀ y, (enc y).length = sz) {w : World} {b : Nat} : ∀ {ys : List α} {o : Nat}, (∀ i y, ys[i]? = some y → CellsAt w b (o + i * sz) (enc y)) → CellsAt w b o (ys.flatMap enc) := by
  intro ys
  induction ys with
  | nil => intro o _ j v hv; simp [nth_get] at hv
  | cons y ys ih =>
    intro o h
    rw [List.flatMap_cons]
    refine CellsAt.append (by simpa using h 0 y rfl) (ih (fun i x hx => ?_))
    have := h (i + 1) x (by simpa using hx)
    rw [henc]
    rw [show o + sz + i * sz = o + (i + 1) * sz from by rw [Nat.add_mul]; omega]
    exact this
theorem flat_len {α : Type} {enc : α → List Value} {sz : Nat} (henc : ∀ y, (enc y).length = sz) : ∀ ys : List α, (ys.flatMap enc).length = ys.length * sz := by
  intro ys
  induction ys with
  | nil => simp
  | cons y ys ih => rw [List.flatMap_cons, List.length_append, henc, ih, List.length_cons, Nat.add_mul]; omega
theorem reads_flat {α : Type} {enc : α → List Value} {sz : Nat} (henc : ∀ y, (enc y).length = sz) (rest : List Value) : ∀ {ys : List α}, Reads enc sz (ys.flatMap enc ++ rest) ys := by
  intro ys
  induction ys with
  | nil => intro i x hx; simp at hx
  | cons y ys ih =>
    intro i x hx j v hv
    rw [nth_get] at hv ⊢
    rw [List.flatMap_cons, List.append_assoc]
    cases i with
    | zero =>
      simp only [List.getElem?_cons_zero, Option.some.injEq] at hx
      subst hx
      have hj := (List.getElem?_eq_some_iff.1 hv).1
      rw [Nat.zero_mul, Nat.zero_add, List.getElem?_append_left hj]; exact hv
    | succ i =>
      have := ih i x (by simpa using hx) j v (by rw [nth_get]; exact hv)
      rw [nth_get] at this
      rw [List.getElem?_append_right (by rw [henc, Nat.add_mul]; omega), henc]
      rw [show (i + 1) * sz + j - sz = i * sz + j from by rw [Nat.add_mul]; omega]; exact this
theorem reads_append {α : Type} {enc : α → List Value} {sz : Nat} (henc : ∀ y, (enc y).length = sz) {zs ys : List α} {l1 l2 : List Value} (h1 : Reads enc sz l1 zs) (hl : l1.length = zs.length * sz) (h2 : Reads enc sz l2 ys) : Reads enc sz (l1 ++ l2) (zs ++ ys) := by
  intro i x hx j v hv
  have hj : j < sz := by rw [nth_get] at hv; have := (List.getElem?_eq_some_iff.1 hv).1; rwa [henc] at this
  rcases Nat.lt_or_ge i zs.length with h | h
  · rw [List.getElem?_append_left h] at hx
    have := h1 i x hx j v hv
    rw [nth_get] at this ⊢
    rw [List.getElem?_append_left (by have := (List.getElem?_eq_some_iff.1 this).1; exact this)]; exact this
  · rw [List.getElem?_append_right h] at hx
    have := h2 (i - zs.length) x hx j v hv
    rw [nth_get] at this ⊢
    have e : i * sz = zs.length * sz + (i - zs.length) * sz := by rw [← Nat.add_mul]; congr 1; omega
    rw [List.getElem?_append_right (by rw [hl, e]; omega), hl, e]
    rw [show zs.length * sz + (i - zs.length) * sz + j - zs.length * sz = (i - zs.length) * sz + j from by omega]; exact this
theorem reads_take {α : Type} {enc : α → List Value} {sz : Nat} (henc : ∀ y, (enc y).length = sz) {zs : List α} {l : List Value} (h : Reads enc sz l zs) : Reads enc sz (l.take (zs.length * sz)) zs := by
  intro i x hx j v hv
  have hj : j < sz := by rw [nth_get] at hv; have := (List.getElem?_eq_some_iff.1 hv).1; rwa [henc] at this
  have hi := (List.getElem?_eq_some_iff.1 hx).1
  have := h i x hx j v hv
  rw [nth_get] at this ⊢
  have e : (i + 1) * sz ≤ zs.length * sz := Nat.mul_le_mul_right _ hi
  rw [Nat.add_mul] at e
  rw [List.getElem?_take, if_pos (by omega)]; exact this
theorem splice_eq {α : Type} : ∀ (o : Nat) (l vs : List α), o + vs.length ≤ l.length → splice l o vs = some (l.take o ++ vs ++ l.drop (o + vs.length)) := by
  intro o
  induction o with
  | zero =>
    intro l vs
    induction vs generalizing l with
    | nil => intro _; cases l <;> simp [splice]
    | cons v vs ih =>
      intro h
      cases l with
      | nil => simp at h
      | cons x l =>
        have := ih l (by simp at h ⊢; omega)
        simp only [splice, this]
        simp
  | succ o ih =>
    intro l vs h
    cases l with
    | nil => simp at h
    | cons x l =>
      have := ih l vs (by simp at h; omega)
      simp only [splice, this]
      simp [Nat.add_right_comm]

section
variable {N : Nat} {D : List Deferred} {T : List (Nat × Value)} {C : List (Nat × Option Obj)} {M : List Nat} {w0 : World} {a : Act} {w : World}
variable {P : Program} {r : Option Nat} {Q : Exit → Act → World → Prop} {K : Act → World → Prop}
variable {d : Nat} {ty : TypeId} {pos : String} {aft : Array Edge} {g : Option (Nat × Bool)}
theorem drew_kp (w : World) : Kp [] w w.drew := ⟨rfl, rfl, rfl, Nat.le_refl _, fun _ _ _ => rfl⟩
theorem setAt_same {α : Type} {x : α} : ∀ {l : List α} {i : Nat}, nth l i = some x → setAt l i x = l := by
  intro l
  induction l with
  | nil => intro i h; cases h
  | cons y l ih =>
    intro i h
    cases i with
    | zero => simp only [nth, Option.some.injEq] at h; subst h; rfl
    | succ i => simp only [setAt, ih h]
theorem Sx.swap {B : List (Nat × Option Obj)} {p q : Nat × Option Obj} {i : Nat} (hs : Sx N D T (q :: B) M w0 a w) (h : nth B i = some p) : Sx N D T (setAt B i q) M w0 a w := by
  obtain ⟨l1, l2, rfl, e2⟩ := setAt_split (y := q) h
  rw [e2]
  refine Sx.perm List.perm_middle (hs.blks (B' := q :: (l1 ++ l2)) ?_)
  exact List.Sublist.cons_cons _ (List.Sublist.append_left (List.sublist_cons_self _ _) _)
/-- A slice of ours (or an empty one without room) grows by what another slice reads. -/
theorem st_append {α : Type} {enc : α → List Value} {sz by_ : Nat} {t e : TypeId} {z : Value} {x y : Operand} {A A2 : Option Addr} {c n c2 i b : Nat} {o : Option Obj} {zs ys : List α} (hs : Sx N D T C M w0 a w)
    (hx : Ev T x (.slice A zs.length c)) (hy : Ev T y (.slice A2 n c2)) (hd : Nat.blt d N = true) (hf : fresh d T = true) (ht : P.underlying t = some (.slice e)) (hi : (P.info? e).map (fun i => (i.zero, i.size, i.bytes)) = some (some z, sz, by_))
    (hzl : z.cells.size = sz) (henc : ∀ y, (enc y).length = sz) (h1 : ∀ y, ∀ u ∈ enc y, u.oneCell' = true) (hown : Own enc sz e A c zs b o) (hb : nth C i = some (b, o)) (hys : SlAt enc sz w A2 n ys) (hfit : (zs.length + n) * by_ ≤ 140737488355328) (hsmall : zs.length + n ≤ 140737488355328)
    (k : ∀ A' c' b' o' a' w', Own enc sz e A' c' (zs ++ ys) b' o' → Sx N D ((d, .slice A' (zs.length + n) c') :: T) (setAt C i (b', o')) M w0 a' w' → K a' w') :
    (Oper.mk (some d) (.call { callee := .builtin .append, args := #[x, y], argTypes := #[t, t] }) ty pos aft g).wpIn (Fx r) 0 P a w K Q := by
  obtain ⟨info, hinfo, hz, hsz, hby⟩ : ∃ info, P.info? e = some info ∧ info.zero = some z ∧ info.size = sz ∧ info.bytes = by_ := by
    cases h : P.info? e with
    | none => rw [h] at hi; cases hi
    | some info => rw [h] at hi; simp only [Option.map_some, Option.some.injEq, Prod.mk.injEq] at hi; exact ⟨info, rfl, hi.1, hi.2.1, hi.2.2⟩
  have hn : n = ys.length := hys.len
  have hexec : ∀ v w', (Builtin.append_ #[t, t] ty #[.slice A zs.length c, .slice A2 n c2]).run P w = .ok v w' →
      (execOp a.eval (Oper.mk (some d) (.call { callee := .builtin .append, args := #[x, y], argTypes := #[t, t] }) ty pos aft g)).run P w = .ok (.value v) w' := fun v w' h => by
    simp [execOp, resolve, hs.ev hx, hs.ev hy, invoke, builtin, h]
  have hnews : ∀ b2 o2, A2 = some ⟨b2, o2, none⟩ → ∀ j u, (ys.flatMap enc)[j]? = some u → w.cell? (Addr.add ⟨b2, o2, none⟩ j) = some u := fun b2 o2 hA j u hu => by
    have hc : CellsAt w b2 o2 (ys.flatMap enc) := cells_flat henc (fun i y hy' => by
      obtain ⟨b', o', h1, -, h3⟩ := hys.el i y hy'
      rw [hA] at h1; cases h1; exact h3)
    rw [Addr_add]
    exact hc j u (by rw [nth_get]; exact hu)
  have hlen : (ys.flatMap enc).length = n * info.size := by rw [flat_len henc, hsz, hn]
  have hone : ∀ u ∈ ys.flatMap enc, u.oneCell' = true := fun u hu => by
    obtain ⟨y', -, hu'⟩ := List.mem_flatMap.1 hu
    exact h1 y' u hu'
  have hAs : 0 < n → ∃ b2 o2, A2 = some ⟨b2, o2, none⟩ := fun h => by
    cases ys with
    | nil => simp at hn; omega
    | cons y' ys => obtain ⟨b', o', h1, -, -⟩ := hys.el 0 y' rfl; exact ⟨b', o', h1⟩
  have hzc : zs.length ≤ c := by
    rcases hown with ⟨rfl, rfl⟩ | ⟨_, h, _⟩
    · simp
    · exact h
  rcases Nat.lt_or_ge c (zs.length + n) with hg | hg
  · -- a new row
    obtain ⟨b2, o2, rfl⟩ := hAs (by omega)
    obtain ⟨olds, hol, hoc, hor⟩ : ∃ olds : List Value, olds.length = zs.length * sz ∧ (∀ b1, A = some b1 → ∀ j u, olds[j]? = some u → w.cell? (b1.add j) = some u) ∧ Reads enc sz olds zs := by
      rcases hown with ⟨rfl, rfl⟩ | ⟨rfl, h2, l, rfl, h4, h5⟩
      · exact ⟨[], by simp, fun _ _ j u hu => by simp at hu, fun i x hx => by simp at hx⟩
      · refine ⟨l.take (zs.length * sz), ?_, fun b1 hb1 j u hu => ?_, reads_take henc h4⟩
        · rw [List.length_take, Nat.min_eq_left (Nat.le_trans (Nat.mul_le_mul_right _ h2) h5)]
        · cases hb1
          have hc := hs.cells i hb
          rw [Addr_add]
          refine hc j u ?_
          rw [nth_get]
          rw [List.getElem?_take] at hu
          split at hu
          · exact hu
          · cases hu
    have hmaxfit : Builtin.nextslicecap (zs.length + n) c * info.bytes ≤ 281474976710656 := by rw [hby]; exact growslice_fits hg hfit
    have h63 : ((zs.length + n : Nat) : Int) ≤ 9223372036854775807 := by omega
    have hrun : ∃ cells : List Value, (Builtin.append_ #[t, t] ty #[.slice A zs.length c, .slice (some ⟨b2, o2, none⟩) n c2]).run P w =
        .ok (.slice (some ⟨w.heap.size, 0, none⟩) (zs.length + n) (grownCap w (zs.length + n) c e)) (w.drew.alloc (.cells ⟨cells⟩ e)) ∧
        Reads enc sz cells (zs ++ ys) ∧ grownCap w (zs.length + n) c e * sz ≤ cells.length := by
      have hge := grownCap_ge w (zs.length + n) c e
      cases A with
      | none =>
        have hz0 : zs = [] ∧ c = 0 := by
          rcases hown with h | ⟨h, _⟩
          · exact h
          · cases h
        obtain ⟨rfl, rfl⟩ := hz0
        have := run_append_nil (P := P) (w := w) t ty e info z ht hinfo hz ⟨b2, o2, none⟩ n c2 (ys.flatMap enc) hlen (hnews b2 o2 rfl) (by simpa using hg) (by simpa using h63) (by
          have : n * by_ ≤ 140737488355328 := by simpa using hfit
          rw [hby]; omega)
        refine ⟨ys.flatMap enc ++ (Builtin.zeroCells z.cells (grownCap w n 0 e - n)).toList, ?_, ?_, ?_⟩
        · simp only [List.length_nil, Nat.zero_add]
          rw [this]
          congr 4
          apply Array.ext'
          simp
        · simpa using reads_flat henc _
        · simp only [List.length_nil, Nat.zero_add] at hge ⊢
          rw [List.length_append, hlen, hsz, Array.length_toList, size_zeroCells, hzl, ← Nat.add_mul]
          exact Nat.mul_le_mul_right _ (by omega)
      | some b1 =>
        have := run_append_grow (P := P) (w := w) t ty e info z ht hinfo hz b1 zs.length c olds (by rw [hol, hsz]) (hoc b1 rfl) ⟨b2, o2, none⟩ n c2 (ys.flatMap enc) hlen (hnews b2 o2 rfl) hg h63 hmaxfit
        refine ⟨olds ++ (ys.flatMap enc ++ (Builtin.zeroCells z.cells (grownCap w (zs.length + n) c e - (zs.length + n))).toList), ?_, ?_, ?_⟩
        · rw [this]
          congr 4
          apply Array.ext'
          simp
        · exact reads_append henc hor hol (reads_flat henc _)
        · have hzz : (Builtin.zeroCells z.cells (grownCap w (zs.length + n) c e - (zs.length + n))).toList.length = (grownCap w (zs.length + n) c e - (zs.length + n)) * sz := by rw [Array.length_toList, size_zeroCells, hzl]
          rw [List.length_append, List.length_append, hol, hlen, hsz, hzz, ← Nat.add_mul, ← Nat.add_mul]
          exact Nat.mul_le_mul_right _ (by omega)
    obtain ⟨cells, hr, hrd, hcl⟩ := hrun
    refine op_value nofun (hexec _ _ hr) (k _ _ w.heap.size (some (.cells ⟨cells⟩ e (0, 0))) _ _ (.inr ⟨rfl, ?_, cells, rfl, hrd, hcl⟩) ?_)
    · rw [List.length_append, ← hn]; exact grownCap_ge _ _ _ _
    · have hst : Sx N D ((d, .slice (some ⟨w.heap.size, 0, none⟩) (zs.length + n) (grownCap w (zs.length + n) c e)) :: T) ([(w.heap.size, some (.cells ⟨cells⟩ e (0, 0)))] ++ C) M w0 _ (w.drew.alloc (.cells ⟨cells⟩ e)) :=
        hs.step hd hf ((drew_kp w).trans (Kp.push [] w.drew _)) ⟨(new_push w.drew _).blk, (new_push w.drew (.cells ⟨cells⟩ e)).apart⟩
      exact hst.swap hb
  · rcases Nat.eq_zero_or_pos n with h0 | h0
    · -- nothing to write
      have hys0 : ys = [] := List.eq_nil_of_length_eq_zero (by omega)
      subst hys0
      subst h0
      have hr : (Builtin.append_ #[t, t] ty #[.slice A zs.length c, .slice A2 0 c2]).run P w = .ok (.slice A zs.length c) w := by
        have hf0 : (Builtin.firstCells info.size 0 (.slice A2 0 c2)).run P w = .ok #[] w := by
          cases A2 with
          | none => exact run_firstCells_none ..
          | some a2 => exact run_firstCells_some (P := P) w info.size 0 a2 0 c2 [] (by simp) (by simp)
        cases A with
        | none => simp [Builtin.append_, run_underlying ht, sizeOf, typeInfo, hinfo, Builtin.lenOf, hzc, hf0]
        | some a1 => simp [Builtin.append_, run_underlying ht, sizeOf, typeInfo, hinfo, Builtin.lenOf, hzc, hf0, storeCells]
      refine op_value nofun (hexec _ _ hr) (k A c b o _ _ (by rw [List.append_nil]; exact hown) ?_)
      rw [setAt_same hb, Nat.add_zero]
      exact hs.put hd hf
    · -- there is room
      obtain ⟨b2, o2, rfl⟩ := hAs h0
      rcases hown with ⟨rfl, rfl⟩ | ⟨rfl, h2, l, rfl, h4, h5⟩
      · simp at hg; omega
      · have hbx := (hs.blk _ (mem_nth hb) _ rfl).2
        have hfits : zs.length * info.size + (ys.flatMap enc).length ≤ (⟨l⟩ : Array Value).size := by
          rw [hlen, ← Nat.add_mul, hsz]
          exact Nat.le_trans (Nat.mul_le_mul_right _ hg) h5
        have hr := run_append_room (P := P) (w := w) t ty e info ht hinfo b zs.length c ⟨l⟩ hbx ⟨b2, o2, none⟩ n c2 (ys.flatMap enc) hlen (hnews b2 o2 rfl) hone hg hfits
        obtain ⟨l', hl'⟩ : ∃ l', l.take (zs.length * info.size) ++ ys.flatMap enc ++ l.drop (zs.length * info.size + (ys.flatMap enc).length) = l' := ⟨_, rfl⟩
        have hset : w.setRow b l'.toArray = World.withBlock w b (.cells ⟨l'⟩ e (0, 0)) := by
          simp only [World.setRow, World.withBlock]
          congr 1
          apply Array.ext_getElem?
          intro q
          rw [Array.getElem?_modify]
          by_cases hq : b = q
          · subst hq
            rw [if_pos rfl, hbx, Array.getElem?_setIfInBounds_self_of_lt (lt_of_some hbx)]
            simp
          · rw [if_neg hq, Array.getElem?_setIfInBounds_ne hq]
        simp only at hr
        rw [hl', hset] at hr
        refine op_value nofun (hexec _ _ hr) (k _ c b (some (.cells ⟨l'⟩ e (0, 0))) _ _ (.inr ⟨rfl, ?_, l', rfl, ?_, ?_⟩) ?_)
        · rw [List.length_append, ← hn]; exact hg
        · rw [← hl', List.append_assoc]
          refine reads_append henc ?_ ?_ (reads_flat henc _)
          · rw [hsz]; exact reads_take henc h4
          · rw [List.length_take, hsz, Nat.min_eq_left (Nat.le_trans (Nat.mul_le_mul_right _ h2) h5)]
        · have e1 : l'.length = l.length := by
            rw [← hl', List.length_append, List.length_append, List.length_take, List.length_drop]
            have : zs.length * info.size + (ys.flatMap enc).length ≤ l.length := hfits
            omega
          rw [e1]; exact h5
        · refine (hs.write (w' := World.withBlock w b (.cells ⟨l'⟩ e (0, 0))) hb ?_ ?_ (fun q hq => ?_) rfl rfl rfl).put hd hf
          · simp only [World.withBlock]; rw [Array.getElem?_setIfInBounds_self_of_lt (lt_of_some hbx)]
          · simp [World.withBlock]
          · simp only [World.withBlock]; rw [Array.getElem?_setIfInBounds_ne (fun e => hq e.symm)]
/-- 's[:h:h]' at the head of a slice of ours. -/
theorem st_slice3 {t e : TypeId} {x y z : Operand} {A : Option Addr} {n c h sz : Nat} (hs : Sx N D T C M w0 a w) (hx : Ev T x (.slice A n c)) (hy : Ev T y (.int .i64 (h : Int))) (hz : Ev T z (.int .i64 (h : Int))) (hd : Nat.blt d N = true) (hf : fresh d T = true)
    (hu : ∀ w, (underlying t).run P w = .ok (.slice e) w) (hsz : ∀ w, (sizeOf e).run P w = .ok sz w) (hc : h ≤ c)
    (k : ∀ A' a' w', (0 < h → A' = A) → Sx N D ((d, .slice A' h h) :: T) C M w0 a' w' → K a' w') : (Oper.mk (some d) (.slice t x none (some y) (some z)) ty pos aft g).wpIn (Fx r) 0 P a w K Q := by
  refine st_run (v := .slice (if h = 0 then A else A.map (·.add 0)) h h) hs nofun ?_ hd hf (fun a' w' h' => k _ a' w' (fun hp => ?_) h')
  · simp [execOp, hs.ev hx, hs.ev hy, hs.ev hz, Instr.sliceAt, Instr.slice, Instr.sliceBounds, Instr.sliceBound, asIntOf, hu, hsz]
    intro hh
    omega
  · rw [if_neg (by omega)]
    cases A with
    | none => rfl
    | some p =>
      obtain ⟨b, o, f⟩ := p
      simp [Addr.add]
/-- 's[:h]' -/
theorem st_slice2 {t e : TypeId} {x y : Operand} {A : Option Addr} {n c h sz : Nat} (hs : Sx N D T C M w0 a w) (hx : Ev T x (.slice A n c)) (hy : Ev T y (.int .i64 (h : Int))) (hd : Nat.blt d N = true) (hf : fresh d T = true)
    (hu : ∀ w, (underlying t).run P w = .ok (.slice e) w) (hsz : ∀ w, (sizeOf e).run P w = .ok sz w) (hc : h ≤ c)
    (k : ∀ a' w', Sx N D ((d, .slice A h c) :: T) C M w0 a' w' → K a' w') : (Oper.mk (some d) (.slice t x none (some y) none) ty pos aft g).wpIn (Fx r) 0 P a w K Q := by
  have hA : (if c = 0 then A else A.map (·.add 0)) = A := by
    split
    · rfl
    · cases A with
      | none => rfl
      | some p => obtain ⟨b, o, f⟩ := p; simp [Addr.add]
  refine st_run (v := .slice A h c) hs nofun ?_ hd hf k
  have : (execOp a.eval (Oper.mk (some d) (.slice t x none (some y) none) ty pos aft g)).run P w = .ok (.value (.slice (if c = 0 then A else A.map (·.add 0)) h c)) w := by
    simp [execOp, hs.ev hx, hs.ev hy, Instr.sliceAt, Instr.slice, Instr.sliceBounds, Instr.sliceBound, asIntOf, hu, hsz]
    intro hh
    omega
  rw [this, hA]
theorem st_mapUpdate {κ : Type} {enc : κ → Value} {good : κ → Value → Prop} {beq : κ → κ → Bool} {mt kt et : TypeId} {x y z : Operand} {m i : Nat} {es : Array MapEntry} {clock : Nat} {q : κ} {u : Value} (hs : Sx N D T C M w0 a w) (hx : Ev T x (.map (some m))) (hy : Ev T y (enc q)) (hz : Ev T z u)
    (hu : ∀ w, (underlying mt).run P w = .ok (.map kt et) w) (hwide : (match P.underlying kt with | some (.array _ _) | some (.struct _) => true | _ => false) = true)
    (heq : ∀ x y w, (Op.equal kt (enc x) (enc y)).run P w = .ok (beq x y) w) (hb : ∀ x y, beq x y = true → x = y) (hck : ∀ em x w, (Instr.checkKey em 10000 kt (enc x)).run P w = .ok () w) (hsm : ∀ x, Instr.sameBits 10000 (enc x) (enc x) = true)
    (hm : nth C i = some (m, some (.map es clock))) (he : Ents enc good es) (hg : good q u)
    (k : ∀ es' clock' a' w', Ents enc good es' → Sx N D T (setAt C i (m, some (.map es' clock'))) M w0 a' w' → K a' w') :
    (Oper.mk none (.mapUpdate mt x y z) ty pos aft g).wpIn (Fx r) 0 P a w K Q := by
  have hw := (hs.blk _ (mem_nth hm) _ rfl).2
  have hlt := lt_of_some hw
  obtain ⟨rr, h1, h2⟩ := run_find (P := P) heq q es.toList 0 he
  have hfk : ∀ w, (Instr.findKey kt (enc q) es.toList).run P w = .ok rr w := fun w => by rw [run_findKey_eq w hwide]; exact h1 w
  have fin : ∀ (es' : Array MapEntry) (clock' : Nat), Ents enc good es' → Sx N D T (setAt C i (m, some (.map es' clock'))) M w0 (a.put none undef) { w with heap := w.heap.setIfInBounds m (.map es' clock') } := fun es' clock' _ => by
    refine hs.write hm ?_ ?_ (fun q hq => ?_) rfl rfl rfl
    · simp only; rw [Array.getElem?_setIfInBounds_self_of_lt hlt]
    · simp
    · simp only; rw [Array.getElem?_setIfInBounds_ne (fun e => hq e.symm)]
  cases rr with
  | none =>
    have he' : Ents enc good (es.push { key := enc q, val := u, born := clock }) := fun e hem => by
      rw [Array.toList_push, List.mem_append] at hem
      rcases hem with hem | hem
      · exact he e hem
      · simp only [List.mem_singleton] at hem
        subst hem; exact ⟨q, rfl, hg⟩
    refine op_skip (w' := { w with heap := w.heap.setIfInBounds m (.map (es.push { key := enc q, val := u, born := clock }) (clock + 1)) }) nofun ?_ (k _ _ _ _ he' (fin _ _ he'))
    simp [execOp, hs.ev hx, hs.ev hy, hs.ev hz, Instr.mapUpdate, hu, getObj, setObj, Sem.run, hw, hck, hfk]
  | some p =>
    obtain ⟨j, v⟩ := p
    obtain ⟨-, e, k', hej, hek, hbk, rfl, hgk⟩ := h2 j v rfl
    have := hb q k' hbk
    subst this
    rw [Nat.sub_zero, Array.getElem?_toList] at hej
    have he' : Ents enc good (es.modify j fun e => { e with key := enc q, val := u }) := fun e' hem => by
      obtain ⟨t, ht⟩ := List.mem_iff_getElem?.1 hem
      rw [Array.getElem?_toList, Array.getElem?_modify] at ht
      split at ht
      · rw [Option.map_eq_some_iff] at ht
        obtain ⟨e0, -, rfl⟩ := ht
        exact ⟨q, rfl, hg⟩
      · exact he e' (by rw [List.mem_iff_getElem?]; exact ⟨t, by rw [Array.getElem?_toList]; exact ht⟩)
    refine op_skip (w' := { w with heap := w.heap.setIfInBounds m (.map (es.modify j fun e => { e with key := enc q, val := u }) clock) }) nofun ?_ (k _ _ _ _ he' (fin _ _ he'))
    simp [execOp, hs.ev hx, hs.ev hy, hs.ev hz, Instr.mapUpdate, hu, getObj, setObj, Sem.run, hw, hck, hfk, hej, hek, Instr.keyThatStays, hsm]
end

theorem Own.atMem {α : Type} {enc : α → List Value} {sz : Nat} {e : TypeId} {A : Option Addr} {c : Nat} {xs : List α} {b : Nat} {o : Option Obj} (h : Own enc sz e A c xs b o)
    {N : Nat} {D : List Deferred} {T : List (Nat × Value)} {B : List (Nat × Option Obj)} {M : List Nat} {w0 : World} {a : Act} {w : World} (hs : Sx N D T B M w0 a w) (hb : xs ≠ [] → (b, o) ∈ B) : SlAt enc sz w A xs.length xs := by
  refine ⟨rfl, fun j x hx => ?_⟩
  obtain ⟨h1, l, rfl, h3⟩ := h.open hx
  have h4 := (hs.blk _ (hb (by intro e; rw [e] at hx; simp at hx)) _ rfl).2
  refine ⟨b, 0, h1, lt_of_some h4, ?_⟩
  rw [Nat.zero_add]
  exact h3.at (CellsAt.of_block h4) hx
theorem reads_one {α : Type} {enc : α → List Value} {sz : Nat} {x : α} : Reads enc sz (enc x) [x] := by
  intro i y hy j v hv
  cases i with
  | zero => simp only [List.getElem?_cons_zero, Option.some.injEq] at hy; subst hy; rw [Nat.zero_mul, Nat.zero_add]; exact hv
  | succ i => simp at hy
theorem Own.isSome {α : Type} {enc : α → List Value} {sz : Nat} {e : TypeId} {A : Option Addr} {c : Nat} {xs : List α} {b : Nat} {o : Option Obj} (h : Own enc sz e A c xs b o) (hne : xs ≠ []) : ∃ x, o = some x := by
  rcases h with ⟨h, _⟩ | ⟨_, _, l, h, _⟩
  · exact absurd h hne
  · exact ⟨_, h⟩
theorem Sx.toTail {N : Nat} {D : List Deferred} {T : List (Nat × Value)} {M : List Nat} {w0 : World} {a : Act} {w : World} {p : Nat × Option Obj} (mid : List (Nat × Option Obj)) {G : List (Nat × Option Obj)} (hs : Sx N D T (p :: (mid ++ G)) M w0 a w) : Sx N D T (mid ++ (p :: G)) M w0 a w :=
  hs.perm List.perm_middle
theorem cd_scope {P : Program} {c : Code} {Q : Exit → Act → World → Prop} {a : Act} {w : World} (h : c.wpIn (Fx none) 0 P (Exit.noGoto Q) a w) : (Code.scope c).wpIn (Fx none) 0 P Q a w :=
  (wpIn_wide (n := 0)).2 (wp_scope_straight ((wpIn_wide (n := 0)).1 h))

/-- One cell of an element of a slice of ours is set. -/
theorem st_storeOwn {α : Type} {enc : α → List Value} {sz off kk c i b : Nat} {A : Option Addr} {t e : TypeId} {x y : Operand} {v : Value} {o : Option Obj} {xs : List α} {u u' : α}
    {N : Nat} {D : List Deferred} {T : List (Nat × Value)} {B : List (Nat × Option Obj)} {M : List Nat} {w0 : World} {a : Act} {w : World} {P : Program} {r : Option Nat} {Q : Exit → Act → World → Prop} {K : Act → World → Prop} {ty : TypeId} {pos : String} {aft : Array Edge} {g : Option (Nat × Bool)}
    (hs : Sx N D T B M w0 a w) (hx : Ev T x (.pointer (some ⟨b, kk * sz + off, none⟩))) (hy : Ev T y v) (hsz : ∀ w, (sizeOf t).run P w = .ok 1 w) (hb : nth B i = some (b, o)) (hown : Own enc sz e A c xs b o) (hk : xs[kk]? = some u)
    (henc : ∀ y, (enc y).length = sz) (hoff : off < sz) (hu : enc u' = (enc u).set off v) (hv : v.cells = ⟨[v]⟩) (h1 : one1 v = true)
    (k : ∀ o' a' w', Own enc sz e A c (xs.set kk u') b o' → Sx N D T (setAt B i (b, o')) M w0 a' w' → K a' w') : (Oper.mk none (.store t x y) ty pos aft g).wpIn (Fx r) 0 P a w K Q := by
  rcases hown with ⟨h, _⟩ | ⟨hA, hc, l, rfl, hr, hcl⟩
  · subst h; simp at hk
  · have hkl := (List.getElem?_eq_some_iff.1 hk).1
    have e1 : (kk + 1) * sz ≤ c * sz := Nat.mul_le_mul_right _ (Nat.le_trans hkl hc)
    rw [Nat.add_mul] at e1
    have hlt : kk * sz + off < l.length := by omega
    have hsp : splice l (kk * sz + off) [v] = some (l.set (kk * sz + off) v) := by
      rw [splice_eq _ _ _ (by simp; omega)]
      rw [List.set_eq_take_append_cons_drop, if_pos hlt]
      simp
    refine st_store (l' := l.set (kk * sz + off) v) (vs := [v]) (i := i) hs hx hy hsz hb hv rfl (by simp [h1]) hsp rfl (fun a' w' h => k _ a' w' (.inr ⟨hA, by rw [List.length_set]; exact hc, _, rfl, ?_, by rw [List.length_set]; exact hcl⟩) h)
    intro q z hz j s hj
    have hjs : j < sz := by rw [nth_get] at hj; have := (List.getElem?_eq_some_iff.1 hj).1; rwa [henc] at this
    rw [nth_get] at hj ⊢
    by_cases hq : q = kk
    · subst hq
      rw [List.getElem?_set_self hkl, Option.some.injEq] at hz
      subst hz
      rw [hu] at hj
      by_cases hjo : j = off
      · subst hjo
        rw [List.getElem?_set_self (by rw [henc]; exact hoff)] at hj
        rw [List.getElem?_set_self hlt]; exact hj
      · rw [List.getElem?_set_ne (fun e => hjo e.symm)] at hj
        rw [List.getElem?_set_ne (by omega)]
        have := hr q u hk j s (by rw [nth_get]; exact hj)
        rw [nth_get] at this; exact this
    · rw [List.getElem?_set_ne (fun e => hq e.symm)] at hz
      have := hr q z hz j s (by rw [nth_get]; exact hj)
      rw [nth_get] at this
      have hne : kk * sz + off ≠ q * sz + j := by
        intro e2
        rcases Nat.lt_or_gt_of_ne hq with h | h
        · have := Nat.mul_le_mul_right sz (show q + 1 ≤ kk from h); rw [Nat.add_mul] at this; omega
        · have := Nat.mul_le_mul_right sz (show kk + 1 ≤ q from h); rw [Nat.add_mul] at this; omega
      rw [List.getElem?_set_ne hne]; exact this
end Go.Sx
